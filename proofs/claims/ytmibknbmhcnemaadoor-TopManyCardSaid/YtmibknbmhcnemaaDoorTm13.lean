import Derived.Test.YtmibknbmhcnemaaDoorTm12
set_option linter.unusedVariables false
set_option linter.unusedSimpArgs false
namespace Go.Proofs.YtmibknbmhcnemaaDoor.A
attribute [local irreducible] zz Go
set_option maxRecDepth 100000
theorem vx {Γ:Gm} {xr:List XR} {D:DV} {st:St} {o1 o2:zc} (h1:x_ st xr) (h2:nfD Γ.g0 (xX (zU st xr))) (h3:xX (zU st xr)=D) (h0:y5 2 st.H=[some o1,some o2]) (n1:o1.n<Γ.g0) (x1:yL Γ.g0 o1.xs) (n2:o2.n<Γ.g0) (x2:yL Γ.g0 o2.xs):p9 Γ xr 2 (fun d H=>d=D∧H=[some o1,some o2]) st:=
 nn ⟨h1,h2,by rw [h0];exact ⟨⟨n1,x1⟩,⟨n2,x2⟩,trivial⟩,h3,h0⟩
abbrev rNs (l b1:Int) (t1:Nat) (b2:Int) (t2:Nat) (m len:Nat):List DV:=[.v (.int .i64 l),.v (.int .i64 b1),.v (.int .u64 (t1:Int)),.v (.int .i64 b2),.v (.int .u64 (t2:Int)),.sl 1 m 5 0 len false]
theorem u7 (g:Nat) (l:List Mp):yL g (l.map Mp.enc):=zj (fun x=>by simp [Mp.enc,nfL,nfD])
theorem ub (n m:Nat) (l b1:Int) (t1:Nat) (b2:Int) (t2 len:Nat) (ms:List Mp) (pr:Int) (hp:pr=17∨pr=6):zy Tryd.prog 56 [.ptr 0 n 6 0 0,.v (.int .i64 pr)] [some ⟨n,6,[rNs l b1 t1 b2 t2 m len]⟩,some ⟨m,5,ms.map Mp.enc⟩] (fun d H=>d=yt pr n 0∧H=[some ⟨n,6,[rNs l b1 t1 b2 t2 m len]⟩,some ⟨m,5,ms.map Mp.enc⟩]):=by
 by_cases h17:pr=17
 ·have e:yt pr n 0=.ptr 0 n 6 0 1:=by unfold yt;rw [if_pos h17]
  rw [e]
  refine zv {} 2 Tryd.func56 fun Γ hN0 hL0=>auC ?_
  have hn:=hN0 0 _ rfl
  have hm:=hN0 1 _ rfl
  repeat' first|refine auS ?_|fail|refine auD ?_|(refine auW ?_ ?_<;>intro h<;>try exact auH)|fail
  all_goals try exact auP
  refine vx trivial ?_ rfl rfl hn ?_ hm (u7 _ _)
  ·first
    |exact trivial
    |exact hn
    |(simp [zU,xX,nfD,nfL];done)
    |(show _<_;exact hn)
    |(show nfD _ _;simp [nfD,hn])
  ·exact ⟨⟨trivial,trivial,trivial,trivial,trivial,hm,trivial⟩,trivial⟩
 ·have h6:pr=6:=by omega
  have e:yt pr n 0=.ptr 0 n 6 0 3:=by unfold yt;rw [if_neg h17,if_pos h6]
  rw [e]
  refine zv {} 2 Tryd.func56 fun Γ hN0 hL0=>auC ?_
  have hn:=hN0 0 _ rfl
  have hm:=hN0 1 _ rfl
  repeat' first|refine auS ?_|fail|refine auD ?_|(refine auW ?_ ?_<;>intro h<;>try exact auH)|fail
  all_goals try exact auP
  refine vx trivial ?_ rfl rfl hn ?_ hm (u7 _ _)
  ·first
    |exact trivial
    |exact hn
    |(simp [zU,xX,nfD,nfL];done)
    |(show _<_;exact hn)
    |(show nfD _ _;simp [nfD,hn])
  ·exact ⟨⟨trivial,trivial,trivial,trivial,trivial,hm,trivial⟩,trivial⟩
set_option maxHeartbeats 1000000 in
theorem eH (l:List Mp) (i j:Nat) (hij:i≤j) (hj:j≤l.length) (hl:l.length≤maxLen) (n:Nat):zy Tryd.prog 87 [.sl 0 n 5 0 l.length false,.v (.int .i64 i),.v (.int .i64 j)] [some ⟨n,5,l.map Mp.enc⟩] (fun d H=>d=.sl 0 n 5 0 (l.take i++l.drop j).length false∧H=[some ⟨n,5,(l.take i++l.drop j).map Mp.enc⟩]):=by
 have hones:∀r:List Mp,zC (r.map Mp.enc)=true:=yi (fun x=>rfl)
 have ej:zx (zD (l.map Mp.enc) j) ((l.length:Int)-j).toNat=(l.drop j).map Mp.enc:=by rw [zl,zT,←List.map_drop,←List.map_take,List.take_of_length_le (by rw [List.length_drop];omega)]
 have hlen:(zx (l.map Mp.enc) i++((l.drop j).map Mp.enc++zD (l.map Mp.enc) (i+(l.length-j)))).length=l.length:=by rw [zl,zT];simp;omega
 unfold maxLen at hl
 refine zv {inpl:=true} 1 Tryd.func87 fun Γ hN0 hL0=>auC ?_
 have hn:n<Γ.g0:=hN0 0 _ rfl
 repeat' first|refine auS ?_|fail|refine auD ?_|(refine auW ?_ ?_<;>intro h<;>try exact auH)|(first|(simp only [Int.toNat_natCast,Nat.zero_add,ej,List.length_map,List.length_drop])|(refine za ⟨by trivial,by trivial,by trivial,by omega,hones _⟩ ?_)|(refine za ⟨by trivial,by trivial,by trivial,by omega,by omega,by omega,by (rw [hlen];omega)⟩ ?_)|(refine za ⟨by trivial,by trivial,by trivial,by (rw [hlen];omega),by trivial⟩ ?_)|fail)
 ·have hij2:i=j:=by (simp only [hsL,reduceCtorEq] at *<;>omega)
  subst hij2
  rw [List.take_append_drop]
  exact yI trivial hn rfl rfl hn (zj (fun x=>by simp [nfL,nfD])) rfl
 ·refine zw (yZ (ip ⟨.d0,.d0,.d6⟩ rfl)) (zw (yZ (pd 0 (i+(l.length-j)) rfl)) (yI trivial hn ?_ rfl hn (zj (fun x=>by simp [nfL,nfD])) ?_))
  ·have e:(l.take i++l.drop j).length=i+(l.length-j):=by simp;omega
   rw [e]
   rfl
  ·refine (iI (by rw [zl];simp;omega)).trans ?_
   rw [zl,List.map_append,List.map_take]
theorem sI (k:Nat) (l:List Mp) (i j:Nat) (hij:i≤j) (hj:j≤l.length) (hl:l.length≤maxLen) (n:Nat):zy Tryd.prog 87 [.sl k n 5 0 l.length false,.v (.int .i64 i),.v (.int .i64 j)] [some ⟨n,5,l.map Mp.enc⟩] (fun d H=>d=.sl k n 5 0 (l.take i++l.drop j).length false∧H=[some ⟨n,5,(l.take i++l.drop j).map Mp.enc⟩]):=
 zL k (uu (eH l i j hij hj hl n) (fun _ _ _=>wS))
set_option maxHeartbeats 4000000 in
theorem qM (l b1 b2 now:Int) (ms:List Mp) (n m:Nat) (hg:tc b1 b2 ms) (hb:pOk b1=true∧pOk b2=true) (hl:ms.length≤maxLen) (hlf:1≤l∧l≤1000000) (hnow:0≤now∧now≤1099511627776) :
  zy Tryd.prog 86 [.ptr 0 n 6 0 0,.v (.int .i64 now)] [some ⟨n,6,[rNs l b1 (bs b1 17 ms) b2 (bs b2 6 ms) m ms.length]⟩,some ⟨m,5,ms.map Mp.enc⟩]
   (fun d H=>d=.tup []∧H=[some ⟨n,6,[rNs l b1 (bs b1 17 (yng l now ms)) b2 (bs b2 6 (yng l now ms)) m (yng l now ms).length]⟩,some ⟨m,5,(yng l now ms).map Mp.enc⟩]):=by
 have hlen:(ms.map Mp.enc).length=ms.length:=List.length_map _
 have hl':=hl
 unfold maxLen at hl'
 have hfin:∀k,k≤ms.length→zy Tryd.prog 87 [.sl 1 m 5 0 ms.length false,.v (.int .i64 0),.v (.int .i64 (k:Nat))] [some ⟨m,5,ms.map Mp.enc⟩] (fun d H=>d=.sl 1 m 5 0 (ms.drop k).length false∧H=[some ⟨m,5,(ms.drop k).map Mp.enc⟩]):=fun k hk=>sI 1 ms 0 k (Nat.zero_le _) hk hl m
 refine zv {} 2 Tryd.func86 fun Γ hN0 hL0=>auC ?_
 have hn:=hN0 0 _ rfl
 have hm:=hN0 1 _ rfl
 repeat' first|refine auS ?_|fail|refine auD ?_|(refine auW ?_ ?_<;>intro h<;>try exact auH)|fail
 refine zE (α:=Nat×Nat) (fun p=>[(⟨.d0,.d0,.d4⟩,.v (.int .i64 (p.1:Nat)))]) (fun p=>[(0,some ⟨n,6,[rNs l b1 (bs b1 17 (ms.drop p.1)) b2 (bs b2 6 (ms.drop p.1)) m ms.length]⟩)]) (fun p=>p.2) (fun p=>ms.length-p.1) (fun p=>p.1≤ms.length∧∀y∈ms.take p.1,ue l now y=false) (0,Γ.g0) ⟨Nat.zero_le _,fun y hy=>by simp at hy⟩ ?_ ?_
 ·skip
  refine zt ?_ ?_ (Nat.le_refl _)
  all_goals first|refine auE ?_|exact zR
  all_goals repeat' first|exact trivial|exact rfl|apply And.intro
 rintro ⟨k,gn⟩ ⟨hk,hold0⟩
 dsimp only at hk hold0 ⊢
 refine auL ?_
 have hend0:∀(hk:∀t,ms[k]?=some t→ue l now t=true),zy Tryd.prog 87 [.sl 1 m 5 0 ms.length false,.v (.int .i64 0),.v (.int .i64 (k:Nat))] [some ⟨m,5,ms.map Mp.enc⟩] (fun d H=>d=.sl 1 m 5 0 (yng l now ms).length false∧H=[some ⟨m,5,(yng l now ms).map Mp.enc⟩]):=fun h=>by
  rw [n9 hg k hold0 h]
  exact hfin k hk
 by_cases hlt:k<ms.length
 ·obtain ⟨t,ht⟩:∃t,ms[k]?=some t:=⟨_,List.getElem?_eq_getElem hlt⟩
  have ex:=wI ht
  have htm:=hg.tm t (List.mem_of_getElem? ht)
  have hw1:IntKind.i64.wrap (now-t.tm)=now-t.tm:=IntWalk.i64_in _ (by omega)
  have hwk:IntKind.i64.wrap ((k:Int)+1)=((k+1:Nat):Int):=(IntWalk.i64_in _ (by omega)).trans (by omega)
  have hdc:ms.drop k=t::ms.drop (k+1):=by rw [List.drop_eq_getElem_cons hlt,show ms[k]=t from Option.some.inj ((List.getElem?_eq_getElem hlt).symm.trans ht)]
  have hgd:=hg.sub (List.drop_sublist k ms)
  cases hy:ue l now t with
  |true=>
   have hdel:=hend0 (fun t' ht'=>by obtain rfl:=Option.some.inj (ht'.symm.trans ht);exact hy)
   have hye:=n9 hg k hold0 (fun t' ht'=>by obtain rfl:=Option.some.inj (ht'.symm.trans ht);exact hy)
   rw [←hye]
   unfold ue at hy
   have hy':=of_decide_eq_true hy
   have hpl:True:=trivial
   have hend:True:=trivial
   generalize bs b1 17 (yng l now ms)=T1 at *
   generalize bs b2 6 (yng l now ms)=T2 at *
   repeat' first|refine auS ?_|(first|(refine z7 1 rfl hdel (fun _ _ _ h=>h) ?_)|(simp only [hw1,hwk,hlen]))|refine auD ?_|(refine auW ?_ ?_<;>intro h<;>try exact auH)|(first|(simp only [Int.toNat_natCast,Nat.zero_add,ex])|(refine za ⟨by (try rw [hlen]);omega,by trivial⟩ ?_)|fail)
   all_goals try exact auP
   all_goals first
    |(exfalso;simp at h;done)
    |skip
   refine vx trivial trivial rfl rfl hn ?_ hm (u7 _ _)
   exact ⟨⟨trivial,trivial,trivial,trivial,trivial,hm,trivial⟩,trivial⟩
  |false=>
   have hold:∀y∈ms.take (k+1),ue l now y=false:=fun y hy'=>by
    rw [List.take_add_one,ht] at hy'
    rcases List.mem_append.1 hy' with h|h
    ·exact hold0 y h
    ·obtain rfl:=List.mem_singleton.1 h
     exact hy
   unfold ue at hy
   rw [decide_eq_false_iff_not] at hy
   have hend1:True:=trivial
   rw [hdc]
   have hgc:=hg.sub (List.drop_sublist k ms)
   rw [hdc] at hgc
   rcases hg.pr t (List.mem_of_getElem? ht) with hp|hp
   ·have hpl:=ub n m l b1 (bs b1 17 (t::ms.drop (k+1))) b2 (bs b2 6 (t::ms.drop (k+1))) ms.length ms t.pr (.inl hp)
    rw [hp] at hpl ex
    rw [show yt 17 n 0=.ptr 0 n 6 0 1 from rfl] at hpl
    obtain ⟨q1,q2⟩:=kd hgc.r1 hgc.nd hp
    have hend:=sc b1 (bs b1 17 (t::ms.drop (k+1))) t.ou (vO b1 17 _ hgc.r1 hgc.nd).1
    rw [(su hb.1).2 q1,(se hb.1 q1).1,(se hb.1 q1).2,q2] at hend
    have hsk:bs b2 6 (t::ms.drop (k+1))=bs b2 6 (ms.drop (k+1)):=gA (by omega)
    rw [hsk] at hpl ⊢
    repeat' first|refine auS ?_|(first|(refine xV 0 1 (by decide) rfl rfl hpl (fun _ _ _ h=>h) ?_)|(with_reducible refine z0 hend ?_)|(simp only [hw1,hwk,hlen]))|refine auD ?_|(refine auW ?_ ?_<;>intro h<;>try exact auH)|(first|(simp only [Int.toNat_natCast,Nat.zero_add,ex])|(refine za ⟨by (try rw [hlen]);omega,by trivial⟩ ?_)|fail)
    all_goals try exact auP
    all_goals first
     |(exfalso;simp at h;done)
     |skip
    refine zp ⟨(k+1,gn),⟨hlt,hold⟩,Nat.sub_lt_sub_left hlt (Nat.lt_succ_self k),?_⟩
    refine zt ?_ ?_ (Nat.le_refl _)
    all_goals first|refine auE ?_|exact zR
    all_goals repeat' first|exact trivial|exact rfl|apply And.intro
   ·have hpl:=ub n m l b1 (bs b1 17 (t::ms.drop (k+1))) b2 (bs b2 6 (t::ms.drop (k+1))) ms.length ms t.pr (.inr hp)
    rw [hp] at hpl ex
    rw [show yt 6 n 0=.ptr 0 n 6 0 3 from rfl] at hpl
    obtain ⟨q1,q2⟩:=kd hgc.r2 hgc.nd hp
    have hend:=sc b2 (bs b2 6 (t::ms.drop (k+1))) t.ou (vO b2 6 _ hgc.r2 hgc.nd).1
    rw [(su hb.2).2 q1,(se hb.2 q1).1,(se hb.2 q1).2,q2] at hend
    have hsk:bs b1 17 (t::ms.drop (k+1))=bs b1 17 (ms.drop (k+1)):=gA (by omega)
    rw [hsk] at hpl ⊢
    repeat' first|refine auS ?_|(first|(refine xV 0 1 (by decide) rfl rfl hpl (fun _ _ _ h=>h) ?_)|(with_reducible refine z0 hend ?_)|(simp only [hw1,hwk,hlen]))|refine auD ?_|(refine auW ?_ ?_<;>intro h<;>try exact auH)|(first|(simp only [Int.toNat_natCast,Nat.zero_add,ex])|(refine za ⟨by (try rw [hlen]);omega,by trivial⟩ ?_)|fail)
    all_goals try exact auP
    all_goals first
     |(exfalso;simp at h;done)
     |skip
    refine zp ⟨(k+1,gn),⟨hlt,hold⟩,Nat.sub_lt_sub_left hlt (Nat.lt_succ_self k),?_⟩
    refine zt ?_ ?_ (Nat.le_refl _)
    all_goals first|refine auE ?_|exact zR
    all_goals repeat' first|exact trivial|exact rfl|apply And.intro
 obtain rfl:k=ms.length:=by omega
 have hdel:=hend0 (fun t' ht'=>by rw [List.getElem?_eq_none (Nat.le_refl _)] at ht';cases ht')
 have hye:=n9 hg ms.length hold0 (fun t' ht'=>by rw [List.getElem?_eq_none (Nat.le_refl _)] at ht';cases ht')
 rw [←hye]
 generalize bs b1 17 (yng l now ms)=T1 at *
 generalize bs b2 6 (yng l now ms)=T2 at *
 repeat' first|refine auS ?_|(first|(refine z7 1 rfl hdel (fun _ _ _ h=>h) ?_)|(simp only [hlen]))|refine auD ?_|(refine auW ?_ ?_<;>intro h<;>try exact auH)|(first|(simp only [Int.toNat_natCast,Nat.zero_add])|fail)
 all_goals try exact auP
 all_goals first
  |(exfalso;simp at h;done)
  |skip
 refine vx trivial trivial rfl rfl hn ?_ hm (u7 _ _)
 exact ⟨⟨trivial,trivial,trivial,trivial,trivial,hm,trivial⟩,trivial⟩
end Go.Proofs.YtmibknbmhcnemaaDoor.A
