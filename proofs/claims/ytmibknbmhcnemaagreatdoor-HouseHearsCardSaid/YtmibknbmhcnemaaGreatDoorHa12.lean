import Derived.Test.YtmibknbmhcnemaaGreatDoorHa11
set_option linter.unusedVariables false
set_option linter.unusedSimpArgs false
namespace Go.Proofs.YtmibknbmhcnemaaGreatDoor.A
attribute [local irreducible] zF Go
set_option maxRecDepth 100000
theorem tn {Γ:Gm} {xr:List XR} {D:DV} {st:St} {o1 o2:zo} (h1:w_ st xr) (h2:nfD Γ.g0 (vj (yu st xr))) (h3:vj (yu st xr)=D) (h0:yE 2 st.H=[some o1,some o2]) (n1:o1.n<Γ.g0) (x1:xi Γ.g0 o1.xs) (n2:o2.n<Γ.g0) (x2:xi Γ.g0 o2.xs):nx Γ xr 2 (fun d H=>d=D∧H=[some o1,some o2]) st:=
 ma ⟨h1,h2,by rw [h0];exact ⟨⟨n1,x1⟩,⟨n2,x2⟩,trivial⟩,h3,h0⟩
abbrev rNs (l b1:Int) (t1:Nat) (b2:Int) (t2:Nat) (m len:Nat):List DV:=[.v (.int .i64 l),.v (.int .i64 b1),.v (.int .u64 (t1:Int)),.v (.int .i64 b2),.v (.int .u64 (t2:Int)),.sl 1 m 5 0 len false]
theorem xY (g:Nat) (l:List Mp):xi g (l.map Mp.enc):=zn (fun x=>by simp [Mp.enc,nfL,nfD])
theorem tI (n m:Nat) (l b1:Int) (t1:Nat) (b2:Int) (t2 len:Nat) (ms:List Mp) (pr:Int) (hp:pr=17∨pr=6):zS Tryz.prog 72 [.ptr 0 n 6 0 0,.v (.int .i64 pr)] [some ⟨n,6,[rNs l b1 t1 b2 t2 m len]⟩,some ⟨m,5,ms.map Mp.enc⟩] (fun d H=>d=x6 pr n 0∧H=[some ⟨n,6,[rNs l b1 t1 b2 t2 m len]⟩,some ⟨m,5,ms.map Mp.enc⟩]):=by
 by_cases h17:pr=17
 ·have e:x6 pr n 0=.ptr 0 n 6 0 1:=by unfold x6;rw [if_pos h17]
  rw [e]
  refine y4 {} 2 Tryz.func72 fun Γ hN0 hL0=>auC ?_
  have hn:=hN0 0 _ rfl
  have hm:=hN0 1 _ rfl
  repeat' first|refine auS ?_|fail|refine auD ?_|(refine auW ?_ ?_<;>intro h<;>try exact auH)|fail
  all_goals try exact auP
  refine tn trivial ?_ rfl rfl hn ?_ hm (xY _ _)
  ·first
    |exact trivial
    |exact hn
    |(simp [yu,vj,nfD,nfL];done)
    |(show _<_;exact hn)
    |(show nfD _ _;simp [nfD,hn])
  ·exact ⟨⟨trivial,trivial,trivial,trivial,trivial,hm,trivial⟩,trivial⟩
 ·have h6:pr=6:=by omega
  have e:x6 pr n 0=.ptr 0 n 6 0 3:=by unfold x6;rw [if_neg h17,if_pos h6]
  rw [e]
  refine y4 {} 2 Tryz.func72 fun Γ hN0 hL0=>auC ?_
  have hn:=hN0 0 _ rfl
  have hm:=hN0 1 _ rfl
  repeat' first|refine auS ?_|fail|refine auD ?_|(refine auW ?_ ?_<;>intro h<;>try exact auH)|fail
  all_goals try exact auP
  refine tn trivial ?_ rfl rfl hn ?_ hm (xY _ _)
  ·first
    |exact trivial
    |exact hn
    |(simp [yu,vj,nfD,nfL];done)
    |(show _<_;exact hn)
    |(show nfD _ _;simp [nfD,hn])
  ·exact ⟨⟨trivial,trivial,trivial,trivial,trivial,hm,trivial⟩,trivial⟩
set_option maxHeartbeats 1000000 in
theorem Z3 (l:List Mp) (i j:Nat) (hij:i≤j) (hj:j≤l.length) (hl:l.length≤maxLen) (n:Nat):zS Tryz.prog 159 [.sl 0 n 5 0 l.length false,.v (.int .i64 i),.v (.int .i64 j)] [some ⟨n,5,l.map Mp.enc⟩] (fun d H=>d=.sl 0 n 5 0 (l.take i++l.drop j).length false∧H=[some ⟨n,5,(l.take i++l.drop j).map Mp.enc⟩]):=by
 have hones:∀r:List Mp,y5 (r.map Mp.enc)=true:=ya (fun x=>rfl)
 have ej:zM (zV (l.map Mp.enc) j) ((l.length:Int)-j).toNat=(l.drop j).map Mp.enc:=by rw [zz,zY,←List.map_drop,←List.map_take,List.take_of_length_le (by rw [List.length_drop];omega)]
 have hlen:(zM (l.map Mp.enc) i++((l.drop j).map Mp.enc++zV (l.map Mp.enc) (i+(l.length-j)))).length=l.length:=by rw [zz,zY];simp;omega
 unfold maxLen at hl
 refine y4 {inpl:=true} 1 Tryz.func159 fun Γ hN0 hL0=>auC ?_
 have hn:n<Γ.g0:=hN0 0 _ rfl
 repeat' first|refine auS ?_|fail|refine auD ?_|(refine auW ?_ ?_<;>intro h<;>try exact auH)|(first|(simp only [Int.toNat_natCast,Nat.zero_add,ej,List.length_map,List.length_drop])|(refine z7 ⟨by trivial,by trivial,by trivial,by omega,hones _⟩ ?_)|(refine z7 ⟨by trivial,by trivial,by trivial,by omega,by omega,by omega,by (rw [hlen];omega)⟩ ?_)|(refine z7 ⟨by trivial,by trivial,by trivial,by (rw [hlen];omega),by trivial⟩ ?_)|fail)
 ·have hij2:i=j:=by (simp only [hsL,reduceCtorEq] at *<;>omega)
  subst hij2
  rw [List.take_append_drop]
  exact xn trivial hn rfl rfl hn (zn (fun x=>by simp [nfL,nfD])) rfl
 ·refine zt (yM (dc ⟨.d0,.d0,.d6⟩ rfl)) (zt (yM (nP 0 (i+(l.length-j)) rfl)) (xn trivial hn ?_ rfl hn (zn (fun x=>by simp [nfL,nfD])) ?_))
  ·have e:(l.take i++l.drop j).length=i+(l.length-j):=by simp;omega
   rw [e]
   rfl
  ·refine (fW (by rw [zz];simp;omega)).trans ?_
   rw [zz,List.map_append,List.map_take]
theorem qt (k:Nat) (l:List Mp) (i j:Nat) (hij:i≤j) (hj:j≤l.length) (hl:l.length≤maxLen) (n:Nat):zS Tryz.prog 159 [.sl k n 5 0 l.length false,.v (.int .i64 i),.v (.int .i64 j)] [some ⟨n,5,l.map Mp.enc⟩] (fun d H=>d=.sl k n 5 0 (l.take i++l.drop j).length false∧H=[some ⟨n,5,(l.take i++l.drop j).map Mp.enc⟩]):=
 yl k (se (Z3 l i j hij hj hl n) (fun _ _ _=>wq))
set_option maxHeartbeats 4000000 in
theorem oV (l b1 b2 now:Int) (ms:List Mp) (n m:Nat) (hg:uh b1 b2 ms) (hb:pOk b1=true∧pOk b2=true) (hl:ms.length≤maxLen) (hlf:1≤l∧l≤1000000) (hnow:0≤now∧now≤1099511627776) :
  zS Tryz.prog 158 [.ptr 0 n 6 0 0,.v (.int .i64 now)] [some ⟨n,6,[rNs l b1 (bs b1 17 ms) b2 (bs b2 6 ms) m ms.length]⟩,some ⟨m,5,ms.map Mp.enc⟩]
   (fun d H=>d=.tup []∧H=[some ⟨n,6,[rNs l b1 (bs b1 17 (yng l now ms)) b2 (bs b2 6 (yng l now ms)) m (yng l now ms).length]⟩,some ⟨m,5,(yng l now ms).map Mp.enc⟩]):=by
 have hlen:(ms.map Mp.enc).length=ms.length:=List.length_map _
 have hl':=hl
 unfold maxLen at hl'
 have hfin:∀k,k≤ms.length→zS Tryz.prog 159 [.sl 1 m 5 0 ms.length false,.v (.int .i64 0),.v (.int .i64 (k:Nat))] [some ⟨m,5,ms.map Mp.enc⟩] (fun d H=>d=.sl 1 m 5 0 (ms.drop k).length false∧H=[some ⟨m,5,(ms.drop k).map Mp.enc⟩]):=fun k hk=>qt 1 ms 0 k (Nat.zero_le _) hk hl m
 refine y4 {} 2 Tryz.func158 fun Γ hN0 hL0=>auC ?_
 have hn:=hN0 0 _ rfl
 have hm:=hN0 1 _ rfl
 repeat' first|refine auS ?_|fail|refine auD ?_|(refine auW ?_ ?_<;>intro h<;>try exact auH)|fail
 refine ze (α:=Nat×Nat) (fun p=>[(⟨.d0,.d0,.d4⟩,.v (.int .i64 (p.1:Nat)))]) (fun p=>[(0,some ⟨n,6,[rNs l b1 (bs b1 17 (ms.drop p.1)) b2 (bs b2 6 (ms.drop p.1)) m ms.length]⟩)]) (fun p=>p.2) (fun p=>ms.length-p.1) (fun p=>p.1≤ms.length∧∀y∈ms.take p.1,vx l now y=false) (0,Γ.g0) ⟨Nat.zero_le _,fun y hy=>by simp at hy⟩ ?_ ?_
 ·skip
  refine zb ?_ ?_ (Nat.le_refl _)
  all_goals first|refine auE ?_|exact zi
  all_goals repeat' first|exact trivial|exact rfl|apply And.intro
 rintro ⟨k,gn⟩ ⟨hk,hold0⟩
 dsimp only at hk hold0 ⊢
 refine auL ?_
 have hend0:∀(hk:∀t,ms[k]?=some t→vx l now t=true),zS Tryz.prog 159 [.sl 1 m 5 0 ms.length false,.v (.int .i64 0),.v (.int .i64 (k:Nat))] [some ⟨m,5,ms.map Mp.enc⟩] (fun d H=>d=.sl 1 m 5 0 (yng l now ms).length false∧H=[some ⟨m,5,(yng l now ms).map Mp.enc⟩]):=fun h=>by
  rw [l5 hg k hold0 h]
  exact hfin k hk
 by_cases hlt:k<ms.length
 ·obtain ⟨t,ht⟩:∃t,ms[k]?=some t:=⟨_,List.getElem?_eq_getElem hlt⟩
  have ex:=y8 ht
  have htm:=hg.tm t (List.mem_of_getElem? ht)
  have hw1:IntKind.i64.wrap (now-t.tm)=now-t.tm:=IntWalk.i64_in _ (by omega)
  have hwk:IntKind.i64.wrap ((k:Int)+1)=((k+1:Nat):Int):=(IntWalk.i64_in _ (by omega)).trans (by omega)
  have hdc:ms.drop k=t::ms.drop (k+1):=by rw [List.drop_eq_getElem_cons hlt,show ms[k]=t from Option.some.inj ((List.getElem?_eq_getElem hlt).symm.trans ht)]
  have hgd:=hg.sub (List.drop_sublist k ms)
  cases hy:vx l now t with
  |true=>
   have hdel:=hend0 (fun t' ht'=>by obtain rfl:=Option.some.inj (ht'.symm.trans ht);exact hy)
   have hye:=l5 hg k hold0 (fun t' ht'=>by obtain rfl:=Option.some.inj (ht'.symm.trans ht);exact hy)
   rw [←hye]
   unfold vx at hy
   have hy':=of_decide_eq_true hy
   have hpl:True:=trivial
   have hend:True:=trivial
   generalize bs b1 17 (yng l now ms)=T1 at *
   generalize bs b2 6 (yng l now ms)=T2 at *
   repeat' first|refine auS ?_|(first|(refine z9 1 rfl hdel (fun _ _ _ h=>h) ?_)|(simp only [hw1,hwk,hlen]))|refine auD ?_|(refine auW ?_ ?_<;>intro h<;>try exact auH)|(first|(simp only [Int.toNat_natCast,Nat.zero_add,ex])|(refine z7 ⟨by (try rw [hlen]);omega,by trivial⟩ ?_)|fail)
   all_goals try exact auP
   all_goals first
    |(exfalso;simp at h;done)
    |skip
   refine tn trivial trivial rfl rfl hn ?_ hm (xY _ _)
   exact ⟨⟨trivial,trivial,trivial,trivial,trivial,hm,trivial⟩,trivial⟩
  |false=>
   have hold:∀y∈ms.take (k+1),vx l now y=false:=fun y hy'=>by
    rw [List.take_add_one,ht] at hy'
    rcases List.mem_append.1 hy' with h|h
    ·exact hold0 y h
    ·obtain rfl:=List.mem_singleton.1 h
     exact hy
   unfold vx at hy
   rw [decide_eq_false_iff_not] at hy
   have hend1:True:=trivial
   rw [hdc]
   have hgc:=hg.sub (List.drop_sublist k ms)
   rw [hdc] at hgc
   rcases hg.pr t (List.mem_of_getElem? ht) with hp|hp
   ·have hpl:=tI n m l b1 (bs b1 17 (t::ms.drop (k+1))) b2 (bs b2 6 (t::ms.drop (k+1))) ms.length ms t.pr (.inl hp)
    rw [hp] at hpl ex
    rw [show x6 17 n 0=.ptr 0 n 6 0 1 from rfl] at hpl
    obtain ⟨q1,q2⟩:=g9 hgc.r1 hgc.nd hp
    have hend:=qe b1 (bs b1 17 (t::ms.drop (k+1))) t.ou (vm b1 17 _ hgc.r1 hgc.nd).1
    rw [(qf hb.1).2 q1,(qb hb.1 q1).1,(qb hb.1 q1).2,q2] at hend
    have hsk:bs b2 6 (t::ms.drop (k+1))=bs b2 6 (ms.drop (k+1)):=cP (by omega)
    rw [hsk] at hpl ⊢
    repeat' first|refine auS ?_|(first|(refine v_ 0 1 (by decide) rfl rfl hpl (fun _ _ _ h=>h) ?_)|(with_reducible refine z0 hend ?_)|(simp only [hw1,hwk,hlen]))|refine auD ?_|(refine auW ?_ ?_<;>intro h<;>try exact auH)|(first|(simp only [Int.toNat_natCast,Nat.zero_add,ex])|(refine z7 ⟨by (try rw [hlen]);omega,by trivial⟩ ?_)|fail)
    all_goals try exact auP
    all_goals first
     |(exfalso;simp at h;done)
     |skip
    refine za ⟨(k+1,gn),⟨hlt,hold⟩,Nat.sub_lt_sub_left hlt (Nat.lt_succ_self k),?_⟩
    refine zb ?_ ?_ (Nat.le_refl _)
    all_goals first|refine auE ?_|exact zi
    all_goals repeat' first|exact trivial|exact rfl|apply And.intro
   ·have hpl:=tI n m l b1 (bs b1 17 (t::ms.drop (k+1))) b2 (bs b2 6 (t::ms.drop (k+1))) ms.length ms t.pr (.inr hp)
    rw [hp] at hpl ex
    rw [show x6 6 n 0=.ptr 0 n 6 0 3 from rfl] at hpl
    obtain ⟨q1,q2⟩:=g9 hgc.r2 hgc.nd hp
    have hend:=qe b2 (bs b2 6 (t::ms.drop (k+1))) t.ou (vm b2 6 _ hgc.r2 hgc.nd).1
    rw [(qf hb.2).2 q1,(qb hb.2 q1).1,(qb hb.2 q1).2,q2] at hend
    have hsk:bs b1 17 (t::ms.drop (k+1))=bs b1 17 (ms.drop (k+1)):=cP (by omega)
    rw [hsk] at hpl ⊢
    repeat' first|refine auS ?_|(first|(refine v_ 0 1 (by decide) rfl rfl hpl (fun _ _ _ h=>h) ?_)|(with_reducible refine z0 hend ?_)|(simp only [hw1,hwk,hlen]))|refine auD ?_|(refine auW ?_ ?_<;>intro h<;>try exact auH)|(first|(simp only [Int.toNat_natCast,Nat.zero_add,ex])|(refine z7 ⟨by (try rw [hlen]);omega,by trivial⟩ ?_)|fail)
    all_goals try exact auP
    all_goals first
     |(exfalso;simp at h;done)
     |skip
    refine za ⟨(k+1,gn),⟨hlt,hold⟩,Nat.sub_lt_sub_left hlt (Nat.lt_succ_self k),?_⟩
    refine zb ?_ ?_ (Nat.le_refl _)
    all_goals first|refine auE ?_|exact zi
    all_goals repeat' first|exact trivial|exact rfl|apply And.intro
 obtain rfl:k=ms.length:=by omega
 have hdel:=hend0 (fun t' ht'=>by rw [List.getElem?_eq_none (Nat.le_refl _)] at ht';cases ht')
 have hye:=l5 hg ms.length hold0 (fun t' ht'=>by rw [List.getElem?_eq_none (Nat.le_refl _)] at ht';cases ht')
 rw [←hye]
 generalize bs b1 17 (yng l now ms)=T1 at *
 generalize bs b2 6 (yng l now ms)=T2 at *
 repeat' first|refine auS ?_|(first|(refine z9 1 rfl hdel (fun _ _ _ h=>h) ?_)|(simp only [hlen]))|refine auD ?_|(refine auW ?_ ?_<;>intro h<;>try exact auH)|(first|(simp only [Int.toNat_natCast,Nat.zero_add])|fail)
 all_goals try exact auP
 all_goals first
  |(exfalso;simp at h;done)
  |skip
 refine tn trivial trivial rfl rfl hn ?_ hm (xY _ _)
 exact ⟨⟨trivial,trivial,trivial,trivial,trivial,hm,trivial⟩,trivial⟩
end Go.Proofs.YtmibknbmhcnemaaGreatDoor.A
namespace Go.Proofs.YtmibknbmhcnemaaGreatDoor.A
attribute [local irreducible] zF Go
set_option maxRecDepth 100000
set_option maxHeartbeats 1000000 in
theorem Yq (l:List Mp) (c:Bool) (hl:zT l.length 40):vA Tryz.prog 58 [.snap 5 (l.map Mp.enc) c] [] (fun n d H=>d=.sl 1 n 5 0 l.length false∧H=[some ⟨n,5,l.map Mp.enc⟩]):=by
 have hones:∀r:List Mp,y5 (r.map Mp.enc)=true:=ya (fun x=>rfl)
 cases l with
 |nil=>
  refine sd {} 0 Tryz.func58 fun Γ hW=>auC ?_
  dsimp only [List.map]
  repeat' first|refine auS ?_|(with_reducible refine yA ?_)|refine auD ?_|(refine auW ?_ ?_<;>intro h<;>try exact auH)|fail
  ·refine k9 (yM (xa ⟨.d0,.d0,.d2⟩ 1 5 rfl rfl)) ?_
   exact ws 1 (fun n=>.sl 1 n 5 0 0 false) trivial rfl (Nat.le_refl _) trivial (fun n=>.inl ⟨rfl,rfl⟩) (fun n=>⟨rfl,rfl⟩)
  ·exact ws 1 (fun n=>.sl 1 n 5 0 0 false) trivial rfl (by show Γ.g0≤Γ.g0+1;omega) trivial (fun n=>.inl ⟨rfl,rfl⟩) (fun n=>⟨rfl,rfl⟩)
 |cons x r=>
  refine sd {} 0 Tryz.func58 fun Γ hW=>auC ?_
  dsimp only [List.map]
  repeat' first|refine auS ?_|(with_reducible refine yA ?_)|refine auD ?_|(refine auW ?_ ?_<;>intro h<;>try exact auH)|(refine z7 ⟨Or.inl (by omega),rfl,hones _,by simp only [zT,maxLen,List.length_map,List.length_cons] at hl ⊢;omega⟩ ?_)
  refine ws 1 (fun n=>.sl 1 n 5 0 (x::r).length false) trivial rfl (by show Γ.g0≤Γ.g0+1;omega) ?_ (fun n=>.inl ⟨rfl,?_⟩) (fun n=>⟨rfl,rfl⟩)
  ·exact (zn (fun x=>by simp [nfL,nfD]):xi Γ.g0 ((x::r).map Mp.enc))
  ·simp [List.length_map]
theorem pu (j:Nat) (l:List Mp) (c:Bool) (hl:zT l.length 40):vA Tryz.prog 58 [.snap 5 (l.map Mp.enc) c] [] (fun n d H=>d=.sl j n 5 0 l.length false∧H=[some ⟨n,5,l.map Mp.enc⟩]):=
 p5 (Yq l c hl) (fun K w n v h=>wq h)
set_option maxHeartbeats 1000000 in
theorem xU (l:List Mp) (c:Bool) (hl:zT l.length 40):zd Tryz.prog 58 [.snap 5 (l.map Mp.enc) c] (.snap 5 (l.map Mp.enc) false):=by
 have hones:∀r:List Mp,y5 (r.map Mp.enc)=true:=ya (fun x=>rfl)
 have hnf:∀g,xi g (l.map Mp.enc):=fun g=>zn (fun x=>by simp [nfL,nfD])
 cases l with
 |nil=>
  refine z4 {} 0 Tryz.func58 fun Γ hW=>auC ?_
  dsimp only [List.map]
  repeat' first|refine auS ?_|(with_reducible refine yA ?_)|refine auD ?_|(refine auW ?_ ?_<;>intro h<;>try exact auH)|fail
  ·refine zt (yM (xa ⟨.d0,.d0,.d2⟩ 1 5 rfl rfl)) (zt (zm hW ⟨.d0,.d0,.d2⟩ rfl rfl ⟨rfl,rfl,by exact Nat.le_refl _⟩) ?_)
   dsimp only [zM,zV]
   all_goals refine auV ?_
   all_goals try exact z8
   all_goals try simp only [hsM] at *
  ·refine zt (zm hW ⟨.d0,.d0,.d2⟩ rfl rfl ⟨rfl,rfl,by exact Nat.le_refl _⟩) ?_
   rw [show zM (zV (([]:List (List DV))++[]) 0) 0=[] from rfl]
   all_goals refine auV ?_
   all_goals try exact z8
   all_goals try simp only [hsM] at *
 |cons x r=>
  refine z4 {} 0 Tryz.func58 fun Γ hW=>auC ?_
  dsimp only [List.map]
  repeat' first|refine auS ?_|(with_reducible refine yA ?_)|refine auD ?_|(refine auW ?_ ?_<;>intro h<;>try exact auH)|(refine z7 ⟨Or.inl (by omega),rfl,hones _,by simp only [zT,maxLen,List.length_map,List.length_cons] at hl ⊢;omega⟩ ?_)
  refine zt (zm hW ⟨.d0,.d0,.d2⟩ rfl rfl ⟨rfl,rfl,by simp⟩) ?_
  rw [show zM (zV ([]++Mp.enc x::r.map Mp.enc) 0) (0+((r.map Mp.enc).length+1))=(x::r).map Mp.enc from x4 (by simp)]
  have hnf1:=hnf Γ.g0
  all_goals refine auV ?_
  all_goals try exact z8
  all_goals try simp only [hsM] at *
  all_goals rfl
def zK (ms:List Mp):Int:=match ms[ms.length-1]? with|some m=>m.tm|none=>0
abbrev rc (l b1:Int) (t1:Nat) (b2:Int) (t2:Nat) (ms:List Mp) (p e:Int):DV:=.tup [dNt l b1 t1 b2 t2 ms,.v (.int .i64 p),.v (.int .i64 e)]
theorem nL (ms:List Mp) (hk:0<ms.length):∃m,ms[ms.length-1]?=some m∧zK ms=m.tm:=by
 refine ⟨ms[ms.length-1],List.getElem?_eq_getElem (by omega),?_⟩
 unfold zK
 rw [List.getElem?_eq_getElem (by omega)]
section
variable (l b1:Int) (t1:Nat) (b2:Int) (t2:Nat) (ms:List Mp) (pr ad po now:Int) (hl:ms.length*40≤140737488351232) (h10:t1<18446744073709551616) (h20:t2<18446744073709551616)
include hl h10 h20
set_option maxHeartbeats 4000000 in
theorem W_ {e:Int} (he:zJ l b1 t1 b2 t2 ms=e) (hne:¬e=0):zd Tryz.prog 107 [dNt l b1 t1 b2 t2 ms,.v (.int .i64 pr),.v (.int .u32 ad),.v (.int .i64 po),.v (.int .i64 now)] (rc l b1 t1 b2 t2 ms 0 e):=by
 have hml:ms.length≤maxLen:=by unfold maxLen;omega
 have h1:=xU ms false ⟨hml,by omega⟩
 have h2:=xN l b1 t1 b2 t2 ms hml h10 h20
 rw [he] at h2
 have hlen:(ms.map Mp.enc).length=ms.length:=List.length_map _
 have hw1:True:=trivial
 have hix:True:=trivial
 have exl:True:=trivial
 have nf1:=fun g=>xY g ms
 refine z4 {} 2 Tryz.func107 fun Γ hW=>auC ?_
 repeat' first|refine auS ?_|(first|(with_reducible refine z0 h1 ?_)|(with_reducible refine z0 h2 ?_)|(simp only [hlen,hw1]))|refine auD ?_|(refine auW ?_ ?_<;>intro h<;>try exact auH)|(first|(simp only [hix,exl])|fail)
 all_goals try exact auP
 all_goals first
  |(exfalso;simp at h;done)
  |skip
 all_goals with_reducible refine yf (by (try first|refine auR ?_|exact z8);(repeat' (first|exact trivial|exact rfl|exact zn (fun x=>by simp [nfL,nfD,nfD,nfL,nf1])|decide|apply And.intro))) ?_
 all_goals (try first|refine auR ?_|exact z8)
 all_goals (try simp only [hsM] at *)
 all_goals rfl
set_option maxHeartbeats 4000000 in
theorem am (he:zJ l b1 t1 b2 t2 ms=0) (hp:¬(pr=6∨pr=17)):zd Tryz.prog 107 [dNt l b1 t1 b2 t2 ms,.v (.int .i64 pr),.v (.int .u32 ad),.v (.int .i64 po),.v (.int .i64 now)] (rc l b1 t1 b2 t2 ms 0 7):=by
 have hml:ms.length≤maxLen:=by unfold maxLen;omega
 have h1:=xU ms false ⟨hml,by omega⟩
 have h2:=xN l b1 t1 b2 t2 ms hml h10 h20
 rw [he] at h2
 have hlen:(ms.map Mp.enc).length=ms.length:=List.length_map _
 have hx:zK ms=zK ms:=rfl
 by_cases hk:0<ms.length
 obtain ⟨ml,hm1,hm2⟩:=nL ms hk
 rw [hm2] at hx
 have exl:=y8 hm1
 have hw1:IntKind.i64.wrap ((ms.length:Int)-1)=((ms.length-1:Nat):Int):=(IntWalk.i64_in _ (by omega)).trans (by omega)
 have hix:=Int.toNat_natCast (ms.length-1)
 rotate_left
 have hw1:True:=trivial
 have hix:True:=trivial
 have exl:True:=trivial
 have hl00:zK ms=0:=by unfold zK;rw [List.getElem?_eq_none (by omega)]
 rw [hl00] at hx
 all_goals
  have nf1:=fun g=>xY g ms
  refine z4 {} 2 Tryz.func107 fun Γ hW=>auC ?_
  repeat' first|refine auS ?_|(first|(with_reducible refine z0 h1 ?_)|(with_reducible refine z0 h2 ?_)|(simp only [hlen,hw1]))|refine auD ?_|(refine auW ?_ ?_<;>intro h<;>try exact auH)|(first|(simp only [hix,exl])|fail)
  all_goals try exact auP
  all_goals first
   |(exfalso;simp at h;done)
   |skip
  all_goals with_reducible refine yf (by (try first|refine auR ?_|exact z8);(repeat' (first|exact trivial|exact rfl|exact zn (fun x=>by simp [nfL,nfD,nfD,nfL,nf1])|decide|apply And.intro))) ?_
  all_goals (try first|refine auR ?_|exact z8)
  all_goals (try simp only [hsM] at *)
  all_goals rfl
set_option maxHeartbeats 4000000 in
theorem XT (he:zJ l b1 t1 b2 t2 ms=0) (hp:pr=6∨pr=17) (ha:¬((0≤po∧po≤65535)∧zK ms≤now∧now≤1099511627776)):zd Tryz.prog 107 [dNt l b1 t1 b2 t2 ms,.v (.int .i64 pr),.v (.int .u32 ad),.v (.int .i64 po),.v (.int .i64 now)] (rc l b1 t1 b2 t2 ms 0 1):=by
 have hml:ms.length≤maxLen:=by unfold maxLen;omega
 have h1:=xU ms false ⟨hml,by omega⟩
 have h2:=xN l b1 t1 b2 t2 ms hml h10 h20
 rw [he] at h2
 have hlen:(ms.map Mp.enc).length=ms.length:=List.length_map _
 by_cases hk:0<ms.length
 obtain ⟨ml,hm1,hm2⟩:=nL ms hk
 rw [hm2] at ha
 have exl:=y8 hm1
 have hw1:IntKind.i64.wrap ((ms.length:Int)-1)=((ms.length-1:Nat):Int):=(IntWalk.i64_in _ (by omega)).trans (by omega)
 have hix:=Int.toNat_natCast (ms.length-1)
 rotate_left
 have hw1:True:=trivial
 have hix:True:=trivial
 have exl:True:=trivial
 have hl00:zK ms=0:=by unfold zK;rw [List.getElem?_eq_none (by omega)]
 rw [hl00] at ha
 all_goals
  rcases hp with hp|hp
  all_goals
   have nf1:=fun g=>xY g ms
   refine z4 {} 2 Tryz.func107 fun Γ hW=>auC ?_
   repeat' first|refine auS ?_|(first|(with_reducible refine z0 h1 ?_)|(with_reducible refine z0 h2 ?_)|(simp only [hlen,hw1]))|refine auD ?_|(refine auW ?_ ?_<;>intro h<;>try exact auH)|(first|(simp only [hix,exl])|fail)
   all_goals try exact auP
   all_goals first
    |(exfalso;simp at h;done)
    |skip
   all_goals with_reducible refine yf (by (try first|refine auR ?_|exact z8);(repeat' (first|exact trivial|exact rfl|exact zn (fun x=>by simp [nfL,nfD,nfD,nfL,nf1])|decide|apply And.intro))) ?_
   all_goals (try first|refine auR ?_|exact z8)
   all_goals (try simp only [hsM] at *)
   all_goals rfl
set_option maxHeartbeats 8000000 in
theorem bq (he:zJ l b1 t1 b2 t2 ms=0) (hp:pr=6∨pr=17) (ha:((0≤po∧po≤65535)∧zK ms≤now∧now≤1099511627776)) {i:Nat} {m0:Mp} (hi:(yng l now ms)[i]?=some m0) (hf:zk (isP pr ad po) (yng l now ms) 0=(i:Int)) (hm0:isP pr ad po m0=true) :
  zd Tryz.prog 107 [dNt l b1 t1 b2 t2 ms,.v (.int .i64 pr),.v (.int .u32 ad),.v (.int .i64 po),.v (.int .i64 now)] (rc l b1 (bs b1 17 (yng l now ms)) b2 (bs b2 6 (yng l now ms)) (zu pr ad po (yng l now ms)++[⟨pr,ad,po,m0.ou,now⟩]) m0.ou 0):=by
 obtain ⟨hlf,hb,hg,rfl,rfl⟩:=xP h10 h20 he
 have hml:ms.length≤maxLen:=by unfold maxLen;omega
 have h1:=xU ms false ⟨hml,by omega⟩
 have hO:=pu 1 ms false ⟨hml,by omega⟩
 have h2:=xN l b1 (bs b1 17 ms) b2 (bs b2 6 ms) ms hml h10 h20
 rw [he] at h2
 have hlen:(ms.map Mp.enc).length=ms.length:=List.length_map _
 obtain ⟨hpo,hn1,hn2⟩:=ha
 have hl0:0≤zK ms:=by
  unfold zK
  split
  ·rename_i m hm
   exact (hg.tm m (List.mem_of_getElem? hm)).1
  ·exact Int.le_refl _
 have hex:=fun n m=>vh 4 (oV l b1 b2 now ms n m hg hb hml hlf ⟨by omega,hn2⟩)
 have hyl:(yng l now ms).length≤ms.length:=List.length_filter_le _ _
 have hgY:uh b1 b2 (yng l now ms):=hg.sub (List.filter_sublist (p:=vx l now) (l:=ms))
 have hw:=tH l b1 (bs b1 17 (yng l now ms)) b2 (bs b2 6 (yng l now ms)) (yng l now ms) pr ad po (by unfold maxLen;omega)
 rw [hf] at hw
 have hil:i<(yng l now ms).length:=(List.getElem?_eq_some_iff.1 hi).1
 have exi:=y8 hi
 have hdel:∀n,zS Tryz.prog 159 [.sl 1 n 5 0 (yng l now ms).length false,.v (.int .i64 (i:Nat)),.v (.int .i64 ((i+1:Nat):Int))] [some ⟨n,5,(yng l now ms).map Mp.enc⟩] (fun d H=>d=.sl 1 n 5 0 (zu pr ad po (yng l now ms)).length false∧H=[some ⟨n,5,(zu pr ad po (yng l now ms)).map Mp.enc⟩]):=fun n=>by
  rw [X4 hgY hi hm0]
  exact qt 1 (yng l now ms) i (i+1) (by omega) (by omega) (by unfold maxLen;omega) n
 have hbl:(zu pr ad po (yng l now ms)).length≤(yng l now ms).length:=List.length_filter_le _ _
 have hlenY:((yng l now ms).map Mp.enc).length=(yng l now ms).length:=List.length_map _
 have hlenY2:((zu pr ad po (yng l now ms)).map Mp.enc).length=(zu pr ad po (yng l now ms)).length:=List.length_map _
 have hwi:IntKind.i64.wrap ((i:Int)+1)=((i+1:Nat):Int):=(IntWalk.i64_in _ (by omega)).trans (by omega)
 have hpl:True:=trivial
 have h3:True:=trivial
 have hcat:((zu pr ad po (yng l now ms)).map Mp.enc)++[(⟨pr,ad,po,m0.ou,now⟩:Mp).enc]=(zu pr ad po (yng l now ms)++[(⟨pr,ad,po,m0.ou,now⟩:Mp)]).map Mp.enc:=by rw [List.map_append];rfl
 unfold rc dNt rNt
 clear hgY hg
 generalize yng l now ms=Y at *
 generalize zu pr ad po Y=Z at *
 generalize bs b1 17 Y=T1 at *
 generalize bs b2 6 Y=T2 at *
 generalize bs b1 17 ms=S1 at *
 generalize bs b2 6 ms=S2 at *
 have nf1:=fun g=>xY g (Z++[(⟨pr,ad,po,m0.ou,now⟩:Mp)])
 have hw1:0<ms.length→IntKind.i64.wrap ((ms.length:Int)-1)=((ms.length-1:Nat):Int):=fun _=>(IntWalk.i64_in _ (by omega)).trans (by omega)
 have hix:=Int.toNat_natCast (ms.length-1)
 have hk:0<ms.length:=by omega
 have hw1:=hw1 hk
 obtain ⟨ml,hm1,hm2⟩:=nL ms hk
 rw [hm2] at hn1
 have exl:=y8 hm1
 rcases hp with hp|hp
 all_goals
  refine z4 {} 2 Tryz.func107 fun Γ hW=>auC ?_
  refine xW ?_
  repeat' first|refine bv ?_|fail|refine auD ?_|(refine auW ?_ ?_<;>intro h<;>try exact auH)|fail
  refine xW ?_
  repeat' first|refine bv ?_|(first|(with_reducible refine z0 h1 ?_))|refine auD ?_|(refine auW ?_ ?_<;>intro h<;>try exact auH)|fail
  repeat' first|refine auS ?_|(first|(with_reducible refine z0 h2 ?_)|(with_reducible refine yH 1 hO ?_)|(refine v_ 4 1 (by decide) rfl rfl (hex _ _) (fun _ _ _ h=>h) ?_)|(refine zD 1 rfl hw ⟨⟨rfl,rfl,rfl,rfl,rfl,.inl ⟨rfl,rfl,by simp,by rw [x4 (by simp)]⟩,rfl⟩,rfl,rfl,rfl,rfl⟩ rfl ?_)|(refine z9 1 rfl (hdel _) (fun _ _ _ h=>h) ?_)|(refine v_ 4 1 (by decide) rfl rfl (hpl _ _) (fun _ _ _ h=>h) ?_)|(with_reducible refine z0 h3 ?_)|(simp only [hlen,hlenY,hw1,hwi]))|refine auD ?_|(refine auW ?_ ?_<;>intro h<;>try exact auH)|(first|(simp only [hix,exl])|(simp only [Int.toNat_natCast,Nat.zero_add,exi])|(refine z7 ⟨by (try rw [hlenY]);omega,by trivial⟩ ?_)|(refine z7 ⟨by trivial,by unfold zT maxLen;(try rw [hlenY2]);simp;omega⟩ ?_)|fail)
  all_goals try exact auP
  all_goals first
   |(exfalso;simp at h;done)
   |skip
  rw [hcat]
  refine zt (xl hW 3 8 (by decide) (ys:=[[.v (.int .i64 l),.v (.int .i64 b1),.v (.int .u64 (T1:Nat)),.v (.int .i64 b2),.v (.int .u64 (T2:Nat)),.snap 5 ((Z++[(⟨pr,ad,po,m0.ou,now⟩:Mp)]).map Mp.enc) false]]) rfl rfl ⟨⟨rfl,rfl,rfl,rfl,rfl,Or.inl ⟨rfl,rfl,by simp,by rw [x4 (by simp)]⟩,rfl⟩,rfl⟩) ?_
  all_goals with_reducible refine yf (by (try first|refine auR ?_|exact z8);(repeat' (first|exact trivial|exact rfl|exact zn (fun x=>by simp [nfL,nfD,nfD,nfL,nf1])|decide|apply And.intro))) ?_
  all_goals (try first|refine auR ?_|exact z8)
  all_goals (try simp only [hsM] at *)
end
end Go.Proofs.YtmibknbmhcnemaaGreatDoor.A
