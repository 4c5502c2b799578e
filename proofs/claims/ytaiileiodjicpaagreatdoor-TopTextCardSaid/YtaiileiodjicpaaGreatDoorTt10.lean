import Derived.Test.YtaiileiodjicpaaGreatDoorTt09
set_option linter.unusedVariables false
set_option linter.unusedSimpArgs false
namespace Go.Proofs.YtaiileiodjicpaaGreatDoor.A
attribute [local irreducible] zF Go
set_option maxRecDepth 100000
theorem ue {Γ:Gm} {xr:List XR} {D:DV} {st:St} {o1 o2:zj} (h1:xB st xr) (h2:nfD Γ.g0 (wA (yn st xr))) (h3:wA (yn st xr)=D) (h0:yt 2 st.H=[some o1,some o2]) (n1:o1.n<Γ.g0) (x1:yA Γ.g0 o1.xs) (n2:o2.n<Γ.g0) (x2:yA Γ.g0 o2.xs):oS Γ xr 2 (fun d H=>d=D∧H=[some o1,some o2]) st:=
 l_ ⟨h1,h2,by rw [h0];exact ⟨⟨n1,x1⟩,⟨n2,x2⟩,trivial⟩,h3,h0⟩
abbrev rNs (l b1:Int) (t1:Nat) (b2:Int) (t2:Nat) (m len:Nat):List DV:=[.v (.int .i64 l),.v (.int .i64 b1),.v (.int .u64 (t1:Int)),.v (.int .i64 b2),.v (.int .u64 (t2:Int)),.sl 1 m 5 0 len false]
theorem uK (g:Nat) (l:List Mp):yA g (l.map Mp.enc):=zl (fun x=>by simp [Mp.enc,nfL,nfD])
theorem uI (n m:Nat) (l b1:Int) (t1:Nat) (b2:Int) (t2 len:Nat) (ms:List Mp) (pr:Int) (hp:pr=17∨pr=6):zE Tryz.prog 94 [.ptr 0 n 6 0 0,.v (.int .i64 pr)] [some ⟨n,6,[rNs l b1 t1 b2 t2 m len]⟩,some ⟨m,5,ms.map Mp.enc⟩] (fun d H=>d=yJ pr n 0∧H=[some ⟨n,6,[rNs l b1 t1 b2 t2 m len]⟩,some ⟨m,5,ms.map Mp.enc⟩]):=by
 by_cases h17:pr=17
 ·have e:yJ pr n 0=.ptr 0 n 6 0 1:=by unfold yJ;rw [if_pos h17]
  rw [e]
  refine zp {} 2 Tryz.func94 fun Γ hN0 hL0=>auC ?_
  have hn:=hN0 0 _ rfl
  have hm:=hN0 1 _ rfl
  repeat' first|refine auS ?_|fail|refine auD ?_|(refine auW ?_ ?_<;>intro h<;>try exact auH)|fail
  all_goals try exact auP
  refine ue trivial ?_ rfl rfl hn ?_ hm (uK _ _)
  ·first
    |exact trivial
    |exact hn
    |(simp [yn,wA,nfD,nfL];done)
    |(show _<_;exact hn)
    |(show nfD _ _;simp [nfD,hn])
  ·exact ⟨⟨trivial,trivial,trivial,trivial,trivial,hm,trivial⟩,trivial⟩
 ·have h6:pr=6:=by omega
  have e:yJ pr n 0=.ptr 0 n 6 0 3:=by unfold yJ;rw [if_neg h17,if_pos h6]
  rw [e]
  refine zp {} 2 Tryz.func94 fun Γ hN0 hL0=>auC ?_
  have hn:=hN0 0 _ rfl
  have hm:=hN0 1 _ rfl
  repeat' first|refine auS ?_|fail|refine auD ?_|(refine auW ?_ ?_<;>intro h<;>try exact auH)|fail
  all_goals try exact auP
  refine ue trivial ?_ rfl rfl hn ?_ hm (uK _ _)
  ·first
    |exact trivial
    |exact hn
    |(simp [yn,wA,nfD,nfL];done)
    |(show _<_;exact hn)
    |(show nfD _ _;simp [nfD,hn])
  ·exact ⟨⟨trivial,trivial,trivial,trivial,trivial,hm,trivial⟩,trivial⟩
set_option maxHeartbeats 1000000 in
theorem b_ (l:List Mp) (i j:Nat) (hij:i≤j) (hj:j≤l.length) (hl:l.length≤maxLen) (n:Nat):zE Tryz.prog 145 [.sl 0 n 5 0 l.length false,.v (.int .i64 i),.v (.int .i64 j)] [some ⟨n,5,l.map Mp.enc⟩] (fun d H=>d=.sl 0 n 5 0 (l.take i++l.drop j).length false∧H=[some ⟨n,5,(l.take i++l.drop j).map Mp.enc⟩]):=by
 have hones:∀r:List Mp,zQ (r.map Mp.enc)=true:=yx (fun x=>rfl)
 have ej:zN (zV (l.map Mp.enc) j) ((l.length:Int)-j).toNat=(l.drop j).map Mp.enc:=by rw [zB,yh,←List.map_drop,←List.map_take,List.take_of_length_le (by rw [List.length_drop];omega)]
 have hlen:(zN (l.map Mp.enc) i++((l.drop j).map Mp.enc++zV (l.map Mp.enc) (i+(l.length-j)))).length=l.length:=by rw [zB,yh];simp;omega
 unfold maxLen at hl
 refine zp {inpl:=true} 1 Tryz.func145 fun Γ hN0 hL0=>auC ?_
 have hn:n<Γ.g0:=hN0 0 _ rfl
 repeat' first|refine auS ?_|fail|refine auD ?_|(refine auW ?_ ?_<;>intro h<;>try exact auH)|(first|(simp only [Int.toNat_natCast,Nat.zero_add,ej,List.length_map,List.length_drop])|(refine zf ⟨by trivial,by trivial,by trivial,by omega,hones _⟩ ?_)|(refine zf ⟨by trivial,by trivial,by trivial,by omega,by omega,by omega,by (rw [hlen];omega)⟩ ?_)|(refine zf ⟨by trivial,by trivial,by trivial,by (rw [hlen];omega),by trivial⟩ ?_)|fail)
 ·have hij2:i=j:=by (simp only [hsL,reduceCtorEq] at *<;>omega)
  subst hij2
  rw [List.take_append_drop]
  exact zU trivial hn rfl rfl hn (zl (fun x=>by simp [nfL,nfD])) rfl
 ·refine zL (yz (eu ⟨.d0,.d0,.d6⟩ rfl)) (zL (yz (nl 0 (i+(l.length-j)) rfl)) (zU trivial hn ?_ rfl hn (zl (fun x=>by simp [nfL,nfD])) ?_))
  ·have e:(l.take i++l.drop j).length=i+(l.length-j):=by simp;omega
   rw [e]
   rfl
  ·refine (fv (by rw [zB];simp;omega)).trans ?_
   rw [zB,List.map_append,List.map_take]
theorem rG (k:Nat) (l:List Mp) (i j:Nat) (hij:i≤j) (hj:j≤l.length) (hl:l.length≤maxLen) (n:Nat):zE Tryz.prog 145 [.sl k n 5 0 l.length false,.v (.int .i64 i),.v (.int .i64 j)] [some ⟨n,5,l.map Mp.enc⟩] (fun d H=>d=.sl k n 5 0 (l.take i++l.drop j).length false∧H=[some ⟨n,5,(l.take i++l.drop j).map Mp.enc⟩]):=
 yj k (tB (b_ l i j hij hj hl n) (fun _ _ _=>vo))
set_option maxHeartbeats 4000000 in
theorem o0 (l b1 b2 now:Int) (ms:List Mp) (n m:Nat) (hg:tj b1 b2 ms) (hb:pOk b1=true∧pOk b2=true) (hl:ms.length≤maxLen) (hlf:1≤l∧l≤1000000) (hnow:0≤now∧now≤1099511627776) :
  zE Tryz.prog 144 [.ptr 0 n 6 0 0,.v (.int .i64 now)] [some ⟨n,6,[rNs l b1 (bs b1 17 ms) b2 (bs b2 6 ms) m ms.length]⟩,some ⟨m,5,ms.map Mp.enc⟩]
   (fun d H=>d=.tup []∧H=[some ⟨n,6,[rNs l b1 (bs b1 17 (yng l now ms)) b2 (bs b2 6 (yng l now ms)) m (yng l now ms).length]⟩,some ⟨m,5,(yng l now ms).map Mp.enc⟩]):=by
 have hlen:(ms.map Mp.enc).length=ms.length:=List.length_map _
 have hl':=hl
 unfold maxLen at hl'
 have hfin:∀k,k≤ms.length→zE Tryz.prog 145 [.sl 1 m 5 0 ms.length false,.v (.int .i64 0),.v (.int .i64 (k:Nat))] [some ⟨m,5,ms.map Mp.enc⟩] (fun d H=>d=.sl 1 m 5 0 (ms.drop k).length false∧H=[some ⟨m,5,(ms.drop k).map Mp.enc⟩]):=fun k hk=>rG 1 ms 0 k (Nat.zero_le _) hk hl m
 refine zp {} 2 Tryz.func144 fun Γ hN0 hL0=>auC ?_
 have hn:=hN0 0 _ rfl
 have hm:=hN0 1 _ rfl
 repeat' first|refine auS ?_|fail|refine auD ?_|(refine auW ?_ ?_<;>intro h<;>try exact auH)|fail
 refine zw (α:=Nat×Nat) (fun p=>[(⟨.d0,.d0,.d4⟩,.v (.int .i64 (p.1:Nat)))]) (fun p=>[(0,some ⟨n,6,[rNs l b1 (bs b1 17 (ms.drop p.1)) b2 (bs b2 6 (ms.drop p.1)) m ms.length]⟩)]) (fun p=>p.2) (fun p=>ms.length-p.1) (fun p=>p.1≤ms.length∧∀y∈ms.take p.1,uH l now y=false) (0,Γ.g0) ⟨Nat.zero_le _,fun y hy=>by simp at hy⟩ ?_ ?_
 ·skip
  refine zo ?_ ?_ (Nat.le_refl _)
  all_goals first|refine auE ?_|exact zK
  all_goals repeat' first|exact trivial|exact rfl|apply And.intro
 rintro ⟨k,gn⟩ ⟨hk,hold0⟩
 dsimp only at hk hold0 ⊢
 refine auL ?_
 have hend0:∀(hk:∀t,ms[k]?=some t→uH l now t=true),zE Tryz.prog 145 [.sl 1 m 5 0 ms.length false,.v (.int .i64 0),.v (.int .i64 (k:Nat))] [some ⟨m,5,ms.map Mp.enc⟩] (fun d H=>d=.sl 1 m 5 0 (yng l now ms).length false∧H=[some ⟨m,5,(yng l now ms).map Mp.enc⟩]):=fun h=>by
  rw [nL hg k hold0 h]
  exact hfin k hk
 by_cases hlt:k<ms.length
 ·obtain ⟨t,ht⟩:∃t,ms[k]?=some t:=⟨_,List.getElem?_eq_getElem hlt⟩
  have ex:=vj ht
  have htm:=hg.tm t (List.mem_of_getElem? ht)
  have hw1:IntKind.i64.wrap (now-t.tm)=now-t.tm:=IntWalk.i64_in _ (by omega)
  have hwk:IntKind.i64.wrap ((k:Int)+1)=((k+1:Nat):Int):=(IntWalk.i64_in _ (by omega)).trans (by omega)
  have hdc:ms.drop k=t::ms.drop (k+1):=by rw [List.drop_eq_getElem_cons hlt,show ms[k]=t from Option.some.inj ((List.getElem?_eq_getElem hlt).symm.trans ht)]
  have hgd:=hg.sub (List.drop_sublist k ms)
  cases hy:uH l now t with
  |true=>
   have hdel:=hend0 (fun t' ht'=>by obtain rfl:=Option.some.inj (ht'.symm.trans ht);exact hy)
   have hye:=nL hg k hold0 (fun t' ht'=>by obtain rfl:=Option.some.inj (ht'.symm.trans ht);exact hy)
   rw [←hye]
   unfold uH at hy
   have hy':=of_decide_eq_true hy
   have hpl:True:=trivial
   have hend:True:=trivial
   generalize bs b1 17 (yng l now ms)=T1 at *
   generalize bs b2 6 (yng l now ms)=T2 at *
   repeat' first|refine auS ?_|(first|(refine z_ 1 rfl hdel (fun _ _ _ h=>h) ?_)|(simp only [hw1,hwk,hlen]))|refine auD ?_|(refine auW ?_ ?_<;>intro h<;>try exact auH)|(first|(simp only [Int.toNat_natCast,Nat.zero_add,ex])|(refine zf ⟨by (try rw [hlen]);omega,by trivial⟩ ?_)|fail)
   all_goals try exact auP
   all_goals first
    |(exfalso;simp at h;done)
    |skip
   refine ue trivial trivial rfl rfl hn ?_ hm (uK _ _)
   exact ⟨⟨trivial,trivial,trivial,trivial,trivial,hm,trivial⟩,trivial⟩
  |false=>
   have hold:∀y∈ms.take (k+1),uH l now y=false:=fun y hy'=>by
    rw [List.take_add_one,ht] at hy'
    rcases List.mem_append.1 hy' with h|h
    ·exact hold0 y h
    ·obtain rfl:=List.mem_singleton.1 h
     exact hy
   unfold uH at hy
   rw [decide_eq_false_iff_not] at hy
   have hend1:True:=trivial
   rw [hdc]
   have hgc:=hg.sub (List.drop_sublist k ms)
   rw [hdc] at hgc
   rcases hg.pr t (List.mem_of_getElem? ht) with hp|hp
   ·have hpl:=uI n m l b1 (bs b1 17 (t::ms.drop (k+1))) b2 (bs b2 6 (t::ms.drop (k+1))) ms.length ms t.pr (.inl hp)
    rw [hp] at hpl ex
    rw [show yJ 17 n 0=.ptr 0 n 6 0 1 from rfl] at hpl
    obtain ⟨q1,q2⟩:=il hgc.r1 hgc.nd hp
    have hend:=rr b1 (bs b1 17 (t::ms.drop (k+1))) t.ou (t7 b1 17 _ hgc.r1 hgc.nd).1
    rw [(r_ hb.1).2 q1,(rm hb.1 q1).1,(rm hb.1 q1).2,q2] at hend
    have hsk:bs b2 6 (t::ms.drop (k+1))=bs b2 6 (ms.drop (k+1)):=dQ (by omega)
    rw [hsk] at hpl ⊢
    repeat' first|refine auS ?_|(first|(refine wo 0 1 (by decide) rfl rfl hpl (fun _ _ _ h=>h) ?_)|(with_reducible refine z6 hend ?_)|(simp only [hw1,hwk,hlen]))|refine auD ?_|(refine auW ?_ ?_<;>intro h<;>try exact auH)|(first|(simp only [Int.toNat_natCast,Nat.zero_add,ex])|(refine zf ⟨by (try rw [hlen]);omega,by trivial⟩ ?_)|fail)
    all_goals try exact auP
    all_goals first
     |(exfalso;simp at h;done)
     |skip
    refine zn ⟨(k+1,gn),⟨hlt,hold⟩,Nat.sub_lt_sub_left hlt (Nat.lt_succ_self k),?_⟩
    refine zo ?_ ?_ (Nat.le_refl _)
    all_goals first|refine auE ?_|exact zK
    all_goals repeat' first|exact trivial|exact rfl|apply And.intro
   ·have hpl:=uI n m l b1 (bs b1 17 (t::ms.drop (k+1))) b2 (bs b2 6 (t::ms.drop (k+1))) ms.length ms t.pr (.inr hp)
    rw [hp] at hpl ex
    rw [show yJ 6 n 0=.ptr 0 n 6 0 3 from rfl] at hpl
    obtain ⟨q1,q2⟩:=il hgc.r2 hgc.nd hp
    have hend:=rr b2 (bs b2 6 (t::ms.drop (k+1))) t.ou (t7 b2 6 _ hgc.r2 hgc.nd).1
    rw [(r_ hb.2).2 q1,(rm hb.2 q1).1,(rm hb.2 q1).2,q2] at hend
    have hsk:bs b1 17 (t::ms.drop (k+1))=bs b1 17 (ms.drop (k+1)):=dQ (by omega)
    rw [hsk] at hpl ⊢
    repeat' first|refine auS ?_|(first|(refine wo 0 1 (by decide) rfl rfl hpl (fun _ _ _ h=>h) ?_)|(with_reducible refine z6 hend ?_)|(simp only [hw1,hwk,hlen]))|refine auD ?_|(refine auW ?_ ?_<;>intro h<;>try exact auH)|(first|(simp only [Int.toNat_natCast,Nat.zero_add,ex])|(refine zf ⟨by (try rw [hlen]);omega,by trivial⟩ ?_)|fail)
    all_goals try exact auP
    all_goals first
     |(exfalso;simp at h;done)
     |skip
    refine zn ⟨(k+1,gn),⟨hlt,hold⟩,Nat.sub_lt_sub_left hlt (Nat.lt_succ_self k),?_⟩
    refine zo ?_ ?_ (Nat.le_refl _)
    all_goals first|refine auE ?_|exact zK
    all_goals repeat' first|exact trivial|exact rfl|apply And.intro
 obtain rfl:k=ms.length:=by omega
 have hdel:=hend0 (fun t' ht'=>by rw [List.getElem?_eq_none (Nat.le_refl _)] at ht';cases ht')
 have hye:=nL hg ms.length hold0 (fun t' ht'=>by rw [List.getElem?_eq_none (Nat.le_refl _)] at ht';cases ht')
 rw [←hye]
 generalize bs b1 17 (yng l now ms)=T1 at *
 generalize bs b2 6 (yng l now ms)=T2 at *
 repeat' first|refine auS ?_|(first|(refine z_ 1 rfl hdel (fun _ _ _ h=>h) ?_)|(simp only [hlen]))|refine auD ?_|(refine auW ?_ ?_<;>intro h<;>try exact auH)|(first|(simp only [Int.toNat_natCast,Nat.zero_add])|fail)
 all_goals try exact auP
 all_goals first
  |(exfalso;simp at h;done)
  |skip
 refine ue trivial trivial rfl rfl hn ?_ hm (uK _ _)
 exact ⟨⟨trivial,trivial,trivial,trivial,trivial,hm,trivial⟩,trivial⟩
end Go.Proofs.YtaiileiodjicpaaGreatDoor.A
namespace Go.Proofs.YtaiileiodjicpaaGreatDoor.A
attribute [local irreducible] zF Go
set_option maxRecDepth 100000
set_option maxHeartbeats 1000000 in
theorem Yy (l:List Mp) (c:Bool) (hl:y8 l.length 40):uO Tryz.prog 53 [.snap 5 (l.map Mp.enc) c] [] (fun n d H=>d=.sl 1 n 5 0 l.length false∧H=[some ⟨n,5,l.map Mp.enc⟩]):=by
 have hones:∀r:List Mp,zQ (r.map Mp.enc)=true:=yx (fun x=>rfl)
 cases l with
 |nil=>
  refine tw {} 0 Tryz.func53 fun Γ hW=>auC ?_
  dsimp only [List.map]
  repeat' first|refine auS ?_|(with_reducible refine vx ?_)|refine auD ?_|(refine auW ?_ ?_<;>intro h<;>try exact auH)|fail
  ·refine mT (yz (vA ⟨.d0,.d0,.d2⟩ 1 5 rfl rfl)) ?_
   exact xN 1 (fun n=>.sl 1 n 5 0 0 false) trivial rfl (Nat.le_refl _) trivial (fun n=>.inl ⟨rfl,rfl⟩) (fun n=>⟨rfl,rfl⟩)
  ·exact xN 1 (fun n=>.sl 1 n 5 0 0 false) trivial rfl (by show Γ.g0≤Γ.g0+1;omega) trivial (fun n=>.inl ⟨rfl,rfl⟩) (fun n=>⟨rfl,rfl⟩)
 |cons x r=>
  refine tw {} 0 Tryz.func53 fun Γ hW=>auC ?_
  dsimp only [List.map]
  repeat' first|refine auS ?_|(with_reducible refine vx ?_)|refine auD ?_|(refine auW ?_ ?_<;>intro h<;>try exact auH)|(refine zf ⟨Or.inl (by omega),rfl,hones _,by simp only [y8,maxLen,List.length_map,List.length_cons] at hl ⊢;omega⟩ ?_)
  refine xN 1 (fun n=>.sl 1 n 5 0 (x::r).length false) trivial rfl (by show Γ.g0≤Γ.g0+1;omega) ?_ (fun n=>.inl ⟨rfl,?_⟩) (fun n=>⟨rfl,rfl⟩)
  ·exact (zl (fun x=>by simp [nfL,nfD]):yA Γ.g0 ((x::r).map Mp.enc))
  ·simp [List.length_map]
theorem qx (j:Nat) (l:List Mp) (c:Bool) (hl:y8 l.length 40):uO Tryz.prog 53 [.snap 5 (l.map Mp.enc) c] [] (fun n d H=>d=.sl j n 5 0 l.length false∧H=[some ⟨n,5,l.map Mp.enc⟩]):=
 nF (Yy l c hl) (fun K w n v h=>vo h)
set_option maxHeartbeats 1000000 in
theorem xv (l:List Mp) (c:Bool) (hl:y8 l.length 40):zi Tryz.prog 53 [.snap 5 (l.map Mp.enc) c] (.snap 5 (l.map Mp.enc) false):=by
 have hones:∀r:List Mp,zQ (r.map Mp.enc)=true:=yx (fun x=>rfl)
 have hnf:∀g,yA g (l.map Mp.enc):=fun g=>zl (fun x=>by simp [nfL,nfD])
 cases l with
 |nil=>
  refine z7 {} 0 Tryz.func53 fun Γ hW=>auC ?_
  dsimp only [List.map]
  repeat' first|refine auS ?_|(with_reducible refine vx ?_)|refine auD ?_|(refine auW ?_ ?_<;>intro h<;>try exact auH)|fail
  ·refine zL (yz (vA ⟨.d0,.d0,.d2⟩ 1 5 rfl rfl)) (zL (zr hW ⟨.d0,.d0,.d2⟩ rfl rfl ⟨rfl,rfl,by exact Nat.le_refl _⟩) ?_)
   dsimp only [zN,zV]
   all_goals refine auV ?_
   all_goals try exact zc
   all_goals try simp only [hsM] at *
  ·refine zL (zr hW ⟨.d0,.d0,.d2⟩ rfl rfl ⟨rfl,rfl,by exact Nat.le_refl _⟩) ?_
   rw [show zN (zV (([]:List (List DV))++[]) 0) 0=[] from rfl]
   all_goals refine auV ?_
   all_goals try exact zc
   all_goals try simp only [hsM] at *
 |cons x r=>
  refine z7 {} 0 Tryz.func53 fun Γ hW=>auC ?_
  dsimp only [List.map]
  repeat' first|refine auS ?_|(with_reducible refine vx ?_)|refine auD ?_|(refine auW ?_ ?_<;>intro h<;>try exact auH)|(refine zf ⟨Or.inl (by omega),rfl,hones _,by simp only [y8,maxLen,List.length_map,List.length_cons] at hl ⊢;omega⟩ ?_)
  refine zL (zr hW ⟨.d0,.d0,.d2⟩ rfl rfl ⟨rfl,rfl,by simp⟩) ?_
  rw [show zN (zV ([]++Mp.enc x::r.map Mp.enc) 0) (0+((r.map Mp.enc).length+1))=(x::r).map Mp.enc from tH (by simp)]
  have hnf1:=hnf Γ.g0
  all_goals refine auV ?_
  all_goals try exact zc
  all_goals try simp only [hsM] at *
  all_goals rfl
def x7 (ms:List Mp):Int:=match ms[ms.length-1]? with|some m=>m.tm|none=>0
abbrev pn (l b1:Int) (t1:Nat) (b2:Int) (t2:Nat) (ms:List Mp) (p e:Int):DV:=.tup [dNt l b1 t1 b2 t2 ms,.v (.int .i64 p),.v (.int .i64 e)]
theorem oX (ms:List Mp) (hk:0<ms.length):∃m,ms[ms.length-1]?=some m∧x7 ms=m.tm:=by
 refine ⟨ms[ms.length-1],List.getElem?_eq_getElem (by omega),?_⟩
 unfold x7
 rw [List.getElem?_eq_getElem (by omega)]
section
variable (l b1:Int) (t1:Nat) (b2:Int) (t2:Nat) (ms:List Mp) (pr ad po now:Int) (hl:ms.length*40≤140737488351232) (h10:t1<18446744073709551616) (h20:t2<18446744073709551616)
include hl h10 h20
set_option maxHeartbeats 4000000 in
theorem XH {e:Int} (he:y_ l b1 t1 b2 t2 ms=e) (hne:¬e=0):zi Tryz.prog 109 [dNt l b1 t1 b2 t2 ms,.v (.int .i64 pr),.v (.int .u32 ad),.v (.int .i64 po),.v (.int .i64 now)] (pn l b1 t1 b2 t2 ms 0 e):=by
 have hml:ms.length≤maxLen:=by unfold maxLen;omega
 have h1:=xv ms false ⟨hml,by omega⟩
 have h2:=xi l b1 t1 b2 t2 ms hml h10 h20
 rw [he] at h2
 have hlen:(ms.map Mp.enc).length=ms.length:=List.length_map _
 have hw1:True:=trivial
 have hix:True:=trivial
 have exl:True:=trivial
 have nf1:=fun g=>uK g ms
 refine z7 {} 2 Tryz.func109 fun Γ hW=>auC ?_
 repeat' first|refine auS ?_|(first|(with_reducible refine z6 h1 ?_)|(with_reducible refine z6 h2 ?_)|(simp only [hlen,hw1]))|refine auD ?_|(refine auW ?_ ?_<;>intro h<;>try exact auH)|(first|(simp only [hix,exl])|fail)
 all_goals try exact auP
 all_goals first
  |(exfalso;simp at h;done)
  |skip
 all_goals with_reducible refine va (by (try first|refine auR ?_|exact zc);(repeat' (first|exact trivial|exact rfl|exact zl (fun x=>by simp [nfL,nfD,nfD,nfL,nf1])|decide|apply And.intro))) ?_
 all_goals (try first|refine auR ?_|exact zc)
 all_goals (try simp only [hsM] at *)
 all_goals rfl
set_option maxHeartbeats 4000000 in
theorem bO (he:y_ l b1 t1 b2 t2 ms=0) (hp:¬(pr=6∨pr=17)):zi Tryz.prog 109 [dNt l b1 t1 b2 t2 ms,.v (.int .i64 pr),.v (.int .u32 ad),.v (.int .i64 po),.v (.int .i64 now)] (pn l b1 t1 b2 t2 ms 0 7):=by
 have hml:ms.length≤maxLen:=by unfold maxLen;omega
 have h1:=xv ms false ⟨hml,by omega⟩
 have h2:=xi l b1 t1 b2 t2 ms hml h10 h20
 rw [he] at h2
 have hlen:(ms.map Mp.enc).length=ms.length:=List.length_map _
 have hx:x7 ms=x7 ms:=rfl
 by_cases hk:0<ms.length
 obtain ⟨ml,hm1,hm2⟩:=oX ms hk
 rw [hm2] at hx
 have exl:=vj hm1
 have hw1:IntKind.i64.wrap ((ms.length:Int)-1)=((ms.length-1:Nat):Int):=(IntWalk.i64_in _ (by omega)).trans (by omega)
 have hix:=Int.toNat_natCast (ms.length-1)
 rotate_left
 have hw1:True:=trivial
 have hix:True:=trivial
 have exl:True:=trivial
 have hl00:x7 ms=0:=by unfold x7;rw [List.getElem?_eq_none (by omega)]
 rw [hl00] at hx
 all_goals
  have nf1:=fun g=>uK g ms
  refine z7 {} 2 Tryz.func109 fun Γ hW=>auC ?_
  repeat' first|refine auS ?_|(first|(with_reducible refine z6 h1 ?_)|(with_reducible refine z6 h2 ?_)|(simp only [hlen,hw1]))|refine auD ?_|(refine auW ?_ ?_<;>intro h<;>try exact auH)|(first|(simp only [hix,exl])|fail)
  all_goals try exact auP
  all_goals first
   |(exfalso;simp at h;done)
   |skip
  all_goals with_reducible refine va (by (try first|refine auR ?_|exact zc);(repeat' (first|exact trivial|exact rfl|exact zl (fun x=>by simp [nfL,nfD,nfD,nfL,nf1])|decide|apply And.intro))) ?_
  all_goals (try first|refine auR ?_|exact zc)
  all_goals (try simp only [hsM] at *)
  all_goals rfl
set_option maxHeartbeats 4000000 in
theorem V8 (he:y_ l b1 t1 b2 t2 ms=0) (hp:pr=6∨pr=17) (ha:¬((0≤po∧po≤65535)∧x7 ms≤now∧now≤1099511627776)):zi Tryz.prog 109 [dNt l b1 t1 b2 t2 ms,.v (.int .i64 pr),.v (.int .u32 ad),.v (.int .i64 po),.v (.int .i64 now)] (pn l b1 t1 b2 t2 ms 0 1):=by
 have hml:ms.length≤maxLen:=by unfold maxLen;omega
 have h1:=xv ms false ⟨hml,by omega⟩
 have h2:=xi l b1 t1 b2 t2 ms hml h10 h20
 rw [he] at h2
 have hlen:(ms.map Mp.enc).length=ms.length:=List.length_map _
 by_cases hk:0<ms.length
 obtain ⟨ml,hm1,hm2⟩:=oX ms hk
 rw [hm2] at ha
 have exl:=vj hm1
 have hw1:IntKind.i64.wrap ((ms.length:Int)-1)=((ms.length-1:Nat):Int):=(IntWalk.i64_in _ (by omega)).trans (by omega)
 have hix:=Int.toNat_natCast (ms.length-1)
 rotate_left
 have hw1:True:=trivial
 have hix:True:=trivial
 have exl:True:=trivial
 have hl00:x7 ms=0:=by unfold x7;rw [List.getElem?_eq_none (by omega)]
 rw [hl00] at ha
 all_goals
  rcases hp with hp|hp
  all_goals
   have nf1:=fun g=>uK g ms
   refine z7 {} 2 Tryz.func109 fun Γ hW=>auC ?_
   repeat' first|refine auS ?_|(first|(with_reducible refine z6 h1 ?_)|(with_reducible refine z6 h2 ?_)|(simp only [hlen,hw1]))|refine auD ?_|(refine auW ?_ ?_<;>intro h<;>try exact auH)|(first|(simp only [hix,exl])|fail)
   all_goals try exact auP
   all_goals first
    |(exfalso;simp at h;done)
    |skip
   all_goals with_reducible refine va (by (try first|refine auR ?_|exact zc);(repeat' (first|exact trivial|exact rfl|exact zl (fun x=>by simp [nfL,nfD,nfD,nfL,nf1])|decide|apply And.intro))) ?_
   all_goals (try first|refine auR ?_|exact zc)
   all_goals (try simp only [hsM] at *)
   all_goals rfl
set_option maxHeartbeats 8000000 in
theorem bZ (he:y_ l b1 t1 b2 t2 ms=0) (hp:pr=6∨pr=17) (ha:((0≤po∧po≤65535)∧x7 ms≤now∧now≤1099511627776)) {i:Nat} {m0:Mp} (hi:(yng l now ms)[i]?=some m0) (hf:zk (isP pr ad po) (yng l now ms) 0=(i:Int)) (hm0:isP pr ad po m0=true) :
  zi Tryz.prog 109 [dNt l b1 t1 b2 t2 ms,.v (.int .i64 pr),.v (.int .u32 ad),.v (.int .i64 po),.v (.int .i64 now)] (pn l b1 (bs b1 17 (yng l now ms)) b2 (bs b2 6 (yng l now ms)) (pv pr ad po (yng l now ms)++[⟨pr,ad,po,m0.ou,now⟩]) m0.ou 0):=by
 obtain ⟨hlf,hb,hg,rfl,rfl⟩:=qE h10 h20 he
 have hml:ms.length≤maxLen:=by unfold maxLen;omega
 have h1:=xv ms false ⟨hml,by omega⟩
 have hO:=qx 1 ms false ⟨hml,by omega⟩
 have h2:=xi l b1 (bs b1 17 ms) b2 (bs b2 6 ms) ms hml h10 h20
 rw [he] at h2
 have hlen:(ms.map Mp.enc).length=ms.length:=List.length_map _
 obtain ⟨hpo,hn1,hn2⟩:=ha
 have hl0:0≤x7 ms:=by
  unfold x7
  split
  ·rename_i m hm
   exact (hg.tm m (List.mem_of_getElem? hm)).1
  ·exact Int.le_refl _
 have hex:=fun n m=>zv 4 (o0 l b1 b2 now ms n m hg hb hml hlf ⟨by omega,hn2⟩)
 have hyl:(yng l now ms).length≤ms.length:=List.length_filter_le _ _
 have hgY:tj b1 b2 (yng l now ms):=hg.sub (List.filter_sublist (p:=uH l now) (l:=ms))
 have hw:=uC l b1 (bs b1 17 (yng l now ms)) b2 (bs b2 6 (yng l now ms)) (yng l now ms) pr ad po (by unfold maxLen;omega)
 rw [hf] at hw
 have hil:i<(yng l now ms).length:=(List.getElem?_eq_some_iff.1 hi).1
 have exi:=vj hi
 have hdel:∀n,zE Tryz.prog 145 [.sl 1 n 5 0 (yng l now ms).length false,.v (.int .i64 (i:Nat)),.v (.int .i64 ((i+1:Nat):Int))] [some ⟨n,5,(yng l now ms).map Mp.enc⟩] (fun d H=>d=.sl 1 n 5 0 (pv pr ad po (yng l now ms)).length false∧H=[some ⟨n,5,(pv pr ad po (yng l now ms)).map Mp.enc⟩]):=fun n=>by
  rw [Uc hgY hi hm0]
  exact rG 1 (yng l now ms) i (i+1) (by omega) (by omega) (by unfold maxLen;omega) n
 have hbl:(pv pr ad po (yng l now ms)).length≤(yng l now ms).length:=List.length_filter_le _ _
 have hlenY:((yng l now ms).map Mp.enc).length=(yng l now ms).length:=List.length_map _
 have hlenY2:((pv pr ad po (yng l now ms)).map Mp.enc).length=(pv pr ad po (yng l now ms)).length:=List.length_map _
 have hwi:IntKind.i64.wrap ((i:Int)+1)=((i+1:Nat):Int):=(IntWalk.i64_in _ (by omega)).trans (by omega)
 have hpl:True:=trivial
 have h3:True:=trivial
 have hcat:((pv pr ad po (yng l now ms)).map Mp.enc)++[(⟨pr,ad,po,m0.ou,now⟩:Mp).enc]=(pv pr ad po (yng l now ms)++[(⟨pr,ad,po,m0.ou,now⟩:Mp)]).map Mp.enc:=by rw [List.map_append];rfl
 unfold pn dNt rNt
 clear hgY hg
 generalize yng l now ms=Y at *
 generalize pv pr ad po Y=Z at *
 generalize bs b1 17 Y=T1 at *
 generalize bs b2 6 Y=T2 at *
 generalize bs b1 17 ms=S1 at *
 generalize bs b2 6 ms=S2 at *
 have nf1:=fun g=>uK g (Z++[(⟨pr,ad,po,m0.ou,now⟩:Mp)])
 have hw1:0<ms.length→IntKind.i64.wrap ((ms.length:Int)-1)=((ms.length-1:Nat):Int):=fun _=>(IntWalk.i64_in _ (by omega)).trans (by omega)
 have hix:=Int.toNat_natCast (ms.length-1)
 have hk:0<ms.length:=by omega
 have hw1:=hw1 hk
 obtain ⟨ml,hm1,hm2⟩:=oX ms hk
 rw [hm2] at hn1
 have exl:=vj hm1
 rcases hp with hp|hp
 all_goals
  refine z7 {} 2 Tryz.func109 fun Γ hW=>auC ?_
  refine wZ ?_
  repeat' first|refine am ?_|fail|refine auD ?_|(refine auW ?_ ?_<;>intro h<;>try exact auH)|fail
  refine wZ ?_
  repeat' first|refine am ?_|(first|(with_reducible refine z6 h1 ?_))|refine auD ?_|(refine auW ?_ ?_<;>intro h<;>try exact auH)|fail
  repeat' first|refine auS ?_|(first|(with_reducible refine z6 h2 ?_)|(with_reducible refine yB 1 hO ?_)|(refine wo 4 1 (by decide) rfl rfl (hex _ _) (fun _ _ _ h=>h) ?_)|(refine xp 1 rfl hw ⟨⟨rfl,rfl,rfl,rfl,rfl,.inl ⟨rfl,rfl,by simp,by rw [tH (by simp)]⟩,rfl⟩,rfl,rfl,rfl,rfl⟩ rfl ?_)|(refine z_ 1 rfl (hdel _) (fun _ _ _ h=>h) ?_)|(refine wo 4 1 (by decide) rfl rfl (hpl _ _) (fun _ _ _ h=>h) ?_)|(with_reducible refine z6 h3 ?_)|(simp only [hlen,hlenY,hw1,hwi]))|refine auD ?_|(refine auW ?_ ?_<;>intro h<;>try exact auH)|(first|(simp only [hix,exl])|(simp only [Int.toNat_natCast,Nat.zero_add,exi])|(refine zf ⟨by (try rw [hlenY]);omega,by trivial⟩ ?_)|(refine zf ⟨by trivial,by unfold y8 maxLen;(try rw [hlenY2]);simp;omega⟩ ?_)|fail)
  all_goals try exact auP
  all_goals first
   |(exfalso;simp at h;done)
   |skip
  rw [hcat]
  refine zL (zT hW 3 8 (by decide) (ys:=[[.v (.int .i64 l),.v (.int .i64 b1),.v (.int .u64 (T1:Nat)),.v (.int .i64 b2),.v (.int .u64 (T2:Nat)),.snap 5 ((Z++[(⟨pr,ad,po,m0.ou,now⟩:Mp)]).map Mp.enc) false]]) rfl rfl ⟨⟨rfl,rfl,rfl,rfl,rfl,Or.inl ⟨rfl,rfl,by simp,by rw [tH (by simp)]⟩,rfl⟩,rfl⟩) ?_
  all_goals with_reducible refine va (by (try first|refine auR ?_|exact zc);(repeat' (first|exact trivial|exact rfl|exact zl (fun x=>by simp [nfL,nfD,nfD,nfL,nf1])|decide|apply And.intro))) ?_
  all_goals (try first|refine auR ?_|exact zc)
  all_goals (try simp only [hsM] at *)
end
end Go.Proofs.YtaiileiodjicpaaGreatDoor.A
