import Derived.Test.YtaiileiodjicpaaGreatDoorTt08
set_option linter.unusedVariables false
set_option linter.unusedSimpArgs false
namespace Go.Proofs.YtaiileiodjicpaaGreatDoor.A
attribute [local irreducible] zF Go
set_option maxRecDepth 100000
abbrev rNt (l b1:Int) (t1:Nat) (b2:Int) (t2:Nat) (ms:List Mp):List DV:=[.v (.int .i64 l),.v (.int .i64 b1),.v (.int .u64 (t1:Int)),.v (.int .i64 b2),.v (.int .u64 (t2:Int)),.snap 5 (ms.map Mp.enc) false]
def yJ (pr:Int) (n k:Nat):DV:=if pr=17 then .ptr k n 6 0 1 else if pr=6 then .ptr k n 6 0 3 else .v (.pointer none)
theorem wj (n:Nat) (l b1:Int) (t1:Nat) (b2:Int) (t2:Nat) (ms:List Mp) (pr:Int):zE Tryz.prog 94 [.ptr 0 n 6 0 0,.v (.int .i64 pr)] [some ⟨n,6,[rNt l b1 t1 b2 t2 ms]⟩] (fun d H=>d=yJ pr n 0∧H=[some ⟨n,6,[rNt l b1 t1 b2 t2 ms]⟩]):=by
 by_cases h17:pr=17
 ·have e:yJ pr n 0=.ptr 0 n 6 0 1:=by unfold yJ;rw [if_pos h17]
  rw [e]
  refine zp {} 2 Tryz.func94 fun Γ hN0 hL0=>auC ?_
  have hn:=hN0 0 _ rfl
  repeat' first|refine auS ?_|fail|refine auD ?_|(refine auW ?_ ?_<;>intro h<;>try exact auH)|fail
  all_goals try exact auP
  refine zU trivial ?_ rfl rfl hn ?_ rfl
  ·first
    |exact trivial
    |exact hn
    |(simp [yn,wA,nfD,nfL];done)
    |(show _<_;exact hn)
    |(show nfD _ _;simp [nfD,hn])
  ·refine ⟨⟨trivial,trivial,trivial,trivial,trivial,?_,trivial⟩,trivial⟩
   show yA _ _
   exact zl (fun x=>by simp [Mp.enc,nfL,nfD])
 ·by_cases h6:pr=6
  ·have e:yJ pr n 0=.ptr 0 n 6 0 3:=by unfold yJ;rw [if_neg h17,if_pos h6]
   rw [e]
   refine zp {} 2 Tryz.func94 fun Γ hN0 hL0=>auC ?_
   have hn:=hN0 0 _ rfl
   repeat' first|refine auS ?_|fail|refine auD ?_|(refine auW ?_ ?_<;>intro h<;>try exact auH)|fail
   all_goals try exact auP
   refine zU trivial ?_ rfl rfl hn ?_ rfl
   ·first
     |exact trivial
     |exact hn
     |(simp [yn,wA,nfD,nfL];done)
     |(show _<_;exact hn)
     |(show nfD _ _;simp [nfD,hn])
   ·refine ⟨⟨trivial,trivial,trivial,trivial,trivial,?_,trivial⟩,trivial⟩
    show yA _ _
    exact zl (fun x=>by simp [Mp.enc,nfL,nfD])
  ·have e:yJ pr n 0=.v (.pointer none):=by unfold yJ;rw [if_neg h17,if_neg h6]
   rw [e]
   refine zp {} 2 Tryz.func94 fun Γ hN0 hL0=>auC ?_
   have hn:=hN0 0 _ rfl
   repeat' first|refine auS ?_|fail|refine auD ?_|(refine auW ?_ ?_<;>intro h<;>try exact auH)|fail
   all_goals try exact auP
   refine zU trivial ?_ rfl rfl hn ?_ rfl
   ·first
     |exact trivial
     |exact hn
     |(simp [yn,wA,nfD,nfL];done)
     |(show _<_;exact hn)
     |(show nfD _ _;simp [nfD,hn])
   ·refine ⟨⟨trivial,trivial,trivial,trivial,trivial,?_,trivial⟩,trivial⟩
    show yA _ _
    exact zl (fun x=>by simp [Mp.enc,nfL,nfD])
set_option maxHeartbeats 1000000 in
theorem lG {g:FuncId} {caps:List DV} (p:Mp→Bool) (l:List Mp) (c:Bool) (hl:l.length≤maxLen) (hg:∀t∈l,zi Tryz.prog g (.agg (Mp.enc t)::caps) (.v (.bool (p t)))):zi Tryz.prog 130 [.snap 5 (l.map Mp.enc) c,.fn (.func g) [] caps] (.v (.int .i64 (zk p l 0))):=by
 unfold maxLen at hl
 refine z7 {} 0 Tryz.func130 fun Γ hW=>auC ?_
 repeat' first|refine auS ?_|fail|refine auD ?_|(refine auW ?_ ?_<;>intro h<;>try exact auH)|fail
 refine zw (α:=Nat) (fun k=>[(⟨.d0,.d1,.d0⟩,.v (.int .i64 (k:Nat)))]) (fun _=>[]) (fun _=>Γ.g0) (fun k=>l.length-k) (fun k=>k≤l.length∧zk p l 0=zk p (l.drop k) k) 0 ⟨Nat.zero_le _,rfl⟩ ?_ ?_
 ·skip
  refine zo ?_ ?_ (Nat.le_refl _)
  all_goals first|refine auE ?_|exact zK
  all_goals repeat' first|exact trivial|exact rfl|apply And.intro
 ·rintro k ⟨hk,hp⟩
  refine auL ?_
  by_cases hlt:k<l.length
  ·obtain ⟨t,ht⟩:∃t,l[k]?=some t:=⟨_,List.getElem?_eq_getElem hlt⟩
   have ex:=ye Mp.enc l k t ht
   have hgt:=hg t (List.mem_of_getElem? ht)
   rw [List.drop_eq_getElem_cons hlt,show l[k]=t from Option.some.inj ((List.getElem?_eq_getElem hlt).symm.trans ht)] at hp
   repeat' first|refine auS ?_|(with_reducible refine z6 hgt ?_)|refine auD ?_|(refine auW ?_ ?_<;>intro h<;>try exact auH)|(simp only [Int.toNat_natCast,ex])
   all_goals try exact auP
   ·skip
    all_goals refine auV ?_
    all_goals try exact zc
    all_goals try simp only [hsM] at *
    rw [hp]
    simp [zk, *]
   ·refine zn ?_
    refine ⟨k+1,⟨Nat.succ_le_of_lt hlt,by rw [hp];simp [zk, *]⟩,Nat.sub_lt_sub_left hlt (Nat.lt_succ_self k),?_⟩
    refine zo ?_ ?_ (Nat.le_refl _)
    all_goals first|refine auE ?_|exact zK
    all_goals repeat' first|exact trivial|exact rfl|apply And.intro
    exact yd ((IntWalk.i64_in _ (by omega)).trans (by omega))
  ·skip
   repeat' first|refine auS ?_|fail|refine auD ?_|(refine auW ?_ ?_<;>intro h<;>try exact auH)|fail
   all_goals try exact auP
   all_goals refine auV ?_
   all_goals try exact zc
   all_goals try simp only [hsM] at *
   obtain rfl:k=l.length:=by omega
   rw [hp,List.drop_length]
   rfl
theorem vj {l:List Mp} {k:Nat} {t:Mp} (ht:l[k]?=some t):yo (l.map Mp.enc) k=[.v (.int .i64 t.pr),.v (.int .u32 t.ad),.v (.int .i64 t.po),.v (.int .i64 t.ou),.v (.int .i64 t.tm)]:=ye Mp.enc l k t ht
theorem jJ (m:Mp) (pr ad po:Int):zi Tryz.prog 131 [.agg m.enc,.rptr [.v (.int .i64 pr)],.rptr [.v (.int .u32 ad)],.rptr [.v (.int .i64 po)]] (.v (.bool (decide (m.pr=pr∧m.ad=ad∧m.po=po)))):=by
 refine z7 {} 0 Tryz.func131 fun Γ hW=>auC ?_
 repeat' first|refine auS ?_|fail|refine auD ?_|(refine auW ?_ ?_<;>intro h<;>try exact auH)|fail
 all_goals try exact auP
 all_goals refine auV ?_
 all_goals try exact zc
 all_goals try simp only [hsM] at *
 all_goals (refine xP ?_;simp_all)
abbrev dNt (l b1:Int) (t1:Nat) (b2:Int) (t2:Nat) (ms:List Mp):DV:=.agg (rNt l b1 t1 b2 t2 ms)
theorem uC (l b1:Int) (t1:Nat) (b2:Int) (t2:Nat) (ms:List Mp) (pr ad po:Int) (hl:ms.length≤maxLen):zi Tryz.prog 95 [dNt l b1 t1 b2 t2 ms,.v (.int .i64 pr),.v (.int .u32 ad),.v (.int .i64 po)] (.v (.int .i64 (zk (fun m:Mp=>decide (m.pr=pr∧m.ad=ad∧m.po=po)) ms 0))):=by
 have hi:=lG (g:=131) (caps:=[.rptr [.v (.int .i64 pr)],.rptr [.v (.int .u32 ad)],.rptr [.v (.int .i64 po)]]) (fun m=>decide (m.pr=pr∧m.ad=ad∧m.po=po)) ms false hl (fun m _=>jJ m pr ad po)
 refine z7 {} 0 Tryz.func95 fun Γ hW=>auC ?_
 repeat' first|(first|(refine zP (yb hW ⟨.d0,.d0,.d5⟩ rfl rfl ⟨rfl,rfl,Nat.succ_pos _⟩) ?_)|(refine zP (yb hW ⟨.d0,.d0,.d6⟩ rfl rfl ⟨rfl,rfl,Nat.succ_pos _⟩) ?_)|(refine zP (yb hW ⟨.d0,.d0,.d7⟩ rfl rfl ⟨rfl,rfl,Nat.succ_pos _⟩) ?_))|refine auS ?_|(with_reducible refine z6 hi ?_)|refine auD ?_|(refine auW ?_ ?_<;>intro h<;>try exact auH)|fail
 all_goals refine auV ?_
 all_goals try exact zc
 all_goals try simp only [hsM] at *
end Go.Proofs.YtaiileiodjicpaaGreatDoor.A
namespace Go.Proofs.YtaiileiodjicpaaGreatDoor.A
attribute [local irreducible] zF Go
set_option maxRecDepth 100000
def y_ (l b1:Int) (t1:Nat) (b2:Int) (t2:Nat) (ms:List Mp):Int:=if decide (1≤l∧l≤1000000)&&(pOk b1&&pOk b2) then (if xV b1 b2 [] ms t1 t2 0 then 0 else 4) else 1
abbrev af (m:Mp):Mp→Bool:=fun y=>decide (y.pr=m.pr∧y.ad=m.ad∧y.po=m.po)
theorem Wt {ms:List Mp} {k:Nat} {m:Mp} (hm:ms[k]?=some m) (a:Int):okE (ms.take k) a m=true↔(m.pr=17∨m.pr=6)∧0≤m.po∧m.po≤65535∧a≤m.tm∧m.tm≤1099511627776∧zk (af m) ms 0=(k:Int):=by
 have hk:k<ms.length:=(List.getElem?_eq_some_iff.1 hm).1
 have e:ms=ms.take k++m::ms.drop (k+1):=by
  conv=>lhs;rw [←List.take_append_drop k ms,List.drop_eq_getElem_cons hk,show ms[k]=m from Option.some.inj ((List.getElem?_eq_getElem hk).symm.trans hm)]
 have hf:=uR (af m) m (by simp) (ms.drop (k+1)) (ms.take k) 0
 rw [←e] at hf
 rw [show ((0+(ms.take k).length:Nat):Int)=(k:Int) by simp;omega] at hf
 rw [hf]
 unfold okE Y4
 simp only [Bool.and_eq_true,decide_eq_true_eq,and_assoc]
theorem r_ {b:Int} {t:Nat} {o:Int} (hb:pOk b=true):rZ b t o=0↔tkd b t o=true:=by
 unfold rZ
 rw [hb]
 cases tkd b t o<;>simp
theorem rm {b:Int} {t:Nat} {o:Int} (hb:pOk b=true) (h:tkd b t o=true):m6 b t o=b∧mJ b t o=clr b t o:=by
 unfold m6 mJ
 rw [hb,h]
 exact ⟨rfl,rfl⟩
theorem VV (b1 b2:Int):max (pE b1) (pE b2)=if pOk b1&&pOk b2 then 0 else 1:=by
 unfold pE
 cases pOk b1<;>cases pOk b2<;>rfl
set_option maxHeartbeats 4000000 in
theorem xi (l b1:Int) (t1:Nat) (b2:Int) (t2:Nat) (ms:List Mp) (hl:ms.length≤maxLen) (h1:t1<18446744073709551616) (h2:t2<18446744073709551616):zi Tryz.prog 68 [dNt l b1 t1 b2 t2 ms] (.v (.int .i64 (y_ l b1 t1 b2 t2 ms))):=by
 have c1:=yY b1 t1
 have c2:=yY b2 t2
 have hmx:=VV b1 b2
 have hl':=hl
 unfold maxLen at hl'
 by_cases hg:1≤l∧l≤1000000∧(pOk b1&&pOk b2)=true
 ·have e:y_ l b1 t1 b2 t2 ms=if xV b1 b2 [] ms t1 t2 0 then 0 else 4:=by unfold y_;rw [if_pos (by simp only [Bool.and_eq_true,decide_eq_true_eq];simp only [Bool.and_eq_true] at hg;exact ⟨⟨hg.1,hg.2.1⟩,hg.2.2⟩)]
  rw [e]
  clear e
  rw [if_pos hg.2.2] at hmx
  have hb1:pOk b1=true:=by have:=hg.2.2;rw [Bool.and_eq_true] at this;exact this.1
  have hb2:pOk b2=true:=by have:=hg.2.2;rw [Bool.and_eq_true] at this;exact this.2
  have hll:=hg.1
  have hlu:=hg.2.1
  clear hg
  refine z7 {} 0 Tryz.func68 fun Γ hW=>auC ?_
  repeat' first|refine auS ?_|(first|(with_reducible refine z6 c1 ?_)|(with_reducible refine z6 c2 ?_)|(simp only [hmx]))|refine auD ?_|(refine auW ?_ ?_<;>intro h<;>try exact auH)|fail
  all_goals try exact auP
  all_goals first
   |(exfalso;simp at h;done)
   |skip
  refine zw (α:=Nat×Nat×Nat×Int×Nat) (fun p=>[(⟨.d0,.d0,.d5⟩,.v (.int .i64 p.2.2.2.1)),(⟨.d0,.d4,.d1⟩,.v (.int .i64 (p.1:Nat)))]) (fun p=>[(1,some ⟨Γ.g0+1,6,[rNt l b1 p.2.1 b2 p.2.2.1 ms]⟩),(2,none),(3,none)]) (fun p=>p.2.2.2.2) (fun p=>ms.length-p.1) (fun p=>p.1≤ms.length∧p.2.1<18446744073709551616∧p.2.2.1<18446744073709551616∧xV b1 b2 [] ms t1 t2 0=xV b1 b2 (ms.take p.1) (ms.drop p.1) p.2.1 p.2.2.1 p.2.2.2.1) (0,t1,t2,0,Γ.g0+1+1) ⟨Nat.zero_le _,h1,h2,rfl⟩ ?_ ?_
  ·skip
   refine zo ?_ ?_ (Nat.le_refl _)
   all_goals first|refine auE ?_|exact zK
   all_goals repeat' first|exact trivial|exact rfl|apply And.intro
  rintro ⟨k,u1,u2,a,gn⟩ ⟨hk,hu1,hu2,hr⟩
  dsimp only at hk hu1 hu2 hr ⊢
  refine auL ?_
  by_cases hlt:k<ms.length
  ·obtain ⟨m,hm⟩:∃m,ms[k]?=some m:=⟨_,List.getElem?_eq_getElem hlt⟩
   have ex:=vj hm
   have hok:=Wt hm a
   have htk:ms.take k++[m]=ms.take (k+1):=by rw [List.take_add_one,hm];rfl
   rw [List.drop_eq_getElem_cons hlt,show ms[k]=m from Option.some.inj ((List.getElem?_eq_getElem hlt).symm.trans hm),xV,htk] at hr
   by_cases h17:m.pr=17
   ·have hpl0:yJ m.pr (Γ.g0+1) 0=.ptr 0 (Γ.g0+1) 6 0 1:=by unfold yJ;rw [if_pos h17]
    have hen:=rr b1 u1 m.ou hu1
    have hE:tk2 b1 b2 u1 u2 m=true→rZ b1 u1 m.ou=0:=fun e=>(r_ hb1).2 (by simpa only [tk2,if_pos h17] using e)
    have hD:∀K w v,ze K w (yJ m.pr (Γ.g0+1) 0) v→ze K w (.ptr 1 (Γ.g0+1) 6 0 1) v:=fun K w v hv=>by
     rw [hpl0] at hv
     exact vS hv
    have hpl:=zv 1 (wj (Γ.g0+1) l b1 u1 b2 u2 ms m.pr)
    have hwi:zi Tryz.prog 95 [dNt l b1 t1 b2 t2 ms,.v (.int .i64 m.pr),.v (.int .u32 m.ad),.v (.int .i64 m.po)] (.v (.int .i64 (zk (af m) ms 0))):=uC l b1 t1 b2 t2 ms m.pr m.ad m.po hl
    generalize zk (af m) ms 0=fi at hwi hok
    repeat' first|refine auS ?_|(first|((with_reducible refine z_ 1 ?_ hpl hD ?_);(exact rfl))|(with_reducible refine z6 hwi ?_)|(with_reducible refine z6 hen ?_))|refine auD ?_|(refine auW ?_ ?_<;>intro h<;>try exact auH)|(simp only [Int.toNat_natCast,ex])
    all_goals try exact auP
    rotate_right
    ·rename_i q0 q1 q2 q3 q4 q5
     have hz:rZ b1 u1 m.ou=0:=by simpa using h
     have hq:=(r_ hb1).1 hz
     obtain ⟨f1,f2⟩:=rm hb1 hq
     have hok':okE (ms.take k) a m=true:=hok.2 ⟨.inl h17,by simpa using q1,by simpa using q2,by simpa using q3,by simpa using q4,by simpa using q5⟩
     have hr':xV b1 b2 [] ms t1 t2 0=xV b1 b2 (ms.take (k+1)) (ms.drop (k+1)) (clr b1 u1 m.ou) u2 m.tm:=by
      rw [hr,hok']
      simp only [tk2,n1,n2,if_pos h17,hq,Bool.true_and]
     simp only [f1,f2]
     refine zn ⟨(k+1,clr b1 u1 m.ou,u2,m.tm,gn+2),⟨hlt,jn hq hu1,hu2,hr'⟩,Nat.sub_lt_sub_left hlt (Nat.lt_succ_self k),?_⟩
     dsimp only
     refine zo ?_ ?_ (Nat.le_refl _)
     all_goals first|refine auE ?_|exact zK
     all_goals repeat' first|exact trivial|exact rfl|apply And.intro
     exact yd ((IntWalk.i64_in _ (by omega)).trans (by omega))
    all_goals refine auV ?_
    all_goals try exact zc
    all_goals try simp only [hsM] at *
    all_goals (refine yd ?_)
    all_goals (rw [if_neg];intro e;rw [hr,Bool.and_eq_true,Bool.and_eq_true,hok] at e;have hz:=hE e.1.2;omega)
   ·by_cases h6:m.pr=6
    ·have hpl0:yJ m.pr (Γ.g0+1) 0=.ptr 0 (Γ.g0+1) 6 0 3:=by unfold yJ;rw [if_neg h17,if_pos h6]
     have hen:=rr b2 u2 m.ou hu2
     have hE:tk2 b1 b2 u1 u2 m=true→rZ b2 u2 m.ou=0:=fun e=>(r_ hb2).2 (by simpa only [tk2,if_neg h17] using e)
     have hD:∀K w v,ze K w (yJ m.pr (Γ.g0+1) 0) v→ze K w (.ptr 1 (Γ.g0+1) 6 0 3) v:=fun K w v hv=>by
      rw [hpl0] at hv
      exact vS hv
     have hpl:=zv 1 (wj (Γ.g0+1) l b1 u1 b2 u2 ms m.pr)
     have hwi:zi Tryz.prog 95 [dNt l b1 t1 b2 t2 ms,.v (.int .i64 m.pr),.v (.int .u32 m.ad),.v (.int .i64 m.po)] (.v (.int .i64 (zk (af m) ms 0))):=uC l b1 t1 b2 t2 ms m.pr m.ad m.po hl
     generalize zk (af m) ms 0=fi at hwi hok
     repeat' first|refine auS ?_|(first|((with_reducible refine z_ 1 ?_ hpl hD ?_);(exact rfl))|(with_reducible refine z6 hwi ?_)|(with_reducible refine z6 hen ?_))|refine auD ?_|(refine auW ?_ ?_<;>intro h<;>try exact auH)|(simp only [Int.toNat_natCast,ex])
     all_goals try exact auP
     rotate_right
     ·rename_i q0 q1 q2 q3 q4 q5
      have hz:rZ b2 u2 m.ou=0:=by simpa using h
      have hq:=(r_ hb2).1 hz
      obtain ⟨f1,f2⟩:=rm hb2 hq
      have hok':okE (ms.take k) a m=true:=hok.2 ⟨.inr h6,by simpa using q1,by simpa using q2,by simpa using q3,by simpa using q4,by simpa using q5⟩
      have hr':xV b1 b2 [] ms t1 t2 0=xV b1 b2 (ms.take (k+1)) (ms.drop (k+1)) u1 (clr b2 u2 m.ou) m.tm:=by
       rw [hr,hok']
       simp only [tk2,n1,n2,if_neg h17,hq,Bool.true_and]
      simp only [f1,f2]
      refine zn ⟨(k+1,u1,clr b2 u2 m.ou,m.tm,gn+2),⟨hlt,hu1,jn hq hu2,hr'⟩,Nat.sub_lt_sub_left hlt (Nat.lt_succ_self k),?_⟩
      dsimp only
      refine zo ?_ ?_ (Nat.le_refl _)
      all_goals first|refine auE ?_|exact zK
      all_goals repeat' first|exact trivial|exact rfl|apply And.intro
      exact yd ((IntWalk.i64_in _ (by omega)).trans (by omega))
     all_goals refine auV ?_
     all_goals try exact zc
     all_goals try simp only [hsM] at *
     all_goals (refine yd ?_)
     all_goals (rw [if_neg];intro e;rw [hr,Bool.and_eq_true,Bool.and_eq_true,hok] at e;have hz:=hE e.1.2;omega)
    ·have hpl0:yJ m.pr (Γ.g0+1) 0=.v (.pointer none):=by unfold yJ;rw [if_neg h17,if_neg h6]
     have hD:∀K w v,ze K w (yJ m.pr (Γ.g0+1) 0) v→ze K w (.v (.pointer none)) v:=fun K w v hv=>by
      rw [hpl0] at hv
      exact hv
     have hpl:=zv 1 (wj (Γ.g0+1) l b1 u1 b2 u2 ms m.pr)
     repeat' first|refine auS ?_|((with_reducible refine z_ 1 ?_ hpl hD ?_);(exact rfl))|refine auD ?_|(refine auW ?_ ?_<;>intro h<;>try exact auH)|(simp only [Int.toNat_natCast,ex])
     all_goals try exact auP
     all_goals refine auV ?_
     all_goals try exact zc
     all_goals try simp only [hsM] at *
     all_goals (refine yd ?_)
     all_goals (rw [if_neg];intro e;rw [hr,Bool.and_eq_true,Bool.and_eq_true,hok] at e;omega)
  ·obtain rfl:k=ms.length:=by omega
   rw [List.drop_length,xV] at hr
   rw [hr]
   repeat' first|refine auS ?_|fail|refine auD ?_|(refine auW ?_ ?_<;>intro h<;>try exact auH)|fail
   all_goals try exact auP
   all_goals refine auV ?_
   all_goals try exact zc
   all_goals try simp only [hsM] at *
   all_goals (refine yd ?_)
   all_goals first
    |(rw [if_neg (by omega)];done)
    |(rw [if_pos (by omega)];done)
 ·have e:y_ l b1 t1 b2 t2 ms=1:=by
   unfold y_
   rw [if_neg]
   simp only [Bool.and_eq_true,decide_eq_true_eq]
   rintro ⟨⟨q1,q2⟩,q3⟩
   exact hg ⟨q1,q2,by rw [Bool.and_eq_true];exact q3⟩
  rw [e]
  clear e
  by_cases hg2:(pOk b1&&pOk b2)=true
  ·rw [if_pos hg2] at hmx
   have hg3:¬(1≤l∧l≤1000000):=fun q=>hg ⟨q.1,q.2,hg2⟩
   refine z7 {} 0 Tryz.func68 fun Γ hW=>auC ?_
   repeat' first|refine auS ?_|(first|(with_reducible refine z6 c1 ?_)|(with_reducible refine z6 c2 ?_)|(simp only [hmx]))|refine auD ?_|(refine auW ?_ ?_<;>intro h<;>try exact auH)|fail
   all_goals try exact auP
   all_goals first
    |(exfalso;simp at h;done)
    |skip
   all_goals refine auV ?_
   all_goals try exact zc
   all_goals try simp only [hsM] at *
   all_goals first
    |rfl
    |(exfalso;omega)
  ·rw [if_neg hg2] at hmx
   refine z7 {} 0 Tryz.func68 fun Γ hW=>auC ?_
   repeat' first|refine auS ?_|(first|(with_reducible refine z6 c1 ?_)|(with_reducible refine z6 c2 ?_)|(simp only [hmx]))|refine auD ?_|(refine auW ?_ ?_<;>intro h<;>try exact auH)|fail
   all_goals try exact auP
   all_goals first
    |(exfalso;simp at h;done)
    |skip
   all_goals refine auV ?_
   all_goals try exact zc
   all_goals try simp only [hsM] at *
   all_goals first
    |rfl
    |(exfalso;omega)
end Go.Proofs.YtaiileiodjicpaaGreatDoor.A
namespace Go.Proofs.YtaiileiodjicpaaGreatDoor.A
end Go.Proofs.YtaiileiodjicpaaGreatDoor.A
namespace Go.Proofs.YtaiileiodjicpaaGreatDoor.A
end Go.Proofs.YtaiileiodjicpaaGreatDoor.A
namespace Go.Proofs.YtaiileiodjicpaaGreatDoor.A
theorem pY {α:Type} (p:α→Bool) (l:List α):(zk p l 0 = -1∧l.find? p=none)∨∃ (i:Nat) (t:α),l[i]?=some t∧zk p l 0=(i:Int)∧l.find? p=some t:=by
 rcases xl p l 0 with ⟨h1,h2⟩|⟨i,t,h1,h2,h3,h4⟩
 ·exact .inl ⟨h1,List.find?_eq_none.2 (fun x hx=>by simp [h2 x hx])⟩
 ·refine .inr ⟨i,t,h1,by rw [h4];simp,?_⟩
  have hi:i<l.length:=(List.getElem?_eq_some_iff.1 h1).1
  have e:l=l.take i++t::l.drop (i+1):=by
   have:l.drop i=t::l.drop (i+1):=by rw [List.drop_eq_getElem_cons hi,show l[i]=t from Option.some.inj ((List.getElem?_eq_getElem hi).symm.trans h1)]
   rw [←this,List.take_append_drop]
  rw [e,List.find?_append,List.find?_eq_none.2 (fun x hx=>by simp [h3 x hx])]
  simp [h2]
end Go.Proofs.YtaiileiodjicpaaGreatDoor.A
namespace Go.Proofs.YtaiileiodjicpaaGreatDoor.A
def wM (b pr:Int) (m:Mp):Nat:=if m.pr=pr then 2 ^ (m.ou-b).toNat else 0
def bs (b pr:Int):List Mp→Nat
 |[]=>0
 |m::r=>wM b pr m+bs b pr r
def inR (b pr:Int) (ms:List Mp):Prop:=∀m∈ms,m.pr=pr→b≤m.ou∧m.ou≤b+63
theorem t7 (b pr:Int):∀(ms:List Mp),inR b pr ms→(ms.map wQ).Nodup→bs b pr ms<18446744073709551616∧∀j,(bs b pr ms).testBit j=ms.any (fun m=>decide (m.pr=pr∧(m.ou-b).toNat=j))
 |[],_,_=>⟨by simp [bs],fun j=>by simp [bs]⟩
 |m::r,hr,hn=>by
  simp only [List.map_cons,List.nodup_cons] at hn
  obtain ⟨h1,h2⟩:=t7 b pr r (fun y hy=>hr y (List.mem_cons_of_mem _ hy)) hn.2
  by_cases hp:m.pr=pr
  ·obtain ⟨r1,r2⟩:=hr m (by simp) hp
   have hc:(bs b pr r).testBit (m.ou-b).toNat=false:=by
    rw [h2,List.any_eq_false]
    intro y hy
    simp only [decide_eq_true_eq,not_and]
    intro e1 e2
    obtain ⟨q1,q2⟩:=hr y (List.mem_cons_of_mem _ hy) e1
    exact hn.1 (List.mem_map.2 ⟨y,hy,by simp only [wQ,Prod.mk.injEq];exact ⟨e1.trans hp.symm,by omega⟩⟩)
   have e:bs b pr (m::r)=bs b pr r+2 ^ (m.ou-b).toNat:=by
    simp only [bs,wM]
    rw [if_pos hp,Nat.add_comm]
   rw [e]
   refine ⟨eN h1 (by omega) hc,fun j=>?_⟩
   rw [qG hc,Nat.testBit_or,h2,Nat.testBit_two_pow,List.any_cons,Bool.or_comm]
   congr 1
   simp [hp]
  ·have e:bs b pr (m::r)=bs b pr r:=by
    simp only [bs,wM]
    rw [if_neg hp,Nat.zero_add]
   rw [e]
   exact ⟨h1,fun j=>by rw [h2,List.any_cons];simp [hp]⟩
theorem YL {b pr:Int} {ms:List Mp} (hr:inR b pr ms) (hn:(ms.map wQ).Nodup) (o:Int) (h0:b≤o∧o≤b+63):tkd b (bs b pr ms) o=lE pr ms o:=by
 unfold tkd lE
 rw [decide_eq_true h0,Bool.true_and,(t7 b pr ms hr hn).2,Bool.eq_iff_iff,List.any_eq_true,List.any_eq_true]
 constructor
 ·rintro ⟨m,hm,h⟩
  have h:=of_decide_eq_true h
  have:=hr m hm h.1
  exact ⟨m,hm,decide_eq_true ⟨h.1,by omega⟩⟩
 ·rintro ⟨m,hm,h⟩
  have h:=of_decide_eq_true h
  exact ⟨m,hm,decide_eq_true ⟨h.1,by rw [h.2]⟩⟩
theorem Vo {b pr:Int} {t:Nat} {ms:List Mp} (ht:t<18446744073709551616) (hr:inR b pr ms) (hn:(ms.map wQ).Nodup) (h:∀o,tkd b t o=lE pr ms o):t=bs b pr ms:=by
 obtain ⟨h1,h2⟩:=t7 b pr ms hr hn
 refine Nat.eq_of_testBit_eq fun j=>?_
 rcases Nat.lt_or_ge j 64 with hj|hj
 ·have e:=h (b+(j:Int))
  rw [←YL hr hn _ (by omega)] at e
  unfold tkd at e
  rw [decide_eq_true (by omega),Bool.true_and,Bool.true_and,show (b+(j:Int)-b).toNat=j by omega] at e
  exact e
 ·have hp:18446744073709551616≤2 ^ j:=Nat.pow_le_pow_right (n:=2) (by decide) hj
  rw [Nat.testBit_lt_two_pow (by omega),Nat.testBit_lt_two_pow (by omega)]
structure tj (b1 b2:Int) (ms:List Mp):Prop where
 pr:∀m∈ms,m.pr=17∨m.pr=6
 tm:∀m∈ms,0≤m.tm∧m.tm≤1099511627776
 r1:inR b1 17 ms
 r2:inR b2 6 ms
 pw:ms.Pairwise (fun o m=>pV o m=false)
theorem tj.sub {b1 b2:Int} {ms l:List Mp} (h:tj b1 b2 ms) (hs:l.Sublist ms):tj b1 b2 l:=
 ⟨fun m hm=>h.pr m (hs.subset hm),fun m hm=>h.tm m (hs.subset hm),fun m hm=>h.r1 m (hs.subset hm),fun m hm=>h.r2 m (hs.subset hm),h.pw.sublist hs⟩
theorem tj.nd {b1 b2:Int} {ms:List Mp} (h:tj b1 b2 ms):(ms.map wQ).Nodup:=by
 rw [List.nodup_iff_pairwise_ne,List.pairwise_map]
 refine h.pw.imp ?_
 intro o m hc e
 simp only [wQ,Prod.mk.injEq] at e
 unfold pV at hc
 rw [decide_eq_false_iff_not] at hc
 exact hc (.inr ⟨e.1,.inl e.2⟩)
theorem Zk {ms:List Mp} (h:yS im [] ms=true):ms.Pairwise (fun o m=>pV o m=false):=by
 rw [List.pairwise_iff_getElem]
 intro i j hi hj hij
 have:=sP h (List.getElem?_eq_getElem hj)
 unfold im at this
 simp only [Bool.and_eq_true,List.all_eq_true,Bool.not_eq_true'] at this
 refine this.2 _ ?_
 rw [List.nil_append,List.mem_take_iff_getElem]
 exact ⟨i,by omega,rfl⟩
theorem qE {l b1:Int} {t1:Nat} {b2:Int} {t2:Nat} {ms:List Mp} (h1:t1<18446744073709551616) (h2:t2<18446744073709551616) (h:y_ l b1 t1 b2 t2 ms=0):(1≤l∧l≤1000000)∧(pOk b1=true∧pOk b2=true)∧tj b1 b2 ms∧t1=bs b1 17 ms∧t2=bs b2 6 ms:=by
 unfold y_ at h
 split at h
 ·rename_i hc
  split at h
  ·rename_i hr
   simp only [Bool.and_eq_true,decide_eq_true_eq] at hc
   refine ⟨hc.1,hc.2,?_⟩
   have hr':=hr
   rw [n6 b1 b2 ms [] t1 t2 0 h1 h2] at hr'
   obtain ⟨_,hn,hk⟩:=hr'
   rw [←pA b1 b2 t1 t2 ms h1 h2,Bool.and_eq_true] at hr
   have hg:=hr.1
   have hat:∀m∈ms,(m.pr=17∨m.pr=6)∧(0≤m.tm∧m.tm≤1099511627776):=fun m hm=>by
    obtain ⟨j,hj⟩:=List.mem_iff_getElem?.1 hm
    have:=sP hg hj
    unfold im at this
    simp only [Bool.and_eq_true,decide_eq_true_eq] at this
    exact ⟨this.1.1.1,this.1.2⟩
   have k1:∀o,tkd b1 t1 o=lE 17 ms o:=fun o=>by
    rw [Bool.eq_iff_iff,←ti,←hk (17,o)]
    simp [tkB]
   have k2:∀o,tkd b2 t2 o=lE 6 ms o:=fun o=>by
    rw [Bool.eq_iff_iff,←ti,←hk (6,o)]
    simp [tkB]
   have hR:∀(b pr:Int) (t:Nat),(∀o,tkd b t o=lE pr ms o)→inR b pr ms:=fun b pr t hk m hm hp=>by
    have:lE pr ms m.ou=true:=List.any_eq_true.2 ⟨m,hm,by simp [hp]⟩
    rw [←hk] at this
    exact ⟨(jY this).1,(jY this).2.1⟩
   have r1:=hR b1 17 t1 k1
   have r2:=hR b2 6 t2 k2
   exact ⟨⟨fun m hm=>(hat m hm).1,fun m hm=>(hat m hm).2,r1,r2,Zk hg⟩,Vo h1 r1 hn k1,Vo h2 r2 hn k2⟩
  ·omega
 ·omega
theorem il {b pr:Int} {m:Mp} {r:List Mp} (hr:inR b pr (m::r)) (hn:((m::r).map wQ).Nodup) (hp:m.pr=pr):tkd b (bs b pr (m::r)) m.ou=true∧clr b (bs b pr (m::r)) m.ou=bs b pr r:=by
 obtain ⟨r1,r2⟩:=hr m (by simp) hp
 have hn':=hn
 simp only [List.map_cons,List.nodup_cons] at hn
 obtain ⟨h1,h2⟩:=t7 b pr r (fun y hy=>hr y (List.mem_cons_of_mem _ hy)) hn.2
 have hc:(bs b pr r).testBit (m.ou-b).toNat=false:=by
  rw [h2,List.any_eq_false]
  intro y hy
  simp only [decide_eq_true_eq,not_and]
  intro e1 e2
  obtain ⟨q1,q2⟩:=hr y (List.mem_cons_of_mem _ hy) e1
  exact hn.1 (List.mem_map.2 ⟨y,hy,by simp only [wQ,Prod.mk.injEq];exact ⟨e1.trans hp.symm,by omega⟩⟩)
 have e:bs b pr (m::r)=bs b pr r ||| 2 ^ (m.ou-b).toNat:=by
  simp only [bs,wM]
  rw [if_pos hp,Nat.add_comm,qG hc]
 refine ⟨?_,?_⟩
 ·rw [YL hr hn' _ ⟨r1,r2⟩]
  exact List.any_eq_true.2 ⟨m,by simp,by simp [hp]⟩
 ·unfold clr
  rw [e]
  refine Nat.eq_of_testBit_eq fun i=>?_
  rw [Nat.testBit_xor,Nat.testBit_or,Nat.testBit_two_pow]
  by_cases hi:(m.ou-b).toNat=i
  ·rw [←hi,hc,decide_eq_true rfl]
   rfl
  ·rw [decide_eq_false hi]
   simp
theorem dQ {b pr:Int} {m:Mp} {r:List Mp} (hp:¬m.pr=pr):bs b pr (m::r)=bs b pr r:=by simp only [bs,wM];rw [if_neg hp,Nat.zero_add]
def uH (l now:Int) (m:Mp):Bool:=decide (now≤m.tm+l)
def yng (l now:Int) (ms:List Mp):List Mp:=ms.filter (uH l now)
theorem nL {b1 b2 l now:Int} {ms:List Mp} (h:tj b1 b2 ms) (k:Nat) (h1:∀m∈ms.take k,uH l now m=false) (h2:∀m,ms[k]?=some m→uH l now m=true):yng l now ms=ms.drop k:=by
 have e:ms=ms.take k++ms.drop k:=(List.take_append_drop k ms).symm
 unfold yng
 rw [e,List.filter_append,List.filter_eq_nil_iff.2 (fun m hm=>by rw [h1 m hm];decide),List.nil_append,←e,List.filter_eq_self]
 intro m hm
 obtain ⟨i,hi,rfl⟩:=List.mem_iff_getElem.1 hm
 rw [List.length_drop] at hi
 rw [List.getElem_drop]
 have hk:k<ms.length:=by omega
 have hy:=h2 ms[k] (List.getElem?_eq_getElem hk)
 rcases Nat.eq_zero_or_pos i with rfl|hp
 ·exact hy
 ·have hc:=List.pairwise_iff_getElem.1 h.pw k (k+i) hk (by omega) (by omega)
  unfold pV at hc
  rw [decide_eq_false_iff_not] at hc
  unfold uH at hy ⊢
  have:=of_decide_eq_true hy
  exact decide_eq_true (by omega)
abbrev isP (pr ad po:Int):Mp→Bool:=fun m=>decide (m.pr=pr∧m.ad=ad∧m.po=po)
def pv (pr ad po:Int) (ms:List Mp):List Mp:=ms.filter (fun m=>!isP pr ad po m)
theorem Uc {b1 b2 pr ad po:Int} {ms:List Mp} (h:tj b1 b2 ms) {i:Nat} {m:Mp} (hi:ms[i]?=some m) (hm:isP pr ad po m=true):pv pr ad po ms=ms.take i++ms.drop (i+1):=by
 have hlt:i<ms.length:=(List.getElem?_eq_some_iff.1 hi).1
 have hmi:ms[i]=m:=Option.some.inj ((List.getElem?_eq_getElem hlt).symm.trans hi)
 have e:ms=ms.take i++m::ms.drop (i+1):=by
  have:ms.drop i=m::ms.drop (i+1):=by rw [List.drop_eq_getElem_cons hlt,hmi]
  rw [←this,List.take_append_drop]
 have hm':=of_decide_eq_true hm
 have hne:∀j (hj:j<ms.length),j≠i→isP pr ad po ms[j]=false:=fun j hj hji=>by
  unfold isP
  rw [decide_eq_false_iff_not]
  rintro ⟨e1,e2,e3⟩
  rcases Nat.lt_or_gt_of_ne hji with hlt'|hgt
  ·have hc:=List.pairwise_iff_getElem.1 h.pw j i hj hlt hlt'
   unfold pV at hc
   rw [decide_eq_false_iff_not,hmi] at hc
   exact hc (.inr ⟨by rw [e1,hm'.1],.inr ⟨by rw [e2,hm'.2.1],by rw [e3,hm'.2.2]⟩⟩)
  ·have hc:=List.pairwise_iff_getElem.1 h.pw i j hlt hj hgt
   unfold pV at hc
   rw [decide_eq_false_iff_not,hmi] at hc
   exact hc (.inr ⟨by rw [e1,hm'.1],.inr ⟨by rw [e2,hm'.2.1],by rw [e3,hm'.2.2]⟩⟩)
 have q1:(ms.take i).filter (fun m=>!isP pr ad po m)=ms.take i:=List.filter_eq_self.2 fun y hy=>by
  obtain ⟨j,hj,rfl⟩:=List.mem_take_iff_getElem.1 hy
  rw [hne j (by omega) (by omega)]
  rfl
 have q2:(ms.drop (i+1)).filter (fun m=>!isP pr ad po m)=ms.drop (i+1):=List.filter_eq_self.2 fun y hy=>by
  obtain ⟨j,hj,rfl⟩:=List.mem_iff_getElem.1 hy
  rw [List.length_drop] at hj
  rw [List.getElem_drop,hne (i+1+j) (by omega) (by omega)]
  rfl
 unfold pv
 rw [e,List.filter_append,List.filter_cons]
 rw [←e]
 rw [q1,q2,hm]
 rfl
end Go.Proofs.YtaiileiodjicpaaGreatDoor.A
