import Derived.Test.YtmibknbmhcnemaaDoorTm08
set_option linter.unusedVariables false
set_option linter.unusedSimpArgs false
namespace Go.Proofs.YtmibknbmhcnemaaDoor.A
attribute [local irreducible] zz Go
set_option maxRecDepth 100000
abbrev rNt (l b1:Int) (t1:Nat) (b2:Int) (t2:Nat) (ms:List Mp):List DV:=[.v (.int .i64 l),.v (.int .i64 b1),.v (.int .u64 (t1:Int)),.v (.int .i64 b2),.v (.int .u64 (t2:Int)),.snap 5 (ms.map Mp.enc) false]
def yt (pr:Int) (n k:Nat):DV:=if pr=17 then .ptr k n 6 0 1 else if pr=6 then .ptr k n 6 0 3 else .v (.pointer none)
theorem xI (n:Nat) (l b1:Int) (t1:Nat) (b2:Int) (t2:Nat) (ms:List Mp) (pr:Int):zy Tryd.prog 56 [.ptr 0 n 6 0 0,.v (.int .i64 pr)] [some ⟨n,6,[rNt l b1 t1 b2 t2 ms]⟩] (fun d H=>d=yt pr n 0∧H=[some ⟨n,6,[rNt l b1 t1 b2 t2 ms]⟩]):=by
 by_cases h17:pr=17
 ·have e:yt pr n 0=.ptr 0 n 6 0 1:=by unfold yt;rw [if_pos h17]
  rw [e]
  refine zv {} 2 Tryd.func56 fun Γ hN0 hL0=>auC ?_
  have hn:=hN0 0 _ rfl
  repeat' first|refine auS ?_|fail|refine auD ?_|(refine auW ?_ ?_<;>intro h<;>try exact auH)|fail
  all_goals try exact auP
  refine yI trivial ?_ rfl rfl hn ?_ rfl
  ·first
    |exact trivial
    |exact hn
    |(simp [zU,xX,nfD,nfL];done)
    |(show _<_;exact hn)
    |(show nfD _ _;simp [nfD,hn])
  ·refine ⟨⟨trivial,trivial,trivial,trivial,trivial,?_,trivial⟩,trivial⟩
   show yL _ _
   exact zj (fun x=>by simp [Mp.enc,nfL,nfD])
 ·by_cases h6:pr=6
  ·have e:yt pr n 0=.ptr 0 n 6 0 3:=by unfold yt;rw [if_neg h17,if_pos h6]
   rw [e]
   refine zv {} 2 Tryd.func56 fun Γ hN0 hL0=>auC ?_
   have hn:=hN0 0 _ rfl
   repeat' first|refine auS ?_|fail|refine auD ?_|(refine auW ?_ ?_<;>intro h<;>try exact auH)|fail
   all_goals try exact auP
   refine yI trivial ?_ rfl rfl hn ?_ rfl
   ·first
     |exact trivial
     |exact hn
     |(simp [zU,xX,nfD,nfL];done)
     |(show _<_;exact hn)
     |(show nfD _ _;simp [nfD,hn])
   ·refine ⟨⟨trivial,trivial,trivial,trivial,trivial,?_,trivial⟩,trivial⟩
    show yL _ _
    exact zj (fun x=>by simp [Mp.enc,nfL,nfD])
  ·have e:yt pr n 0=.v (.pointer none):=by unfold yt;rw [if_neg h17,if_neg h6]
   rw [e]
   refine zv {} 2 Tryd.func56 fun Γ hN0 hL0=>auC ?_
   have hn:=hN0 0 _ rfl
   repeat' first|refine auS ?_|fail|refine auD ?_|(refine auW ?_ ?_<;>intro h<;>try exact auH)|fail
   all_goals try exact auP
   refine yI trivial ?_ rfl rfl hn ?_ rfl
   ·first
     |exact trivial
     |exact hn
     |(simp [zU,xX,nfD,nfL];done)
     |(show _<_;exact hn)
     |(show nfD _ _;simp [nfD,hn])
   ·refine ⟨⟨trivial,trivial,trivial,trivial,trivial,?_,trivial⟩,trivial⟩
    show yL _ _
    exact zj (fun x=>by simp [Mp.enc,nfL,nfD])
set_option maxHeartbeats 1000000 in
theorem nI {g:FuncId} {caps:List DV} (p:Mp→Bool) (l:List Mp) (c:Bool) (hl:l.length≤maxLen) (hg:∀t∈l,zf Tryd.prog g (.agg (Mp.enc t)::caps) (.v (.bool (p t)))):zf Tryd.prog 78 [.snap 5 (l.map Mp.enc) c,.fn (.func g) [] caps] (.v (.int .i64 (ze p l 0))):=by
 unfold maxLen at hl
 refine z4 {} 0 Tryd.func78 fun Γ hW=>auC ?_
 repeat' first|refine auS ?_|fail|refine auD ?_|(refine auW ?_ ?_<;>intro h<;>try exact auH)|fail
 refine zE (α:=Nat) (fun k=>[(⟨.d0,.d1,.d0⟩,.v (.int .i64 (k:Nat)))]) (fun _=>[]) (fun _=>Γ.g0) (fun k=>l.length-k) (fun k=>k≤l.length∧ze p l 0=ze p (l.drop k) k) 0 ⟨Nat.zero_le _,rfl⟩ ?_ ?_
 ·skip
  refine zt ?_ ?_ (Nat.le_refl _)
  all_goals first|refine auE ?_|exact zR
  all_goals repeat' first|exact trivial|exact rfl|apply And.intro
 ·rintro k ⟨hk,hp⟩
  refine auL ?_
  by_cases hlt:k<l.length
  ·obtain ⟨t,ht⟩:∃t,l[k]?=some t:=⟨_,List.getElem?_eq_getElem hlt⟩
   have ex:=ye Mp.enc l k t ht
   have hgt:=hg t (List.mem_of_getElem? ht)
   rw [List.drop_eq_getElem_cons hlt,show l[k]=t from Option.some.inj ((List.getElem?_eq_getElem hlt).symm.trans ht)] at hp
   repeat' first|refine auS ?_|(with_reducible refine z0 hgt ?_)|refine auD ?_|(refine auW ?_ ?_<;>intro h<;>try exact auH)|(simp only [Int.toNat_natCast,ex])
   all_goals try exact auP
   ·skip
    all_goals refine auV ?_
    all_goals try exact z_
    all_goals try simp only [hsM] at *
    rw [hp]
    simp [ze, *]
   ·refine zp ?_
    refine ⟨k+1,⟨Nat.succ_le_of_lt hlt,by rw [hp];simp [ze, *]⟩,Nat.sub_lt_sub_left hlt (Nat.lt_succ_self k),?_⟩
    refine zt ?_ ?_ (Nat.le_refl _)
    all_goals first|refine auE ?_|exact zR
    all_goals repeat' first|exact trivial|exact rfl|apply And.intro
    exact y8 ((IntWalk.i64_in _ (by omega)).trans (by omega))
  ·skip
   repeat' first|refine auS ?_|fail|refine auD ?_|(refine auW ?_ ?_<;>intro h<;>try exact auH)|fail
   all_goals try exact auP
   all_goals refine auV ?_
   all_goals try exact z_
   all_goals try simp only [hsM] at *
   obtain rfl:k=l.length:=by omega
   rw [hp,List.drop_length]
   rfl
theorem wI {l:List Mp} {k:Nat} {t:Mp} (ht:l[k]?=some t):yb (l.map Mp.enc) k=[.v (.int .i64 t.pr),.v (.int .u32 t.ad),.v (.int .i64 t.po),.v (.int .i64 t.ou),.v (.int .i64 t.tm)]:=ye Mp.enc l k t ht
theorem lB (m:Mp) (pr ad po:Int):zf Tryd.prog 79 [.agg m.enc,.rptr [.v (.int .i64 pr)],.rptr [.v (.int .u32 ad)],.rptr [.v (.int .i64 po)]] (.v (.bool (decide (m.pr=pr∧m.ad=ad∧m.po=po)))):=by
 refine z4 {} 0 Tryd.func79 fun Γ hW=>auC ?_
 repeat' first|refine auS ?_|fail|refine auD ?_|(refine auW ?_ ?_<;>intro h<;>try exact auH)|fail
 all_goals try exact auP
 all_goals refine auV ?_
 all_goals try exact z_
 all_goals try simp only [hsM] at *
 all_goals (refine wo ?_;simp_all)
abbrev dNt (l b1:Int) (t1:Nat) (b2:Int) (t2:Nat) (ms:List Mp):DV:=.agg (rNt l b1 t1 b2 t2 ms)
theorem uf (l b1:Int) (t1:Nat) (b2:Int) (t2:Nat) (ms:List Mp) (pr ad po:Int) (hl:ms.length≤maxLen):zf Tryd.prog 57 [dNt l b1 t1 b2 t2 ms,.v (.int .i64 pr),.v (.int .u32 ad),.v (.int .i64 po)] (.v (.int .i64 (ze (fun m:Mp=>decide (m.pr=pr∧m.ad=ad∧m.po=po)) ms 0))):=by
 have hi:=nI (g:=79) (caps:=[.rptr [.v (.int .i64 pr)],.rptr [.v (.int .u32 ad)],.rptr [.v (.int .i64 po)]]) (fun m=>decide (m.pr=pr∧m.ad=ad∧m.po=po)) ms false hl (fun m _=>lB m pr ad po)
 refine z4 {} 0 Tryd.func57 fun Γ hW=>auC ?_
 repeat' first|(first|(refine zY (zK hW ⟨.d0,.d0,.d5⟩ rfl rfl ⟨rfl,rfl,Nat.succ_pos _⟩) ?_)|(refine zY (zK hW ⟨.d0,.d0,.d6⟩ rfl rfl ⟨rfl,rfl,Nat.succ_pos _⟩) ?_)|(refine zY (zK hW ⟨.d0,.d0,.d7⟩ rfl rfl ⟨rfl,rfl,Nat.succ_pos _⟩) ?_))|refine auS ?_|(with_reducible refine z0 hi ?_)|refine auD ?_|(refine auW ?_ ?_<;>intro h<;>try exact auH)|fail
 all_goals refine auV ?_
 all_goals try exact z_
 all_goals try simp only [hsM] at *
end Go.Proofs.YtmibknbmhcnemaaDoor.A
namespace Go.Proofs.YtmibknbmhcnemaaDoor.A
attribute [local irreducible] zz Go
set_option maxRecDepth 100000
def zF (l b1:Int) (t1:Nat) (b2:Int) (t2:Nat) (ms:List Mp):Int:=if decide (1≤l∧l≤1000000)&&(pOk b1&&pOk b2) then (if xG b1 b2 [] ms t1 t2 0 then 0 else 4) else 1
abbrev gK (m:Mp):Mp→Bool:=fun y=>decide (y.pr=m.pr∧y.ad=m.ad∧y.po=m.po)
theorem a6 {ms:List Mp} {k:Nat} {m:Mp} (hm:ms[k]?=some m) (a:Int):okE (ms.take k) a m=true↔(m.pr=17∨m.pr=6)∧0≤m.po∧m.po≤65535∧a≤m.tm∧m.tm≤1099511627776∧ze (gK m) ms 0=(k:Int):=by
 have hk:k<ms.length:=(List.getElem?_eq_some_iff.1 hm).1
 have e:ms=ms.take k++m::ms.drop (k+1):=by
  conv=>lhs;rw [←List.take_append_drop k ms,List.drop_eq_getElem_cons hk,show ms[k]=m from Option.some.inj ((List.getElem?_eq_getElem hk).symm.trans hm)]
 have hf:=ui (gK m) m (by simp) (ms.drop (k+1)) (ms.take k) 0
 rw [←e] at hf
 rw [show ((0+(ms.take k).length:Nat):Int)=(k:Int) by simp;omega] at hf
 rw [hf]
 unfold okE ci
 simp only [Bool.and_eq_true,decide_eq_true_eq,and_assoc]
theorem su {b:Int} {t:Nat} {o:Int} (hb:pOk b=true):sX b t o=0↔tkd b t o=true:=by
 unfold sX
 rw [hb]
 cases tkd b t o<;>simp
theorem se {b:Int} {t:Nat} {o:Int} (hb:pOk b=true) (h:tkd b t o=true):nw b t o=b∧oP b t o=clr b t o:=by
 unfold nw oP
 rw [hb,h]
 exact ⟨rfl,rfl⟩
theorem Y4 (b1 b2:Int):max (pE b1) (pE b2)=if pOk b1&&pOk b2 then 0 else 1:=by
 unfold pE
 cases pOk b1<;>cases pOk b2<;>rfl
set_option maxHeartbeats 4000000 in
theorem yX (l b1:Int) (t1:Nat) (b2:Int) (t2:Nat) (ms:List Mp) (hl:ms.length≤maxLen) (h1:t1<18446744073709551616) (h2:t2<18446744073709551616):zf Tryd.prog 36 [dNt l b1 t1 b2 t2 ms] (.v (.int .i64 (zF l b1 t1 b2 t2 ms))):=by
 have c1:=yC b1 t1
 have c2:=yC b2 t2
 have hmx:=Y4 b1 b2
 have hl':=hl
 unfold maxLen at hl'
 by_cases hg:1≤l∧l≤1000000∧(pOk b1&&pOk b2)=true
 ·have e:zF l b1 t1 b2 t2 ms=if xG b1 b2 [] ms t1 t2 0 then 0 else 4:=by unfold zF;rw [if_pos (by simp only [Bool.and_eq_true,decide_eq_true_eq];simp only [Bool.and_eq_true] at hg;exact ⟨⟨hg.1,hg.2.1⟩,hg.2.2⟩)]
  rw [e]
  clear e
  rw [if_pos hg.2.2] at hmx
  have hb1:pOk b1=true:=by have:=hg.2.2;rw [Bool.and_eq_true] at this;exact this.1
  have hb2:pOk b2=true:=by have:=hg.2.2;rw [Bool.and_eq_true] at this;exact this.2
  have hll:=hg.1
  have hlu:=hg.2.1
  clear hg
  refine z4 {} 0 Tryd.func36 fun Γ hW=>auC ?_
  repeat' first|refine auS ?_|(first|(with_reducible refine z0 c1 ?_)|(with_reducible refine z0 c2 ?_)|(simp only [hmx]))|refine auD ?_|(refine auW ?_ ?_<;>intro h<;>try exact auH)|fail
  all_goals try exact auP
  all_goals first
   |(exfalso;simp at h;done)
   |skip
  refine zE (α:=Nat×Nat×Nat×Int×Nat) (fun p=>[(⟨.d0,.d0,.d5⟩,.v (.int .i64 p.2.2.2.1)),(⟨.d0,.d4,.d1⟩,.v (.int .i64 (p.1:Nat)))]) (fun p=>[(1,some ⟨Γ.g0+1,6,[rNt l b1 p.2.1 b2 p.2.2.1 ms]⟩),(2,none),(3,none)]) (fun p=>p.2.2.2.2) (fun p=>ms.length-p.1) (fun p=>p.1≤ms.length∧p.2.1<18446744073709551616∧p.2.2.1<18446744073709551616∧xG b1 b2 [] ms t1 t2 0=xG b1 b2 (ms.take p.1) (ms.drop p.1) p.2.1 p.2.2.1 p.2.2.2.1) (0,t1,t2,0,Γ.g0+1+1) ⟨Nat.zero_le _,h1,h2,rfl⟩ ?_ ?_
  ·skip
   refine zt ?_ ?_ (Nat.le_refl _)
   all_goals first|refine auE ?_|exact zR
   all_goals repeat' first|exact trivial|exact rfl|apply And.intro
  rintro ⟨k,u1,u2,a,gn⟩ ⟨hk,hu1,hu2,hr⟩
  dsimp only at hk hu1 hu2 hr ⊢
  refine auL ?_
  by_cases hlt:k<ms.length
  ·obtain ⟨m,hm⟩:∃m,ms[k]?=some m:=⟨_,List.getElem?_eq_getElem hlt⟩
   have ex:=wI hm
   have hok:=a6 hm a
   have htk:ms.take k++[m]=ms.take (k+1):=by rw [List.take_add_one,hm];rfl
   rw [List.drop_eq_getElem_cons hlt,show ms[k]=m from Option.some.inj ((List.getElem?_eq_getElem hlt).symm.trans hm),xG,htk] at hr
   by_cases h17:m.pr=17
   ·have hpl0:yt m.pr (Γ.g0+1) 0=.ptr 0 (Γ.g0+1) 6 0 1:=by unfold yt;rw [if_pos h17]
    have hen:=sc b1 u1 m.ou hu1
    have hE:tk2 b1 b2 u1 u2 m=true→sX b1 u1 m.ou=0:=fun e=>(su hb1).2 (by simpa only [tk2,if_pos h17] using e)
    have hD:∀K w v,z9 K w (yt m.pr (Γ.g0+1) 0) v→z9 K w (.ptr 1 (Γ.g0+1) 6 0 1) v:=fun K w v hv=>by
     rw [hpl0] at hv
     exact vk hv
    have hpl:=xQ 1 (xI (Γ.g0+1) l b1 u1 b2 u2 ms m.pr)
    have hwi:zf Tryd.prog 57 [dNt l b1 t1 b2 t2 ms,.v (.int .i64 m.pr),.v (.int .u32 m.ad),.v (.int .i64 m.po)] (.v (.int .i64 (ze (gK m) ms 0))):=uf l b1 t1 b2 t2 ms m.pr m.ad m.po hl
    generalize ze (gK m) ms 0=fi at hwi hok
    repeat' first|refine auS ?_|(first|((with_reducible refine z7 1 ?_ hpl hD ?_);(exact rfl))|(with_reducible refine z0 hwi ?_)|(with_reducible refine z0 hen ?_))|refine auD ?_|(refine auW ?_ ?_<;>intro h<;>try exact auH)|(simp only [Int.toNat_natCast,ex])
    all_goals try exact auP
    rotate_right
    ·rename_i q0 q1 q2 q3 q4 q5
     have hz:sX b1 u1 m.ou=0:=by simpa using h
     have hq:=(su hb1).1 hz
     obtain ⟨f1,f2⟩:=se hb1 hq
     have hok':okE (ms.take k) a m=true:=hok.2 ⟨.inl h17,by simpa using q1,by simpa using q2,by simpa using q3,by simpa using q4,by simpa using q5⟩
     have hr':xG b1 b2 [] ms t1 t2 0=xG b1 b2 (ms.take (k+1)) (ms.drop (k+1)) (clr b1 u1 m.ou) u2 m.tm:=by
      rw [hr,hok']
      simp only [tk2,n1,n2,if_pos h17,hq,Bool.true_and]
     simp only [f1,f2]
     refine zp ⟨(k+1,clr b1 u1 m.ou,u2,m.tm,gn+2),⟨hlt,ll hq hu1,hu2,hr'⟩,Nat.sub_lt_sub_left hlt (Nat.lt_succ_self k),?_⟩
     dsimp only
     refine zt ?_ ?_ (Nat.le_refl _)
     all_goals first|refine auE ?_|exact zR
     all_goals repeat' first|exact trivial|exact rfl|apply And.intro
     exact y8 ((IntWalk.i64_in _ (by omega)).trans (by omega))
    all_goals refine auV ?_
    all_goals try exact z_
    all_goals try simp only [hsM] at *
    all_goals (refine y8 ?_)
    all_goals (rw [if_neg];intro e;rw [hr,Bool.and_eq_true,Bool.and_eq_true,hok] at e;have hz:=hE e.1.2;omega)
   ·by_cases h6:m.pr=6
    ·have hpl0:yt m.pr (Γ.g0+1) 0=.ptr 0 (Γ.g0+1) 6 0 3:=by unfold yt;rw [if_neg h17,if_pos h6]
     have hen:=sc b2 u2 m.ou hu2
     have hE:tk2 b1 b2 u1 u2 m=true→sX b2 u2 m.ou=0:=fun e=>(su hb2).2 (by simpa only [tk2,if_neg h17] using e)
     have hD:∀K w v,z9 K w (yt m.pr (Γ.g0+1) 0) v→z9 K w (.ptr 1 (Γ.g0+1) 6 0 3) v:=fun K w v hv=>by
      rw [hpl0] at hv
      exact vk hv
     have hpl:=xQ 1 (xI (Γ.g0+1) l b1 u1 b2 u2 ms m.pr)
     have hwi:zf Tryd.prog 57 [dNt l b1 t1 b2 t2 ms,.v (.int .i64 m.pr),.v (.int .u32 m.ad),.v (.int .i64 m.po)] (.v (.int .i64 (ze (gK m) ms 0))):=uf l b1 t1 b2 t2 ms m.pr m.ad m.po hl
     generalize ze (gK m) ms 0=fi at hwi hok
     repeat' first|refine auS ?_|(first|((with_reducible refine z7 1 ?_ hpl hD ?_);(exact rfl))|(with_reducible refine z0 hwi ?_)|(with_reducible refine z0 hen ?_))|refine auD ?_|(refine auW ?_ ?_<;>intro h<;>try exact auH)|(simp only [Int.toNat_natCast,ex])
     all_goals try exact auP
     rotate_right
     ·rename_i q0 q1 q2 q3 q4 q5
      have hz:sX b2 u2 m.ou=0:=by simpa using h
      have hq:=(su hb2).1 hz
      obtain ⟨f1,f2⟩:=se hb2 hq
      have hok':okE (ms.take k) a m=true:=hok.2 ⟨.inr h6,by simpa using q1,by simpa using q2,by simpa using q3,by simpa using q4,by simpa using q5⟩
      have hr':xG b1 b2 [] ms t1 t2 0=xG b1 b2 (ms.take (k+1)) (ms.drop (k+1)) u1 (clr b2 u2 m.ou) m.tm:=by
       rw [hr,hok']
       simp only [tk2,n1,n2,if_neg h17,hq,Bool.true_and]
      simp only [f1,f2]
      refine zp ⟨(k+1,u1,clr b2 u2 m.ou,m.tm,gn+2),⟨hlt,hu1,ll hq hu2,hr'⟩,Nat.sub_lt_sub_left hlt (Nat.lt_succ_self k),?_⟩
      dsimp only
      refine zt ?_ ?_ (Nat.le_refl _)
      all_goals first|refine auE ?_|exact zR
      all_goals repeat' first|exact trivial|exact rfl|apply And.intro
      exact y8 ((IntWalk.i64_in _ (by omega)).trans (by omega))
     all_goals refine auV ?_
     all_goals try exact z_
     all_goals try simp only [hsM] at *
     all_goals (refine y8 ?_)
     all_goals (rw [if_neg];intro e;rw [hr,Bool.and_eq_true,Bool.and_eq_true,hok] at e;have hz:=hE e.1.2;omega)
    ·have hpl0:yt m.pr (Γ.g0+1) 0=.v (.pointer none):=by unfold yt;rw [if_neg h17,if_neg h6]
     have hD:∀K w v,z9 K w (yt m.pr (Γ.g0+1) 0) v→z9 K w (.v (.pointer none)) v:=fun K w v hv=>by
      rw [hpl0] at hv
      exact hv
     have hpl:=xQ 1 (xI (Γ.g0+1) l b1 u1 b2 u2 ms m.pr)
     repeat' first|refine auS ?_|((with_reducible refine z7 1 ?_ hpl hD ?_);(exact rfl))|refine auD ?_|(refine auW ?_ ?_<;>intro h<;>try exact auH)|(simp only [Int.toNat_natCast,ex])
     all_goals try exact auP
     all_goals refine auV ?_
     all_goals try exact z_
     all_goals try simp only [hsM] at *
     all_goals (refine y8 ?_)
     all_goals (rw [if_neg];intro e;rw [hr,Bool.and_eq_true,Bool.and_eq_true,hok] at e;omega)
  ·obtain rfl:k=ms.length:=by omega
   rw [List.drop_length,xG] at hr
   rw [hr]
   repeat' first|refine auS ?_|fail|refine auD ?_|(refine auW ?_ ?_<;>intro h<;>try exact auH)|fail
   all_goals try exact auP
   all_goals refine auV ?_
   all_goals try exact z_
   all_goals try simp only [hsM] at *
   all_goals (refine y8 ?_)
   all_goals first
    |(rw [if_neg (by omega)];done)
    |(rw [if_pos (by omega)];done)
 ·have e:zF l b1 t1 b2 t2 ms=1:=by
   unfold zF
   rw [if_neg]
   simp only [Bool.and_eq_true,decide_eq_true_eq]
   rintro ⟨⟨q1,q2⟩,q3⟩
   exact hg ⟨q1,q2,by rw [Bool.and_eq_true];exact q3⟩
  rw [e]
  clear e
  by_cases hg2:(pOk b1&&pOk b2)=true
  ·rw [if_pos hg2] at hmx
   have hg3:¬(1≤l∧l≤1000000):=fun q=>hg ⟨q.1,q.2,hg2⟩
   refine z4 {} 0 Tryd.func36 fun Γ hW=>auC ?_
   repeat' first|refine auS ?_|(first|(with_reducible refine z0 c1 ?_)|(with_reducible refine z0 c2 ?_)|(simp only [hmx]))|refine auD ?_|(refine auW ?_ ?_<;>intro h<;>try exact auH)|fail
   all_goals try exact auP
   all_goals first
    |(exfalso;simp at h;done)
    |skip
   all_goals refine auV ?_
   all_goals try exact z_
   all_goals try simp only [hsM] at *
   all_goals first
    |rfl
    |(exfalso;omega)
  ·rw [if_neg hg2] at hmx
   refine z4 {} 0 Tryd.func36 fun Γ hW=>auC ?_
   repeat' first|refine auS ?_|(first|(with_reducible refine z0 c1 ?_)|(with_reducible refine z0 c2 ?_)|(simp only [hmx]))|refine auD ?_|(refine auW ?_ ?_<;>intro h<;>try exact auH)|fail
   all_goals try exact auP
   all_goals first
    |(exfalso;simp at h;done)
    |skip
   all_goals refine auV ?_
   all_goals try exact z_
   all_goals try simp only [hsM] at *
   all_goals first
    |rfl
    |(exfalso;omega)
end Go.Proofs.YtmibknbmhcnemaaDoor.A
