import Derived.Test.YtaiileiodjicpaaGreatDoorTt16
set_option linter.unusedVariables false
set_option linter.unusedSimpArgs false
namespace Go.Proofs.YtaiileiodjicpaaGreatDoor
attribute [local irreducible] zF Go
set_option maxRecDepth 100000
def mX (a b c d:Int):Int:=if a≠0 then a else if b≠0 then b else if c≠0 then c else d
theorem UX {a b c d:Int} (h:¬a=0):mX a b c d=a:=by unfold mX;rw [if_pos h]
theorem UY {a b c d:Int} (h1:a=0) (h:¬b=0):mX a b c d=b:=by unfold mX;rw [if_neg (not_not_intro h1),if_pos h]
theorem UQ {a b c d:Int} (h1:a=0) (h2:b=0) (h:¬c=0):mX a b c d=c:=by unfold mX;rw [if_neg (not_not_intro h1),if_neg (not_not_intro h2),if_pos h]
theorem UU {a b c d:Int} (h1:a=0) (h2:b=0) (h3:c=0):mX a b c d=d:=by unfold mX;rw [if_neg (not_not_intro h1),if_neg (not_not_intro h2),if_neg (not_not_intro h3)]
def mtE (h:Hs):Int:=if lJ h&&yS (tV h.p.ra h.p.mo) [] h.ms then 0 else 4
theorem dZ (h:Hs):lI h=mX (R.plE h.p) (T.yq h.tr) (iQ h.n) (mtE h):=rfl
def iv3:Nat→Int
 |0=>0
 |1=>1
 |2=>2
 |_=>3
theorem UB:iv3 0=0:=rfl
theorem UL:iv3 1=1:=rfl
theorem Uj:iv3 2=2:=rfl
theorem UD:iv3 3=3:=rfl
theorem mG (i:Nat) (h:i<3):IntKind.i64.wrap (iv3 i+1)=iv3 (i+1):=by
 have:i=0∨i=1∨i=2:=by omega
 rcases this with rfl|rfl|rfl<;>decide
theorem cr {h:Hs} (hb:lJ h=false∨yS (tV h.p.ra h.p.mo) [] h.ms=false):mtE h=4:=by
 unfold mtE
 rcases hb with hb|hb<;>rw [hb]
 ·rfl
 ·rw [Bool.and_false];rfl
theorem VP {h:Hs} (hb:lJ h=true) (hg:yS (tV h.p.ra h.p.mo) [] h.ms=true):mtE h=0:=by
 unfold mtE
 rw [hb,hg]
 rfl
set_option maxHeartbeats 4000000 in
theorem ic (u:Hs) (hw:u.wf):zi Tryz.prog 40 [dH u] (.v (.int .i64 (lI u))):=by
 rw [dZ]
 have hc1:=R.xJ u.p false hw.p hw.rs.1
 have hc2:=T.ym u.tr
 have hc3:zi Tryz.prog 68 [.agg u.n.enc] (.v (.int .i64 (iQ u.n))):=A.xi u.n.l u.n.b1 u.n.t1 u.n.b2 u.n.t2 u.n.ms hw.n.mm.1 hw.n.t1 hw.n.t2
 have hl:=hw.ms.1
 have hme:=fun ad=>tY u ad hl
 unfold maxLen at hl
 generalize R.plE u.p=e1 at *
 generalize T.yq u.tr=e2 at *
 generalize iQ u.n=e3 at *
 refine z7 {} 0 Tryz.func40 fun Γ hW=>auC ?_
 repeat' first|refine auS ?_|(first|(with_reducible refine z6 hc1 ?_)|(with_reducible refine z6 hc2 ?_)|(with_reducible refine z6 hc3 ?_))|refine auD ?_|(refine auW ?_ ?_<;>intro h<;>try exact auH)|fail
 refine zw (α:=Nat×Nat) (fun x=>[(⟨.d0,.d2,.d5⟩,.v (.int .i64 (iv3 x.1)))]) (fun _=>[]) (fun x=>x.2) (fun x=>3-x.1) (fun x=>x.1≤3∧(1≤x.1→e1=0)∧(2≤x.1→e2=0)∧(3≤x.1→e3=0)) (0,Γ.g0+1) ⟨Nat.zero_le _,by omega⟩ ?_ ?_
 ·skip
  refine zo ?_ ?_ (Nat.le_refl _)
  all_goals first|refine auE ?_|exact zK
  all_goals repeat' first|exact trivial|exact rfl|apply And.intro
 rintro ⟨i,gn⟩ ⟨hi,p1,p2,p3⟩
 dsimp only at hi p1 p2 p3 ⊢
 refine auL ?_
 have hcs:i=0∨i=1∨i=2∨i=3:=by omega
 rcases hcs with rfl|rfl|rfl|rfl
 all_goals simp only [UB,UL,Uj,UD]
 ·skip
  repeat' first|refine auS ?_|(first|(with_reducible refine z6 hc1 ?_)|(with_reducible refine z6 hc2 ?_)|(with_reducible refine z6 hc3 ?_))|refine auD ?_|(refine auW ?_ ?_<;>intro h<;>try exact auH)|fail
  all_goals try exact auP
  all_goals try (exfalso;omega)
  ·skip
   all_goals refine auV ?_
   all_goals try exact zc
   all_goals try simp only [hsM] at *
   exact yd (UX (by omega)).symm
  ·refine zn ⟨(1,gn),⟨by dsimp only;decide,by dsimp only;(simp only [hsL,reduceCtorEq] at *<;>omega)⟩,by dsimp only;decide,?_⟩
   refine zo ?_ ?_ (Nat.le_refl _)
   all_goals first|refine auE ?_|exact zK
   all_goals repeat' first|exact trivial|exact rfl|apply And.intro
   all_goals exact yd (mG _ (by decide))
 ·skip
  repeat' first|refine auS ?_|(first|(with_reducible refine z6 hc1 ?_)|(with_reducible refine z6 hc2 ?_)|(with_reducible refine z6 hc3 ?_))|refine auD ?_|(refine auW ?_ ?_<;>intro h<;>try exact auH)|fail
  all_goals try exact auP
  all_goals try (exfalso;omega)
  ·skip
   all_goals refine auV ?_
   all_goals try exact zc
   all_goals try simp only [hsM] at *
   exact yd (UY (p1 (by omega)) (by omega)).symm
  ·refine zn ⟨(2,gn),⟨by dsimp only;decide,by dsimp only;(simp only [hsL,reduceCtorEq] at *<;>omega)⟩,by dsimp only;decide,?_⟩
   refine zo ?_ ?_ (Nat.le_refl _)
   all_goals first|refine auE ?_|exact zK
   all_goals repeat' first|exact trivial|exact rfl|apply And.intro
   all_goals exact yd (mG _ (by decide))
 ·skip
  repeat' first|refine auS ?_|(first|(with_reducible refine z6 hc1 ?_)|(with_reducible refine z6 hc2 ?_)|(with_reducible refine z6 hc3 ?_))|refine auD ?_|(refine auW ?_ ?_<;>intro h<;>try exact auH)|fail
  all_goals try exact auP
  all_goals try (exfalso;omega)
  ·skip
   all_goals refine auV ?_
   all_goals try exact zc
   all_goals try simp only [hsM] at *
   exact yd (UQ (p1 (by omega)) (p2 (by omega)) (by omega)).symm
  ·refine zn ⟨(3,gn),⟨by dsimp only;decide,by dsimp only;(simp only [hsL,reduceCtorEq] at *<;>omega)⟩,by dsimp only;decide,?_⟩
   refine zo ?_ ?_ (Nat.le_refl _)
   all_goals first|refine auE ?_|exact zK
   all_goals repeat' first|exact trivial|exact rfl|apply And.intro
   all_goals exact yd (mG _ (by decide))
 rw [UU (p1 (by omega)) (p2 (by omega)) (p3 (by omega))]
 clear hc1 hc2 hc3 p1 p2 p3
 have hfit:lJ u=true↔u.ms.length≤64∧u.n.l=u.p.lf∧u.n.b1=u.p.lt∧u.n.b2=u.p.st:=by unfold lJ;simp only [Bool.and_eq_true,decide_eq_true_eq]
 by_cases hf:u.ms.length≤64∧u.n.l=u.p.lf∧u.n.b1=u.p.lt∧u.n.b2=u.p.st
 rotate_left
 ·rw [cr (.inl (by cases hq:lJ u with|false=>rfl|true=>exact absurd (hfit.1 hq) hf))]
  repeat' first|refine auS ?_|fail|refine auD ?_|(refine auW ?_ ?_<;>intro h<;>try exact auH)|fail
  all_goals try exact auP
  all_goals first
   |(exfalso;simp only [hsL,List.length_map] at *;exact hf ⟨by omega,by assumption,by assumption,by assumption⟩)
   |skip
  all_goals refine auV ?_
  all_goals try exact zc
  all_goals try simp only [hsM] at *
 have hfi:=hfit.2 hf
 clear hfit
 obtain ⟨f1,f2,f3,f4⟩:=hf
 repeat' first|refine auS ?_|fail|refine auD ?_|(refine auW ?_ ?_<;>intro h<;>try exact auH)|(simp only [f2,f3,f4])
 all_goals try exact auP
 all_goals try (exfalso;simp only [hsL] at *;omega)
 refine zw (α:=Nat×Int×Nat) (fun x=>[(⟨.d0,.d7,.d6⟩,.v (.int .i64 (x.1:Nat))),(⟨.d0,.d0,.d7⟩,.v (.int .i64 x.2.1))]) (fun _=>[(3,none),(4,none)]) (fun x=>x.2.2) (fun x=>u.ms.length-x.1) (fun x=>x.1≤u.ms.length∧yS (tV u.p.ra u.p.mo) [] u.ms=yS (tV u.p.ra u.p.mo) (u.ms.take x.1) (u.ms.drop x.1)∧(∀y∈u.ms.take x.1,∀z,u.ms[x.1-1]?=some z→y.tm≤z.tm)∧(x.1=0→x.2.1=0)∧∀z,0<x.1→u.ms[x.1-1]?=some z→z.tm=x.2.1) (0,0,gn+2) ⟨Nat.zero_le _,rfl,fun y hy=>by simp at hy,fun _=>rfl,fun z h0=>absurd h0 (Nat.lt_irrefl 0)⟩ ?_ ?_
 ·skip
  refine zo ?_ ?_ (Nat.le_refl _)
  all_goals first|refine auE ?_|exact zK
  all_goals repeat' first|exact trivial|exact rfl|apply And.intro
 rintro ⟨k,a,g2⟩ ⟨hk,hg,hs,ha0,ha⟩
 dsimp only at hk hg hs ha0 ha ⊢
 refine auL ?_
 by_cases hlt:k<u.ms.length
 ·obtain ⟨t,ht⟩:∃t,u.ms[k]?=some t:=⟨_,List.getElem?_eq_getElem hlt⟩
  have ex:=jU ht
  have hok:=YF (ra:=u.p.ra) (mo:=u.p.mo) ht hs
  have hb:=B.oM t.ra t.mo t.hs t.tm
  have hm:=hme t.ad
  have hbe:B.uS t.ra t.mo t.hs t.tm=0→_:=fun q=>B.r6 q
  have hok2:tV u.p.ra u.p.mo (u.ms.take k) t=true↔B.uS t.ra t.mo t.hs t.tm=0∧t.ra=u.p.ra∧t.mo=u.p.mo∧a≤t.tm∧zk (fun m:Mt=>decide (m.ad=t.ad)) u.ms 0=k:=by
   rw [hok]
   refine ⟨fun ⟨q1,q2,q3,q4,q5⟩=>⟨q1,q2,q3,?_,q5⟩,fun ⟨q1,q2,q3,q4,q5⟩=>⟨q1,q2,q3,fun z h0 hz=>by rw [ha z h0 hz];exact q4,q5⟩⟩
   rcases Nat.eq_zero_or_pos k with h0|h0
   ·have:=hbe q1
    have:=ha0 h0
    omega
   ·obtain ⟨z,hz⟩:∃z,u.ms[k-1]?=some z:=⟨_,List.getElem?_eq_getElem (by omega)⟩
    have:=q4 z h0 hz
    have:=ha z h0 hz
    omega
  clear hbe hok
  generalize B.uS t.ra t.mo t.hs t.tm=be at *
  generalize zk (fun m:Mt=>decide (m.ad=t.ad)) u.ms 0=fi at *
  repeat' first|refine auS ?_|(first|(with_reducible refine z6 hb ?_)|(with_reducible refine z6 hm ?_))|refine auD ?_|(refine auW ?_ ?_<;>intro h<;>try exact auH)|(simp only [Int.toNat_natCast,ex])
  all_goals try exact auP
  rotate_right
  ·have hmt:=hok2.2 (by simp only [hsL] at *;omega)
   refine zn ⟨(k+1,t.tm,g2+2),⟨hlt,fB ht hg hmt,Wa ht hmt,fun q=>(Nat.succ_ne_zero k q).elim,fun z _ hz=>by have hz:u.ms[k+1-1]?=some z:=hz;rw [Nat.add_sub_cancel,ht] at hz;exact congrArg Mt.tm (Option.some.inj hz).symm⟩,Nat.sub_lt_sub_left hlt (Nat.lt_succ_self k),?_⟩
   refine zo ?_ ?_ (Nat.le_refl _)
   all_goals first|refine auE ?_|exact zK
   all_goals repeat' first|exact trivial|exact rfl|apply And.intro
   exact yd ((IntWalk.i64_in _ (by omega)).trans (by omega))
  all_goals
   have hbad:tV u.p.ra u.p.mo (u.ms.take k) t=false:=by
    cases hq:tV u.p.ra u.p.mo (u.ms.take k) t with
    |false=>rfl
    |true=>exfalso;have:=hok2.1 hq;simp only [hsL] at *;omega
   rw [cr (.inr (ae ht hg hbad))]
  all_goals refine auV ?_
  all_goals try exact zc
  all_goals try simp only [hsM] at *
 ·obtain rfl:k=u.ms.length:=by omega
  rw [List.drop_length] at hg
  rw [VP hfi hg]
  repeat' first|refine auS ?_|fail|refine auD ?_|(refine auW ?_ ?_<;>intro h<;>try exact auH)|fail
  all_goals try exact auP
  all_goals refine auV ?_
  all_goals try exact zc
  all_goals try simp only [hsM] at *
set_option maxHeartbeats 4000000 in
theorem bd (u:Hs) (hw:u.wf) (h0:0≤tN u.ms):zi Tryz.prog 41 [dH u] (.v (.int .i64 (qu u))):=by
 have l1:=hw.ms.1
 have l2:=hw.tr.1
 have l3:=hw.n.mm.1
 unfold maxLen at l1 l2 l3
 unfold qu
 have w1:∀n:Nat,0<n→n≤9223372036854775807→IntKind.i64.wrap ((n:Int)-1)=((n-1:Nat):Int):=fun n h1 h2=>(IntWalk.i64_in _ (by omega)).trans (by omega)
 obtain ⟨a,ha,ha0⟩:∃t:Mt,(0<u.ms.length→yo (u.ms.map Mt.enc) (u.ms.length-1)=t.enc∧tN u.ms=t.tm)∧(u.ms.length=0→tN u.ms=0):=by
  cases hq:u.ms[u.ms.length-1]? with
  |some t=>exact ⟨t,fun _=>⟨jU hq,by unfold tN;rw [hq]⟩,fun q=>by rw [List.length_eq_zero_iff.1 q];rfl⟩
  |none=>exact ⟨⟨0,0,0,0,0⟩,fun q=>absurd (List.getElem?_eq_none_iff.1 hq) (by omega),fun _=>by unfold tN;rw [hq]⟩
 obtain ⟨b,hb,hb0⟩:∃t:T.Tk,(0<u.tr.length→yo (u.tr.map T.Tk.enc) (u.tr.length-1)=t.enc∧T.wS u.tr=t.x)∧(u.tr.length=0→T.wS u.tr=0):=by
  cases hq:u.tr[u.tr.length-1]? with
  |some t=>exact ⟨t,fun q=>⟨T.uL hq,T.vQ _ _ _ hq (by omega)⟩,fun q=>by rw [List.length_eq_zero_iff.1 q];rfl⟩
  |none=>exact ⟨⟨0,0,0,0,0,0,0⟩,fun q=>absurd (List.getElem?_eq_none_iff.1 hq) (by omega),fun q=>by rw [List.length_eq_zero_iff.1 q];rfl⟩
 obtain ⟨c,hc,hc0⟩:∃t:A.Mp,(0<u.n.ms.length→yo (u.n.ms.map A.Mp.enc) (u.n.ms.length-1)=t.enc∧A.x7 u.n.ms=t.tm)∧(u.n.ms.length=0→A.x7 u.n.ms=0):=by
  cases hq:u.n.ms[u.n.ms.length-1]? with
  |some t=>exact ⟨t,fun _=>⟨A.vj hq,by unfold A.x7;rw [hq]⟩,fun q=>by rw [List.length_eq_zero_iff.1 q];rfl⟩
  |none=>exact ⟨⟨0,0,0,0,0⟩,fun q=>absurd (List.getElem?_eq_none_iff.1 hq) (by omega),fun _=>by unfold A.x7;rw [hq]⟩
 generalize tN u.ms=la at *
 generalize T.wS u.tr=lb at *
 generalize A.x7 u.n.ms=lc at *
 have e1:(0<u.ms.length∧IntKind.i64.wrap ((u.ms.length:Int)-1)=((u.ms.length-1:Nat):Int)∧yo (u.ms.map Mt.enc) (u.ms.length-1)=a.enc)∨u.ms.length=0∧True∧True:=by
  rcases Nat.eq_zero_or_pos u.ms.length with q|q
  ·exact .inr ⟨q,trivial,trivial⟩
  ·exact .inl ⟨q,w1 _ q (by omega),(ha q).1⟩
 have e2:(0<u.tr.length∧IntKind.i64.wrap ((u.tr.length:Int)-1)=((u.tr.length-1:Nat):Int)∧yo (u.tr.map T.Tk.enc) (u.tr.length-1)=b.enc)∨u.tr.length=0∧True∧True:=by
  rcases Nat.eq_zero_or_pos u.tr.length with q|q
  ·exact .inr ⟨q,trivial,trivial⟩
  ·exact .inl ⟨q,w1 _ q (by omega),(hb q).1⟩
 have e3:(0<u.n.ms.length∧IntKind.i64.wrap ((u.n.ms.length:Int)-1)=((u.n.ms.length-1:Nat):Int)∧yo (u.n.ms.map A.Mp.enc) (u.n.ms.length-1)=c.enc)∨u.n.ms.length=0∧True∧True:=by
  rcases Nat.eq_zero_or_pos u.n.ms.length with q|q
  ·exact .inr ⟨q,trivial,trivial⟩
  ·exact .inl ⟨q,w1 _ q (by omega),(hc q).1⟩
 clear w1
 rcases e1 with ⟨q1,x1,y1⟩|⟨q1,x1,y1⟩<;>rcases e2 with ⟨q2,x2,y2⟩|⟨q2,x2,y2⟩<;>rcases e3 with ⟨q3,x3,y3⟩|⟨q3,x3,y3⟩
 all_goals
  refine z7 {} 0 Tryz.func41 fun Γ hW=>auC ?_
  repeat' first|refine auS ?_|fail|refine auD ?_|(refine auW ?_ ?_<;>intro h<;>try exact auH)|(simp only [List.length_map,Int.toNat_natCast,x1,x2,x3,y1,y2,y3])
  all_goals try exact auP
  all_goals try (exfalso;simp only [List.length_map,hsL] at *;omega)
  all_goals refine auV ?_
  all_goals try exact zc
  all_goals try simp only [hsM] at *
  refine yd ?_
  omega
end Go.Proofs.YtaiileiodjicpaaGreatDoor
