import Derived.Test.YtmibknbmhcnemaaGreatDoorTw20
set_option linter.unusedVariables false
set_option linter.unusedSimpArgs false
namespace Go.Proofs.YtmibknbmhcnemaaGreatDoor
attribute [local irreducible] zu Go
set_option maxRecDepth 100000
def oh (a b c d:Int):Int:=if a≠0 then a else if b≠0 then b else if c≠0 then c else d
theorem XI {a b c d:Int} (h:¬a=0):oh a b c d=a:=by unfold oh;rw [if_pos h]
theorem XH {a b c d:Int} (h1:a=0) (h:¬b=0):oh a b c d=b:=by unfold oh;rw [if_neg (not_not_intro h1),if_pos h]
theorem XS {a b c d:Int} (h1:a=0) (h2:b=0) (h:¬c=0):oh a b c d=c:=by unfold oh;rw [if_neg (not_not_intro h1),if_neg (not_not_intro h2),if_pos h]
theorem XJ {a b c d:Int} (h1:a=0) (h2:b=0) (h3:c=0):oh a b c d=d:=by unfold oh;rw [if_neg (not_not_intro h1),if_neg (not_not_intro h2),if_neg (not_not_intro h3)]
def mtE (h:Hs):Int:=if nR h&&yc (tj h.p.ra h.p.mo) [] h.ms then 0 else 4
theorem fC (h:Hs):lp h=oh (R.plE h.p) (T.yd h.tr) (eP h.n) (mtE h):=rfl
def iv3:Nat→Int
 |0=>0
 |1=>1
 |2=>2
 |_=>3
theorem Xv:iv3 0=0:=rfl
theorem Xg:iv3 1=1:=rfl
theorem Xl:iv3 2=2:=rfl
theorem Xt:iv3 3=3:=rfl
theorem nv (i:Nat) (h:i<3):IntKind.i64.wrap (iv3 i+1)=iv3 (i+1):=by
 have:i=0∨i=1∨i=2:=by omega
 rcases this with rfl|rfl|rfl<;>decide
theorem gA {h:Hs} (hb:nR h=false∨yc (tj h.p.ra h.p.mo) [] h.ms=false):mtE h=4:=by
 unfold mtE
 rcases hb with hb|hb<;>rw [hb]
 ·rfl
 ·rw [Bool.and_false];rfl
theorem YF {h:Hs} (hb:nR h=true) (hg:yc (tj h.p.ra h.p.mo) [] h.ms=true):mtE h=0:=by
 unfold mtE
 rw [hb,hg]
 rfl
set_option maxHeartbeats 4000000 in
theorem kD (u:Hs) (hw:u.wf):zc Tryz.prog 16 [dH u] (.v (.int .i64 (lp u))):=by
 rw [fC]
 have hc1:=R.s6 u.p false hw.p hw.rs.1
 have hc2:=T.ya u.tr
 have hc3:zc Tryz.prog 42 [.agg u.n.enc] (.v (.int .i64 (eP u.n))):=A.xe u.n.l u.n.b1 u.n.t1 u.n.b2 u.n.t2 u.n.ms hw.n.mm.1 hw.n.t1 hw.n.t2
 have hl:=hw.ms.1
 have hme:=fun ad=>th u ad hl
 unfold maxLen at hl
 generalize R.plE u.p=e1 at *
 generalize T.yd u.tr=e2 at *
 generalize eP u.n=e3 at *
 refine z3 {} 0 Tryz.func16 fun Γ hW=>auC ?_
 repeat' first|refine auS ?_|(first|(with_reducible refine z0 hc1 ?_)|(with_reducible refine z0 hc2 ?_)|(with_reducible refine z0 hc3 ?_))|refine auD ?_|(refine auW ?_ ?_<;>intro h<;>try exact auH)|fail
 refine zx (α:=Nat×Nat) (fun x=>[(⟨.d0,.d2,.d5⟩,.v (.int .i64 (iv3 x.1)))]) (fun _=>[]) (fun x=>x.2) (fun x=>3-x.1) (fun x=>x.1≤3∧(1≤x.1→e1=0)∧(2≤x.1→e2=0)∧(3≤x.1→e3=0)) (0,Γ.g0+1) ⟨Nat.zero_le _,by omega⟩ ?_ ?_
 ·skip
  refine zp ?_ ?_ (Nat.le_refl _)
  all_goals first|refine auE ?_|exact zJ
  all_goals repeat' first|exact trivial|exact rfl|apply And.intro
 rintro ⟨i,gn⟩ ⟨hi,p1,p2,p3⟩
 dsimp only at hi p1 p2 p3 ⊢
 refine auL ?_
 have hcs:i=0∨i=1∨i=2∨i=3:=by omega
 rcases hcs with rfl|rfl|rfl|rfl
 all_goals simp only [Xv,Xg,Xl,Xt]
 ·skip
  repeat' first|refine auS ?_|(first|(with_reducible refine z0 hc1 ?_)|(with_reducible refine z0 hc2 ?_)|(with_reducible refine z0 hc3 ?_))|refine auD ?_|(refine auW ?_ ?_<;>intro h<;>try exact auH)|fail
  all_goals try exact auP
  all_goals try (exfalso;omega)
  ·skip
   all_goals refine auV ?_
   all_goals try exact z9
   all_goals try simp only [hsM] at *
   exact zL (XI (by omega)).symm
  ·refine zo ⟨(1,gn),⟨by dsimp only;decide,by dsimp only;(simp only [hsL,reduceCtorEq] at *<;>omega)⟩,by dsimp only;decide,?_⟩
   refine zp ?_ ?_ (Nat.le_refl _)
   all_goals first|refine auE ?_|exact zJ
   all_goals repeat' first|exact trivial|exact rfl|apply And.intro
   all_goals exact zL (nv _ (by decide))
 ·skip
  repeat' first|refine auS ?_|(first|(with_reducible refine z0 hc1 ?_)|(with_reducible refine z0 hc2 ?_)|(with_reducible refine z0 hc3 ?_))|refine auD ?_|(refine auW ?_ ?_<;>intro h<;>try exact auH)|fail
  all_goals try exact auP
  all_goals try (exfalso;omega)
  ·skip
   all_goals refine auV ?_
   all_goals try exact z9
   all_goals try simp only [hsM] at *
   exact zL (XH (p1 (by omega)) (by omega)).symm
  ·refine zo ⟨(2,gn),⟨by dsimp only;decide,by dsimp only;(simp only [hsL,reduceCtorEq] at *<;>omega)⟩,by dsimp only;decide,?_⟩
   refine zp ?_ ?_ (Nat.le_refl _)
   all_goals first|refine auE ?_|exact zJ
   all_goals repeat' first|exact trivial|exact rfl|apply And.intro
   all_goals exact zL (nv _ (by decide))
 ·skip
  repeat' first|refine auS ?_|(first|(with_reducible refine z0 hc1 ?_)|(with_reducible refine z0 hc2 ?_)|(with_reducible refine z0 hc3 ?_))|refine auD ?_|(refine auW ?_ ?_<;>intro h<;>try exact auH)|fail
  all_goals try exact auP
  all_goals try (exfalso;omega)
  ·skip
   all_goals refine auV ?_
   all_goals try exact z9
   all_goals try simp only [hsM] at *
   exact zL (XS (p1 (by omega)) (p2 (by omega)) (by omega)).symm
  ·refine zo ⟨(3,gn),⟨by dsimp only;decide,by dsimp only;(simp only [hsL,reduceCtorEq] at *<;>omega)⟩,by dsimp only;decide,?_⟩
   refine zp ?_ ?_ (Nat.le_refl _)
   all_goals first|refine auE ?_|exact zJ
   all_goals repeat' first|exact trivial|exact rfl|apply And.intro
   all_goals exact zL (nv _ (by decide))
 rw [XJ (p1 (by omega)) (p2 (by omega)) (p3 (by omega))]
 clear hc1 hc2 hc3 p1 p2 p3
 have hfit:nR u=true↔u.ms.length≤64∧u.n.l=u.p.lf∧u.n.b1=u.p.lt∧u.n.b2=u.p.st:=by unfold nR;simp only [Bool.and_eq_true,decide_eq_true_eq]
 by_cases hf:u.ms.length≤64∧u.n.l=u.p.lf∧u.n.b1=u.p.lt∧u.n.b2=u.p.st
 rotate_left
 ·rw [gA (.inl (by cases hq:nR u with|false=>rfl|true=>exact absurd (hfit.1 hq) hf))]
  repeat' first|refine auS ?_|fail|refine auD ?_|(refine auW ?_ ?_<;>intro h<;>try exact auH)|fail
  all_goals try exact auP
  all_goals first
   |(exfalso;simp only [hsL,List.length_map] at *;exact hf ⟨by omega,by assumption,by assumption,by assumption⟩)
   |skip
  all_goals refine auV ?_
  all_goals try exact z9
  all_goals try simp only [hsM] at *
 have hfi:=hfit.2 hf
 clear hfit
 obtain ⟨f1,f2,f3,f4⟩:=hf
 repeat' first|refine auS ?_|fail|refine auD ?_|(refine auW ?_ ?_<;>intro h<;>try exact auH)|(simp only [f2,f3,f4])
 all_goals try exact auP
 all_goals try (exfalso;simp only [hsL] at *;omega)
 refine zx (α:=Nat×Int×Nat) (fun x=>[(⟨.d0,.d7,.d6⟩,.v (.int .i64 (x.1:Nat))),(⟨.d0,.d0,.d7⟩,.v (.int .i64 x.2.1))]) (fun _=>[(3,none),(4,none)]) (fun x=>x.2.2) (fun x=>u.ms.length-x.1) (fun x=>x.1≤u.ms.length∧yc (tj u.p.ra u.p.mo) [] u.ms=yc (tj u.p.ra u.p.mo) (u.ms.take x.1) (u.ms.drop x.1)∧(∀y∈u.ms.take x.1,∀z,u.ms[x.1-1]?=some z→y.tm≤z.tm)∧(x.1=0→x.2.1=0)∧∀z,0<x.1→u.ms[x.1-1]?=some z→z.tm=x.2.1) (0,0,gn+2) ⟨Nat.zero_le _,rfl,fun y hy=>by simp at hy,fun _=>rfl,fun z h0=>absurd h0 (Nat.lt_irrefl 0)⟩ ?_ ?_
 ·skip
  refine zp ?_ ?_ (Nat.le_refl _)
  all_goals first|refine auE ?_|exact zJ
  all_goals repeat' first|exact trivial|exact rfl|apply And.intro
 rintro ⟨k,a,g2⟩ ⟨hk,hg,hs,ha0,ha⟩
 dsimp only at hk hg hs ha0 ha ⊢
 refine auL ?_
 by_cases hlt:k<u.ms.length
 ·obtain ⟨t,ht⟩:∃t,u.ms[k]?=some t:=⟨_,List.getElem?_eq_getElem hlt⟩
  have ex:=lI ht
  have hok:=cn (ra:=u.p.ra) (mo:=u.p.mo) ht hs
  have hb:=B.wg t.ra t.mo t.hs t.tm
  have hm:=hme t.ad
  have hbe:B.uv t.ra t.mo t.hs t.tm=0→_:=fun q=>B.sx q
  have hok2:tj u.p.ra u.p.mo (u.ms.take k) t=true↔B.uv t.ra t.mo t.hs t.tm=0∧t.ra=u.p.ra∧t.mo=u.p.mo∧a≤t.tm∧ze (fun m:Mt=>decide (m.ad=t.ad)) u.ms 0=k:=by
   rw [hok]
   refine ⟨fun ⟨q1,q2,q3,q4,q5⟩=>⟨q1,q2,q3,?_,q5⟩,fun ⟨q1,q2,q3,q4,q5⟩=>⟨q1,q2,q3,fun z h0 hz=>by rw [ha z h0 hz];exact q4,q5⟩⟩
   rcases Nat.eq_zero_or_pos k with h0|h0
   ·have:=hbe q1
    have:=ha0 h0
    omega
   ·obtain ⟨z,hz⟩:∃z,u.ms[k-1]?=some z:=⟨_,List.getElem?_eq_getElem (by omega)⟩
    have:=q4 z h0 hz
    have:=ha z h0 hz
    omega
  clear hbe hok
  generalize B.uv t.ra t.mo t.hs t.tm=be at *
  generalize ze (fun m:Mt=>decide (m.ad=t.ad)) u.ms 0=fi at *
  repeat' first|refine auS ?_|(first|(with_reducible refine z0 hb ?_)|(with_reducible refine z0 hm ?_))|refine auD ?_|(refine auW ?_ ?_<;>intro h<;>try exact auH)|(simp only [Int.toNat_natCast,ex])
  all_goals try exact auP
  rotate_right
  ·have hmt:=hok2.2 (by simp only [hsL] at *;omega)
   refine zo ⟨(k+1,t.tm,g2+2),⟨hlt,oB ht hg hmt,Y_ ht hmt,fun q=>(Nat.succ_ne_zero k q).elim,fun z _ hz=>by have hz:u.ms[k+1-1]?=some z:=hz;rw [Nat.add_sub_cancel,ht] at hz;exact congrArg Mt.tm (Option.some.inj hz).symm⟩,Nat.sub_lt_sub_left hlt (Nat.lt_succ_self k),?_⟩
   refine zp ?_ ?_ (Nat.le_refl _)
   all_goals first|refine auE ?_|exact zJ
   all_goals repeat' first|exact trivial|exact rfl|apply And.intro
   exact zL ((IntWalk.i64_in _ (by omega)).trans (by omega))
  all_goals
   have hbad:tj u.p.ra u.p.mo (u.ms.take k) t=false:=by
    cases hq:tj u.p.ra u.p.mo (u.ms.take k) t with
    |false=>rfl
    |true=>exfalso;have:=hok2.1 hq;simp only [hsL] at *;omega
   rw [gA (.inr (mC ht hg hbad))]
  all_goals refine auV ?_
  all_goals try exact z9
  all_goals try simp only [hsM] at *
 ·obtain rfl:k=u.ms.length:=by omega
  rw [List.drop_length] at hg
  rw [YF hfi hg]
  repeat' first|refine auS ?_|fail|refine auD ?_|(refine auW ?_ ?_<;>intro h<;>try exact auH)|fail
  all_goals try exact auP
  all_goals refine auV ?_
  all_goals try exact z9
  all_goals try simp only [hsM] at *
set_option maxHeartbeats 4000000 in
theorem sD (u:Hs) (hw:u.wf) (h0:0≤ux u.ms):zc Tryz.prog 32 [dH u] (.v (.int .i64 (rS u))):=by
 have l1:=hw.ms.1
 have l2:=hw.tr.1
 have l3:=hw.n.mm.1
 unfold maxLen at l1 l2 l3
 unfold rS
 have w1:∀n:Nat,0<n→n≤9223372036854775807→IntKind.i64.wrap ((n:Int)-1)=((n-1:Nat):Int):=fun n h1 h2=>(IntWalk.i64_in _ (by omega)).trans (by omega)
 obtain ⟨a,ha,ha0⟩:∃t:Mt,(0<u.ms.length→yh (u.ms.map Mt.enc) (u.ms.length-1)=t.enc∧ux u.ms=t.tm)∧(u.ms.length=0→ux u.ms=0):=by
  cases hq:u.ms[u.ms.length-1]? with
  |some t=>exact ⟨t,fun _=>⟨lI hq,by unfold ux;rw [hq]⟩,fun q=>by rw [List.length_eq_zero_iff.1 q];rfl⟩
  |none=>exact ⟨⟨0,0,0,0,0⟩,fun q=>absurd (List.getElem?_eq_none_iff.1 hq) (by omega),fun _=>by unfold ux;rw [hq]⟩
 obtain ⟨b,hb,hb0⟩:∃t:T.Tk,(0<u.tr.length→yh (u.tr.map T.Tk.enc) (u.tr.length-1)=t.enc∧T.wC u.tr=t.x)∧(u.tr.length=0→T.wC u.tr=0):=by
  cases hq:u.tr[u.tr.length-1]? with
  |some t=>exact ⟨t,fun q=>⟨T.ui hq,T.vz _ _ _ hq (by omega)⟩,fun q=>by rw [List.length_eq_zero_iff.1 q];rfl⟩
  |none=>exact ⟨⟨0,0,0,0,0,0,0⟩,fun q=>absurd (List.getElem?_eq_none_iff.1 hq) (by omega),fun q=>by rw [List.length_eq_zero_iff.1 q];rfl⟩
 obtain ⟨c,hc,hc0⟩:∃t:A.Mp,(0<u.n.ms.length→yh (u.n.ms.map A.Mp.enc) (u.n.ms.length-1)=t.enc∧A.zN u.n.ms=t.tm)∧(u.n.ms.length=0→A.zN u.n.ms=0):=by
  cases hq:u.n.ms[u.n.ms.length-1]? with
  |some t=>exact ⟨t,fun _=>⟨A.wY hq,by unfold A.zN;rw [hq]⟩,fun q=>by rw [List.length_eq_zero_iff.1 q];rfl⟩
  |none=>exact ⟨⟨0,0,0,0,0⟩,fun q=>absurd (List.getElem?_eq_none_iff.1 hq) (by omega),fun _=>by unfold A.zN;rw [hq]⟩
 generalize ux u.ms=la at *
 generalize T.wC u.tr=lb at *
 generalize A.zN u.n.ms=lc at *
 have e1:(0<u.ms.length∧IntKind.i64.wrap ((u.ms.length:Int)-1)=((u.ms.length-1:Nat):Int)∧yh (u.ms.map Mt.enc) (u.ms.length-1)=a.enc)∨u.ms.length=0∧True∧True:=by
  rcases Nat.eq_zero_or_pos u.ms.length with q|q
  ·exact .inr ⟨q,trivial,trivial⟩
  ·exact .inl ⟨q,w1 _ q (by omega),(ha q).1⟩
 have e2:(0<u.tr.length∧IntKind.i64.wrap ((u.tr.length:Int)-1)=((u.tr.length-1:Nat):Int)∧yh (u.tr.map T.Tk.enc) (u.tr.length-1)=b.enc)∨u.tr.length=0∧True∧True:=by
  rcases Nat.eq_zero_or_pos u.tr.length with q|q
  ·exact .inr ⟨q,trivial,trivial⟩
  ·exact .inl ⟨q,w1 _ q (by omega),(hb q).1⟩
 have e3:(0<u.n.ms.length∧IntKind.i64.wrap ((u.n.ms.length:Int)-1)=((u.n.ms.length-1:Nat):Int)∧yh (u.n.ms.map A.Mp.enc) (u.n.ms.length-1)=c.enc)∨u.n.ms.length=0∧True∧True:=by
  rcases Nat.eq_zero_or_pos u.n.ms.length with q|q
  ·exact .inr ⟨q,trivial,trivial⟩
  ·exact .inl ⟨q,w1 _ q (by omega),(hc q).1⟩
 clear w1
 rcases e1 with ⟨q1,x1,y1⟩|⟨q1,x1,y1⟩<;>rcases e2 with ⟨q2,x2,y2⟩|⟨q2,x2,y2⟩<;>rcases e3 with ⟨q3,x3,y3⟩|⟨q3,x3,y3⟩
 all_goals
  refine z3 {} 0 Tryz.func32 fun Γ hW=>auC ?_
  repeat' first|refine auS ?_|fail|refine auD ?_|(refine auW ?_ ?_<;>intro h<;>try exact auH)|(simp only [List.length_map,Int.toNat_natCast,x1,x2,x3,y1,y2,y3])
  all_goals try exact auP
  all_goals try (exfalso;simp only [List.length_map,hsL] at *;omega)
  all_goals refine auV ?_
  all_goals try exact z9
  all_goals try simp only [hsM] at *
  refine zL ?_
  omega
end Go.Proofs.YtmibknbmhcnemaaGreatDoor
