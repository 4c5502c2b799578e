import Derived.Test.YtmibknbmhcnemaaGreatDoorHb16
import Derived.Test.YtmibknbmhcnemaaGreatDoorHb28
set_option linter.unusedVariables false
set_option linter.unusedSimpArgs false
namespace Go.Proofs.YtmibknbmhcnemaaGreatDoor
section
variable {P:Program} {F:List XOp→St→List Rec→Prop} {r:List XOp} {st:St} {dst:Option Sl} {tr:List Rec}
theorem yB {f:FuncId} {ds:List DV} {c:Nat} {D:Nat→DV} {H0:HL} {H1:Nat→HL} (ks ns kn:List Nat) (hkn:ks++ns=kn) (hns:kn.Nodup) (hl:(H1 st.gen).length=kn.length) (hk:x_ st.H ks=H0) (h1:ua P f ds H0 c (fun n d H=>d=D n∧H=H1 n)) (h2:F r ⟨uD st.tm dst (D st.gen),xN st.H (vF kn (H1 st.gen)),st.gen+c⟩ (⟨kn,kn⟩::tr)):zF P F r st dst tr (.call f ds):=by
 subst hk hkn
 exact .inr (.inr ⟨ks,ns,ds,c,D,H1,fun _ _ _ h=>h,hns,hl,h1,h2⟩)
theorem zA {f:FuncId} {ds:List DV} {D:DV} {H0 H1:HL} (ks:List Nat) (hns:ks.Nodup) (hl:H1.length=ks.length) (hk:x_ st.H ks=H0) (h1:zR P f ds H0 (fun d H=>d=D∧H=H1)) (h2:F r ⟨uD st.tm dst D,xN st.H (vF ks H1),st.gen⟩ (⟨ks,ks⟩::tr)):zF P F r st dst tr (.call f ds):=by
 subst hk
 exact .inl ⟨ks,ds,D,H1,fun _ _ _ h=>h,hns,hl,h1,h2⟩
end
theorem zX (f:FuncId) {P:Program} {F:List XOp→St→List Rec→Prop} {r:List XOp} {st:St} {dst:Option Sl} {tr:List Rec} {ds:List DV} (h:zF P F r st dst tr (.call f ds)):zF P F r st dst tr (.call f ds):=h
theorem Us {Γ:Gm} {P:Program} {N:Nat} {R:St→Prop} {x:XC} {k:List KI} {st:St} (h:Go Γ P N R x k st):Go Γ P N R x k st:=h
end Go.Proofs.YtmibknbmhcnemaaGreatDoor
namespace Go.Proofs.YtmibknbmhcnemaaGreatDoor
attribute [local irreducible] zF Go
set_option maxRecDepth 100000
theorem g9 (m:Mt) (ad:Int):zd Tryz.prog 76 [.agg m.enc,.rptr [.v (.int .u32 ad)]] (.v (.bool (decide (m.ad=ad)))):=by
 refine z4 {} 0 Tryz.func76 fun Γ hW=>auC ?_
 repeat' first|refine auS ?_|fail|refine auD ?_|(refine auW ?_ ?_<;>intro h<;>try exact auH)|fail
 all_goals try exact auP
 all_goals refine auV ?_
 all_goals try exact z8
 all_goals try simp only [hsM] at *
set_option maxHeartbeats 1000000 in
theorem kg {g:FuncId} {caps:List DV} (p:Mt→Bool) (l:List Mt) (c:Bool) (hl:l.length≤maxLen) (hg:∀t∈l,zd Tryz.prog g (.agg (Mt.enc t)::caps) (.v (.bool (p t)))):zd Tryz.prog 75 [.snap 5 (l.map Mt.enc) c,.fn (.func g) [] caps] (.v (.int .i64 (zl p l 0))):=by
 unfold maxLen at hl
 refine z4 {} 0 Tryz.func75 fun Γ hW=>auC ?_
 repeat' first|refine auS ?_|fail|refine auD ?_|(refine auW ?_ ?_<;>intro h<;>try exact auH)|fail
 refine ze (α:=Nat) (fun k=>[(⟨.d0,.d1,.d0⟩,.v (.int .i64 (k:Nat)))]) (fun _=>[]) (fun _=>Γ.g0) (fun k=>l.length-k) (fun k=>k≤l.length∧zl p l 0=zl p (l.drop k) k) 0 ⟨Nat.zero_le _,rfl⟩ ?_ ?_
 ·skip
  refine zb ?_ ?_ (Nat.le_refl _)
  all_goals first|refine auE ?_|exact zi
  all_goals repeat' first|exact trivial|exact rfl|apply And.intro
 ·rintro k ⟨hk,hp⟩
  refine auL ?_
  by_cases hlt:k<l.length
  ·obtain ⟨t,ht⟩:∃t,l[k]?=some t:=⟨_,List.getElem?_eq_getElem hlt⟩
   have ex:=zT Mt.enc l k t ht
   have hgt:=hg t (List.mem_of_getElem? ht)
   rw [List.drop_eq_getElem_cons hlt,show l[k]=t from Option.some.inj ((List.getElem?_eq_getElem hlt).symm.trans ht)] at hp
   repeat' first|refine auS ?_|(with_reducible refine z0 hgt ?_)|refine auD ?_|(refine auW ?_ ?_<;>intro h<;>try exact auH)|(simp only [Int.toNat_natCast,ex])
   all_goals try exact auP
   ·skip
    all_goals refine auV ?_
    all_goals try exact z8
    all_goals try simp only [hsM] at *
    rw [hp]
    simp [zl, *]
   ·refine za ?_
    refine ⟨k+1,⟨Nat.succ_le_of_lt hlt,by rw [hp];simp [zl, *]⟩,Nat.sub_lt_sub_left hlt (Nat.lt_succ_self k),?_⟩
    refine zb ?_ ?_ (Nat.le_refl _)
    all_goals first|refine auE ?_|exact zi
    all_goals repeat' first|exact trivial|exact rfl|apply And.intro
    exact zB ((IntWalk.i64_in _ (by omega)).trans (by omega))
  ·skip
   repeat' first|refine auS ?_|fail|refine auD ?_|(refine auW ?_ ?_<;>intro h<;>try exact auH)|fail
   all_goals try exact auP
   all_goals refine auV ?_
   all_goals try exact z8
   all_goals try simp only [hsM] at *
   obtain rfl:k=l.length:=by omega
   rw [hp,List.drop_length]
   rfl
theorem sV (h:Hs) (ad:Int) (hl:h.ms.length≤maxLen):zd Tryz.prog 44 [dH h,.v (.int .u32 ad)] (.v (.int .i64 (zl (fun m:Mt=>decide (m.ad=ad)) h.ms 0))):=by
 have hi:=kg (g:=76) (caps:=[.rptr [.v (.int .u32 ad)]]) (fun m:Mt=>decide (m.ad=ad)) h.ms false hl (fun m _=>g9 m ad)
 refine z4 {} 0 Tryz.func44 fun Γ hW=>auC ?_
 repeat' first|((with_reducible refine Us ?_);(refine zN (zw hW ⟨.d0,.d0,.d3⟩ rfl rfl ⟨rfl,rfl,Nat.succ_pos _⟩) ?_))|refine auS ?_|(with_reducible refine z0 hi ?_)|refine auD ?_|(refine auW ?_ ?_<;>intro h<;>try exact auH)|fail
 all_goals refine auV ?_
 all_goals try exact z8
 all_goals try simp only [hsM] at *
end Go.Proofs.YtmibknbmhcnemaaGreatDoor
namespace Go.Proofs.YtmibknbmhcnemaaGreatDoor
attribute [local irreducible] zF Go
set_option maxRecDepth 100000
def lx (a b c d:Int):Int:=if a≠0 then a else if b≠0 then b else if c≠0 then c else d
theorem Ud {a b c d:Int} (h:¬a=0):lx a b c d=a:=by unfold lx;rw [if_pos h]
theorem Uc {a b c d:Int} (h1:a=0) (h:¬b=0):lx a b c d=b:=by unfold lx;rw [if_neg (not_not_intro h1),if_pos h]
theorem Uo {a b c d:Int} (h1:a=0) (h2:b=0) (h:¬c=0):lx a b c d=c:=by unfold lx;rw [if_neg (not_not_intro h1),if_neg (not_not_intro h2),if_pos h]
theorem Uj {a b c d:Int} (h1:a=0) (h2:b=0) (h3:c=0):lx a b c d=d:=by unfold lx;rw [if_neg (not_not_intro h1),if_neg (not_not_intro h2),if_neg (not_not_intro h3)]
def mtE (h:Hs):Int:=if pV h&&yb (u0 h.p.ra h.p.mo) [] h.ms then 0 else 4
theorem jx (h:Hs):rc h=lx (R.plE h.p) (T.y8 h.tr) (ki h.n) (mtE h):=rfl
def iv3:Nat→Int
 |0=>0
 |1=>1
 |2=>2
 |_=>3
theorem Un:iv3 0=0:=rfl
theorem Ua:iv3 1=1:=rfl
theorem U9:iv3 2=2:=rfl
theorem Up:iv3 3=3:=rfl
theorem lJ (i:Nat) (h:i<3):IntKind.i64.wrap (iv3 i+1)=iv3 (i+1):=by
 have:i=0∨i=1∨i=2:=by omega
 rcases this with rfl|rfl|rfl<;>decide
theorem cK {h:Hs} (hb:pV h=false∨yb (u0 h.p.ra h.p.mo) [] h.ms=false):mtE h=4:=by
 unfold mtE
 rcases hb with hb|hb<;>rw [hb]
 ·rfl
 ·rw [Bool.and_false];rfl
theorem VC {h:Hs} (hb:pV h=true) (hg:yb (u0 h.p.ra h.p.mo) [] h.ms=true):mtE h=0:=by
 unfold mtE
 rw [hb,hg]
 rfl
set_option maxHeartbeats 4000000 in
theorem gc (u:Hs) (hw:u.wf):zd Tryz.prog 16 [dH u] (.v (.int .i64 (rc u))):=by
 rw [jx]
 have hc1:=R.mw u.p false hw.p hw.rs.1
 have hc2:=T.yt u.tr
 have hc3:zd Tryz.prog 42 [.agg u.n.enc] (.v (.int .i64 (ki u.n))):=A.xK u.n.l u.n.b1 u.n.t1 u.n.b2 u.n.t2 u.n.ms hw.n.mm.1 hw.n.t1 hw.n.t2
 have hl:=hw.ms.1
 have hme:=fun ad=>sV u ad hl
 unfold maxLen at hl
 generalize R.plE u.p=e1 at *
 generalize T.y8 u.tr=e2 at *
 generalize ki u.n=e3 at *
 refine z4 {} 0 Tryz.func16 fun Γ hW=>auC ?_
 repeat' first|refine auS ?_|(first|(with_reducible refine z0 hc1 ?_)|(with_reducible refine z0 hc2 ?_)|(with_reducible refine z0 hc3 ?_))|refine auD ?_|(refine auW ?_ ?_<;>intro h<;>try exact auH)|fail
 refine ze (α:=Nat×Nat) (fun x=>[(⟨.d0,.d2,.d5⟩,.v (.int .i64 (iv3 x.1)))]) (fun _=>[]) (fun x=>x.2) (fun x=>3-x.1) (fun x=>x.1≤3∧(1≤x.1→e1=0)∧(2≤x.1→e2=0)∧(3≤x.1→e3=0)) (0,Γ.g0+1) ⟨Nat.zero_le _,by omega⟩ ?_ ?_
 ·skip
  refine zb ?_ ?_ (Nat.le_refl _)
  all_goals first|refine auE ?_|exact zi
  all_goals repeat' first|exact trivial|exact rfl|apply And.intro
 rintro ⟨i,gn⟩ ⟨hi,p1,p2,p3⟩
 dsimp only at hi p1 p2 p3 ⊢
 refine auL ?_
 have hcs:i=0∨i=1∨i=2∨i=3:=by omega
 rcases hcs with rfl|rfl|rfl|rfl
 all_goals simp only [Un,Ua,U9,Up]
 ·skip
  repeat' first|refine auS ?_|(first|(with_reducible refine z0 hc1 ?_)|(with_reducible refine z0 hc2 ?_)|(with_reducible refine z0 hc3 ?_))|refine auD ?_|(refine auW ?_ ?_<;>intro h<;>try exact auH)|fail
  all_goals try exact auP
  all_goals try (exfalso;omega)
  ·skip
   all_goals refine auV ?_
   all_goals try exact z8
   all_goals try simp only [hsM] at *
   exact zB (Ud (by omega)).symm
  ·refine za ⟨(1,gn),⟨by dsimp only;decide,by dsimp only;(simp only [hsL,reduceCtorEq] at *<;>omega)⟩,by dsimp only;decide,?_⟩
   refine zb ?_ ?_ (Nat.le_refl _)
   all_goals first|refine auE ?_|exact zi
   all_goals repeat' first|exact trivial|exact rfl|apply And.intro
   all_goals exact zB (lJ _ (by decide))
 ·skip
  repeat' first|refine auS ?_|(first|(with_reducible refine z0 hc1 ?_)|(with_reducible refine z0 hc2 ?_)|(with_reducible refine z0 hc3 ?_))|refine auD ?_|(refine auW ?_ ?_<;>intro h<;>try exact auH)|fail
  all_goals try exact auP
  all_goals try (exfalso;omega)
  ·skip
   all_goals refine auV ?_
   all_goals try exact z8
   all_goals try simp only [hsM] at *
   exact zB (Uc (p1 (by omega)) (by omega)).symm
  ·refine za ⟨(2,gn),⟨by dsimp only;decide,by dsimp only;(simp only [hsL,reduceCtorEq] at *<;>omega)⟩,by dsimp only;decide,?_⟩
   refine zb ?_ ?_ (Nat.le_refl _)
   all_goals first|refine auE ?_|exact zi
   all_goals repeat' first|exact trivial|exact rfl|apply And.intro
   all_goals exact zB (lJ _ (by decide))
 ·skip
  repeat' first|refine auS ?_|(first|(with_reducible refine z0 hc1 ?_)|(with_reducible refine z0 hc2 ?_)|(with_reducible refine z0 hc3 ?_))|refine auD ?_|(refine auW ?_ ?_<;>intro h<;>try exact auH)|fail
  all_goals try exact auP
  all_goals try (exfalso;omega)
  ·skip
   all_goals refine auV ?_
   all_goals try exact z8
   all_goals try simp only [hsM] at *
   exact zB (Uo (p1 (by omega)) (p2 (by omega)) (by omega)).symm
  ·refine za ⟨(3,gn),⟨by dsimp only;decide,by dsimp only;(simp only [hsL,reduceCtorEq] at *<;>omega)⟩,by dsimp only;decide,?_⟩
   refine zb ?_ ?_ (Nat.le_refl _)
   all_goals first|refine auE ?_|exact zi
   all_goals repeat' first|exact trivial|exact rfl|apply And.intro
   all_goals exact zB (lJ _ (by decide))
 rw [Uj (p1 (by omega)) (p2 (by omega)) (p3 (by omega))]
 clear hc1 hc2 hc3 p1 p2 p3
 have hfit:pV u=true↔u.ms.length≤64∧u.n.l=u.p.lf∧u.n.b1=u.p.lt∧u.n.b2=u.p.st:=by unfold pV;simp only [Bool.and_eq_true,decide_eq_true_eq]
 by_cases hf:u.ms.length≤64∧u.n.l=u.p.lf∧u.n.b1=u.p.lt∧u.n.b2=u.p.st
 rotate_left
 ·rw [cK (.inl (by cases hq:pV u with|false=>rfl|true=>exact absurd (hfit.1 hq) hf))]
  repeat' first|refine auS ?_|fail|refine auD ?_|(refine auW ?_ ?_<;>intro h<;>try exact auH)|fail
  all_goals try exact auP
  all_goals first
   |(exfalso;simp only [hsL,List.length_map] at *;exact hf ⟨by omega,by assumption,by assumption,by assumption⟩)
   |skip
  all_goals refine auV ?_
  all_goals try exact z8
  all_goals try simp only [hsM] at *
 have hfi:=hfit.2 hf
 clear hfit
 obtain ⟨f1,f2,f3,f4⟩:=hf
 repeat' first|refine auS ?_|fail|refine auD ?_|(refine auW ?_ ?_<;>intro h<;>try exact auH)|(simp only [f2,f3,f4])
 all_goals try exact auP
 all_goals try (exfalso;simp only [hsL] at *;omega)
 refine ze (α:=Nat×Int×Nat) (fun x=>[(⟨.d0,.d7,.d6⟩,.v (.int .i64 (x.1:Nat))),(⟨.d0,.d0,.d7⟩,.v (.int .i64 x.2.1))]) (fun _=>[(3,none),(4,none)]) (fun x=>x.2.2) (fun x=>u.ms.length-x.1) (fun x=>x.1≤u.ms.length∧yb (u0 u.p.ra u.p.mo) [] u.ms=yb (u0 u.p.ra u.p.mo) (u.ms.take x.1) (u.ms.drop x.1)∧(∀y∈u.ms.take x.1,∀z,u.ms[x.1-1]?=some z→y.tm≤z.tm)∧(x.1=0→x.2.1=0)∧∀z,0<x.1→u.ms[x.1-1]?=some z→z.tm=x.2.1) (0,0,gn+2) ⟨Nat.zero_le _,rfl,fun y hy=>by simp at hy,fun _=>rfl,fun z h0=>absurd h0 (Nat.lt_irrefl 0)⟩ ?_ ?_
 ·skip
  refine zb ?_ ?_ (Nat.le_refl _)
  all_goals first|refine auE ?_|exact zi
  all_goals repeat' first|exact trivial|exact rfl|apply And.intro
 rintro ⟨k,a,g2⟩ ⟨hk,hg,hs,ha0,ha⟩
 dsimp only at hk hg hs ha0 ha ⊢
 refine auL ?_
 by_cases hlt:k<u.ms.length
 ·obtain ⟨t,ht⟩:∃t,u.ms[k]?=some t:=⟨_,List.getElem?_eq_getElem hlt⟩
  have ex:=uw ht
  have hok:=ZS (ra:=u.p.ra) (mo:=u.p.mo) ht hs
  have hb:=B.nh t.ra t.mo t.hs t.tm
  have hm:=hme t.ad
  have hbe:B.wA t.ra t.mo t.hs t.tm=0→_:=fun q=>B.vg q
  have hok2:u0 u.p.ra u.p.mo (u.ms.take k) t=true↔B.wA t.ra t.mo t.hs t.tm=0∧t.ra=u.p.ra∧t.mo=u.p.mo∧a≤t.tm∧zl (fun m:Mt=>decide (m.ad=t.ad)) u.ms 0=k:=by
   rw [hok]
   refine ⟨fun ⟨q1,q2,q3,q4,q5⟩=>⟨q1,q2,q3,?_,q5⟩,fun ⟨q1,q2,q3,q4,q5⟩=>⟨q1,q2,q3,fun z h0 hz=>by rw [ha z h0 hz];exact q4,q5⟩⟩
   rcases Nat.eq_zero_or_pos k with h0|h0
   ·have:=hbe q1
    have:=ha0 h0
    omega
   ·obtain ⟨z,hz⟩:∃z,u.ms[k-1]?=some z:=⟨_,List.getElem?_eq_getElem (by omega)⟩
    have:=q4 z h0 hz
    have:=ha z h0 hz
    omega
  clear hbe hok
  generalize B.wA t.ra t.mo t.hs t.tm=be at *
  generalize zl (fun m:Mt=>decide (m.ad=t.ad)) u.ms 0=fi at *
  repeat' first|refine auS ?_|(first|(with_reducible refine z0 hb ?_)|(with_reducible refine z0 hm ?_))|refine auD ?_|(refine auW ?_ ?_<;>intro h<;>try exact auH)|(simp only [Int.toNat_natCast,ex])
  all_goals try exact auP
  rotate_right
  ·have hmt:=hok2.2 (by simp only [hsL] at *;omega)
   refine za ⟨(k+1,t.tm,g2+2),⟨hlt,qC ht hg hmt,Wf ht hmt,fun q=>(Nat.succ_ne_zero k q).elim,fun z _ hz=>by have hz:u.ms[k+1-1]?=some z:=hz;rw [Nat.add_sub_cancel,ht] at hz;exact congrArg Mt.tm (Option.some.inj hz).symm⟩,Nat.sub_lt_sub_left hlt (Nat.lt_succ_self k),?_⟩
   refine zb ?_ ?_ (Nat.le_refl _)
   all_goals first|refine auE ?_|exact zi
   all_goals repeat' first|exact trivial|exact rfl|apply And.intro
   exact zB ((IntWalk.i64_in _ (by omega)).trans (by omega))
  all_goals
   have hbad:u0 u.p.ra u.p.mo (u.ms.take k) t=false:=by
    cases hq:u0 u.p.ra u.p.mo (u.ms.take k) t with
    |false=>rfl
    |true=>exfalso;have:=hok2.1 hq;simp only [hsL] at *;omega
   rw [cK (.inr (qa ht hg hbad))]
  all_goals refine auV ?_
  all_goals try exact z8
  all_goals try simp only [hsM] at *
 ·obtain rfl:k=u.ms.length:=by omega
  rw [List.drop_length] at hg
  rw [VC hfi hg]
  repeat' first|refine auS ?_|fail|refine auD ?_|(refine auW ?_ ?_<;>intro h<;>try exact auH)|fail
  all_goals try exact auP
  all_goals refine auV ?_
  all_goals try exact z8
  all_goals try simp only [hsM] at *
set_option maxHeartbeats 4000000 in
theorem aK (u:Hs) (hw:u.wf) (h0:0≤wj u.ms):zd Tryz.prog 32 [dH u] (.v (.int .i64 (xW u))):=by
 have l1:=hw.ms.1
 have l2:=hw.tr.1
 have l3:=hw.n.mm.1
 unfold maxLen at l1 l2 l3
 unfold xW
 have w1:∀n:Nat,0<n→n≤9223372036854775807→IntKind.i64.wrap ((n:Int)-1)=((n-1:Nat):Int):=fun n h1 h2=>(IntWalk.i64_in _ (by omega)).trans (by omega)
 obtain ⟨a,ha,ha0⟩:∃t:Mt,(0<u.ms.length→ym (u.ms.map Mt.enc) (u.ms.length-1)=t.enc∧wj u.ms=t.tm)∧(u.ms.length=0→wj u.ms=0):=by
  cases hq:u.ms[u.ms.length-1]? with
  |some t=>exact ⟨t,fun _=>⟨uw hq,by unfold wj;rw [hq]⟩,fun q=>by rw [List.length_eq_zero_iff.1 q];rfl⟩
  |none=>exact ⟨⟨0,0,0,0,0⟩,fun q=>absurd (List.getElem?_eq_none_iff.1 hq) (by omega),fun _=>by unfold wj;rw [hq]⟩
 obtain ⟨b,hb,hb0⟩:∃t:T.Tk,(0<u.tr.length→ym (u.tr.map T.Tk.enc) (u.tr.length-1)=t.enc∧T.yE u.tr=t.x)∧(u.tr.length=0→T.yE u.tr=0):=by
  cases hq:u.tr[u.tr.length-1]? with
  |some t=>exact ⟨t,fun q=>⟨T.yP hq,T.xg _ _ _ hq (by omega)⟩,fun q=>by rw [List.length_eq_zero_iff.1 q];rfl⟩
  |none=>exact ⟨⟨0,0,0,0,0,0,0⟩,fun q=>absurd (List.getElem?_eq_none_iff.1 hq) (by omega),fun q=>by rw [List.length_eq_zero_iff.1 q];rfl⟩
 obtain ⟨c,hc,hc0⟩:∃t:A.Mp,(0<u.n.ms.length→ym (u.n.ms.map A.Mp.enc) (u.n.ms.length-1)=t.enc∧A.zJ u.n.ms=t.tm)∧(u.n.ms.length=0→A.zJ u.n.ms=0):=by
  cases hq:u.n.ms[u.n.ms.length-1]? with
  |some t=>exact ⟨t,fun _=>⟨A.y7 hq,by unfold A.zJ;rw [hq]⟩,fun q=>by rw [List.length_eq_zero_iff.1 q];rfl⟩
  |none=>exact ⟨⟨0,0,0,0,0⟩,fun q=>absurd (List.getElem?_eq_none_iff.1 hq) (by omega),fun _=>by unfold A.zJ;rw [hq]⟩
 generalize wj u.ms=la at *
 generalize T.yE u.tr=lb at *
 generalize A.zJ u.n.ms=lc at *
 have e1:(0<u.ms.length∧IntKind.i64.wrap ((u.ms.length:Int)-1)=((u.ms.length-1:Nat):Int)∧ym (u.ms.map Mt.enc) (u.ms.length-1)=a.enc)∨u.ms.length=0∧True∧True:=by
  rcases Nat.eq_zero_or_pos u.ms.length with q|q
  ·exact .inr ⟨q,trivial,trivial⟩
  ·exact .inl ⟨q,w1 _ q (by omega),(ha q).1⟩
 have e2:(0<u.tr.length∧IntKind.i64.wrap ((u.tr.length:Int)-1)=((u.tr.length-1:Nat):Int)∧ym (u.tr.map T.Tk.enc) (u.tr.length-1)=b.enc)∨u.tr.length=0∧True∧True:=by
  rcases Nat.eq_zero_or_pos u.tr.length with q|q
  ·exact .inr ⟨q,trivial,trivial⟩
  ·exact .inl ⟨q,w1 _ q (by omega),(hb q).1⟩
 have e3:(0<u.n.ms.length∧IntKind.i64.wrap ((u.n.ms.length:Int)-1)=((u.n.ms.length-1:Nat):Int)∧ym (u.n.ms.map A.Mp.enc) (u.n.ms.length-1)=c.enc)∨u.n.ms.length=0∧True∧True:=by
  rcases Nat.eq_zero_or_pos u.n.ms.length with q|q
  ·exact .inr ⟨q,trivial,trivial⟩
  ·exact .inl ⟨q,w1 _ q (by omega),(hc q).1⟩
 clear w1
 rcases e1 with ⟨q1,x1,y1⟩|⟨q1,x1,y1⟩<;>rcases e2 with ⟨q2,x2,y2⟩|⟨q2,x2,y2⟩<;>rcases e3 with ⟨q3,x3,y3⟩|⟨q3,x3,y3⟩
 all_goals
  refine z4 {} 0 Tryz.func32 fun Γ hW=>auC ?_
  repeat' first|refine auS ?_|fail|refine auD ?_|(refine auW ?_ ?_<;>intro h<;>try exact auH)|(simp only [List.length_map,Int.toNat_natCast,x1,x2,x3,y1,y2,y3])
  all_goals try exact auP
  all_goals try (exfalso;simp only [List.length_map,hsL] at *;omega)
  all_goals refine auV ?_
  all_goals try exact z8
  all_goals try simp only [hsM] at *
  refine zB ?_
  omega
end Go.Proofs.YtmibknbmhcnemaaGreatDoor
namespace Go.Proofs.YtmibknbmhcnemaaGreatDoor
attribute [local irreducible] zF Go
set_option maxRecDepth 100000
set_option maxHeartbeats 1000000 in
theorem kq (l:List R.Rl) (c:Bool) (hl:zZ l.length 80):zd Tryz.prog 35 [.snap 10 (l.map R.Rl.enc) c] (.snap 10 (l.map R.Rl.enc) false):=by
 have hones:∀r:List R.Rl,y5 (r.map R.Rl.enc)=true:=y_ (fun x=>rfl)
 have hnf:∀g,xb g (l.map R.Rl.enc):=fun g=>zn (fun x=>by simp [nfL,nfD])
 cases l with
 |nil=>
  refine z4 {} 0 Tryz.func35 fun Γ hW=>auC ?_
  dsimp only [List.map]
  repeat' first|refine auS ?_|(with_reducible refine yz ?_)|refine auD ?_|(refine auW ?_ ?_<;>intro h<;>try exact auH)|fail
  ·refine zt (yI (yW ⟨.d0,.d0,.d2⟩ 1 10 rfl rfl)) (zt (zk hW ⟨.d0,.d0,.d2⟩ rfl rfl ⟨rfl,rfl,by exact Nat.le_refl _⟩) ?_)
   dsimp only [zK,zV]
   all_goals refine auV ?_
   all_goals try exact z8
   all_goals try simp only [hsM] at *
  ·refine zt (zk hW ⟨.d0,.d0,.d2⟩ rfl rfl ⟨rfl,rfl,by exact Nat.le_refl _⟩) ?_
   rw [show zK (zV (([]:List (List DV))++[]) 0) 0=[] from rfl]
   all_goals refine auV ?_
   all_goals try exact z8
   all_goals try simp only [hsM] at *
 |cons x r=>
  refine z4 {} 0 Tryz.func35 fun Γ hW=>auC ?_
  dsimp only [List.map]
  repeat' first|refine auS ?_|(with_reducible refine yz ?_)|refine auD ?_|(refine auW ?_ ?_<;>intro h<;>try exact auH)|(refine z7 ⟨Or.inl (by omega),rfl,hones _,by simp only [zZ,maxLen,List.length_map,List.length_cons] at hl ⊢;omega⟩ ?_)
  refine zt (zk hW ⟨.d0,.d0,.d2⟩ rfl rfl ⟨rfl,rfl,by simp⟩) ?_
  rw [show zK (zV ([]++R.Rl.enc x::r.map R.Rl.enc) 0) (0+((r.map R.Rl.enc).length+1))=(x::r).map R.Rl.enc from yN (by simp)]
  have hnf1:=hnf Γ.g0
  all_goals refine auV ?_
  all_goals try exact z8
  all_goals try simp only [hsM] at *
  all_goals rfl
set_option maxHeartbeats 1000000 in
theorem kp (l:List T.Tk) (c:Bool) (hl:zZ l.length 48):zd Tryz.prog 57 [.snap 7 (l.map T.Tk.enc) c] (.snap 7 (l.map T.Tk.enc) false):=by
 have hones:∀r:List T.Tk,y5 (r.map T.Tk.enc)=true:=y_ (fun x=>rfl)
 have hnf:∀g,xb g (l.map T.Tk.enc):=fun g=>zn (fun x=>by simp [nfL,nfD])
 cases l with
 |nil=>
  refine z4 {} 0 Tryz.func57 fun Γ hW=>auC ?_
  dsimp only [List.map]
  repeat' first|refine auS ?_|(with_reducible refine yz ?_)|refine auD ?_|(refine auW ?_ ?_<;>intro h<;>try exact auH)|fail
  ·refine zt (yI (yW ⟨.d0,.d0,.d2⟩ 1 7 rfl rfl)) (zt (zk hW ⟨.d0,.d0,.d2⟩ rfl rfl ⟨rfl,rfl,by exact Nat.le_refl _⟩) ?_)
   dsimp only [zK,zV]
   all_goals refine auV ?_
   all_goals try exact z8
   all_goals try simp only [hsM] at *
  ·refine zt (zk hW ⟨.d0,.d0,.d2⟩ rfl rfl ⟨rfl,rfl,by exact Nat.le_refl _⟩) ?_
   rw [show zK (zV (([]:List (List DV))++[]) 0) 0=[] from rfl]
   all_goals refine auV ?_
   all_goals try exact z8
   all_goals try simp only [hsM] at *
 |cons x r=>
  refine z4 {} 0 Tryz.func57 fun Γ hW=>auC ?_
  dsimp only [List.map]
  repeat' first|refine auS ?_|(with_reducible refine yz ?_)|refine auD ?_|(refine auW ?_ ?_<;>intro h<;>try exact auH)|(refine z7 ⟨Or.inl (by omega),rfl,hones _,by simp only [zZ,maxLen,List.length_map,List.length_cons] at hl ⊢;omega⟩ ?_)
  refine zt (zk hW ⟨.d0,.d0,.d2⟩ rfl rfl ⟨rfl,rfl,by simp⟩) ?_
  rw [show zK (zV ([]++T.Tk.enc x::r.map T.Tk.enc) 0) (0+((r.map T.Tk.enc).length+1))=(x::r).map T.Tk.enc from yN (by simp)]
  have hnf1:=hnf Γ.g0
  all_goals refine auV ?_
  all_goals try exact z8
  all_goals try simp only [hsM] at *
  all_goals rfl
set_option maxHeartbeats 1000000 in
theorem ZN (l:List Mt) (c:Bool) (hl:zZ l.length 40):tT Tryz.prog 56 [.snap 5 (l.map Mt.enc) c] [] (fun n d H=>d=.sl 1 n 5 0 l.length false∧H=[some ⟨n,5,l.map Mt.enc⟩]):=by
 have hones:∀r:List Mt,y5 (r.map Mt.enc)=true:=y_ (fun x=>rfl)
 cases l with
 |nil=>
  refine sb {} 0 Tryz.func56 fun Γ hW=>auC ?_
  dsimp only [List.map]
  repeat' first|refine auS ?_|(with_reducible refine yz ?_)|refine auD ?_|(refine auW ?_ ?_<;>intro h<;>try exact auH)|fail
  ·refine lW (yI (yW ⟨.d0,.d0,.d2⟩ 1 5 rfl rfl)) ?_
   exact ws 1 (fun n=>.sl 1 n 5 0 0 false) trivial rfl (Nat.le_refl _) trivial (fun n=>.inl ⟨rfl,rfl⟩) (fun n=>⟨rfl,rfl⟩)
  ·exact ws 1 (fun n=>.sl 1 n 5 0 0 false) trivial rfl (by show Γ.g0≤Γ.g0+1;omega) trivial (fun n=>.inl ⟨rfl,rfl⟩) (fun n=>⟨rfl,rfl⟩)
 |cons x r=>
  refine sb {} 0 Tryz.func56 fun Γ hW=>auC ?_
  dsimp only [List.map]
  repeat' first|refine auS ?_|(with_reducible refine yz ?_)|refine auD ?_|(refine auW ?_ ?_<;>intro h<;>try exact auH)|(refine z7 ⟨Or.inl (by omega),rfl,hones _,by simp only [zZ,maxLen,List.length_map,List.length_cons] at hl ⊢;omega⟩ ?_)
  refine ws 1 (fun n=>.sl 1 n 5 0 (x::r).length false) trivial rfl (by show Γ.g0≤Γ.g0+1;omega) ?_ (fun n=>.inl ⟨rfl,?_⟩) (fun n=>⟨rfl,rfl⟩)
  ·exact (zn (fun x=>by simp [nfL,nfD]):xb Γ.g0 ((x::r).map Mt.enc))
  ·simp [List.length_map]
theorem im (j:Nat) (l:List Mt) (c:Bool) (hl:zZ l.length 40):tT Tryz.prog 56 [.snap 5 (l.map Mt.enc) c] [] (fun n d H=>d=.sl j n 5 0 l.length false∧H=[some ⟨n,5,l.map Mt.enc⟩]):=
 mR (ZN l c hl) (fun K w n v h=>vh h)
theorem wI (g:Nat) (l:List Mt):xb g (l.map Mt.enc):=zn (fun x=>by simp [Mt.enc,nfL,nfD])
theorem cG (g:Nat) (l:List R.Rl):xb g (l.map R.Rl.enc):=zn (fun x=>by simp [nfL,nfD])
theorem cI (g:Nat) (l:List T.Tk):xb g (l.map T.Tk.enc):=zn (fun x=>by simp [nfL,nfD])
set_option maxHeartbeats 4000000 in
theorem gH (u:Hs) (hw:u.wf):ua Tryz.prog 31 [dH u] [] 1 (fun n d H=>d=.agg (u.row (.sl 1 n 5 0 u.ms.length false))∧H=[some ⟨n,5,u.ms.map Mt.enc⟩]):=by
 have h1:=kq u.p.rs false hw.rs
 have h2:=kp u.tr false hw.tr
 have h3:=A.xS u.n.ms false hw.n.mm
 have h4:=im 10 u.ms false hw.ms
 refine X4 {} 0 Tryz.func31 fun Γ hW=>auC ?_
 repeat' first|refine auS ?_|(first|(with_reducible refine z0 h1 ?_)|(with_reducible refine z0 h2 ?_)|(with_reducible refine z0 h3 ?_)|(with_reducible refine yJ 10 h4 ?_))|refine auD ?_|(refine auW ?_ ?_<;>intro h<;>try exact auH)|fail
 exact r5 [10] [Γ.g0+2] ⟨⟨rfl,rfl,Nat.zero_lt_one,Nat.le_refl _⟩,trivial⟩ (by decide) rfl (fun a ha=>by simp at ha;subst ha;exact ⟨10,_,rfl,rfl⟩) (fun n=>⟨⟨rfl,trivial⟩,⟨rfl,trivial⟩,⟨rfl,trivial⟩,⟨rfl,trivial⟩,⟨rfl,trivial⟩,⟨rfl,trivial⟩,⟨rfl,cG _ _⟩,⟨rfl,trivial⟩,⟨1,n,.inl ⟨0,rfl,rfl⟩,rfl⟩,⟨rfl,cI _ _⟩,⟨rfl,trivial⟩,⟨rfl,trivial⟩,⟨rfl,trivial⟩,⟨rfl,trivial⟩,⟨rfl,trivial⟩,⟨rfl,A.wi _ _⟩,rfl⟩) (fun n=>⟨⟨.inl ⟨0,rfl,rfl⟩,rfl,yV _ (wI _ _)⟩,rfl⟩)
end Go.Proofs.YtmibknbmhcnemaaGreatDoor
namespace Go.Proofs.YtmibknbmhcnemaaGreatDoor
def nq (K:Kr) (H0:HL):Kr:=⟨K.dom,K.real,K.μ,fun g=>K.M g∧¬ ∃k o,zc H0 k=some o∧K.real o.n∧K.μ o.n=g⟩
theorem oc (K:Kr) (H0:HL) (w:World):yY K w (nq K H0) w:=⟨Ext.refl _ _,fun n h=>⟨h,rfl⟩,fun g _ h=>h.1⟩
theorem Yw {Γ:Gm} {K:Kr} {w:World} {H0:HL} (hI:Inv Γ K (zc H0) w) {i0 k n sz len:Nat} {full:Bool} {xs ys:List (List DV)} (h0:zc H0 i0=some ⟨n,sz,xs⟩) (hsz:0<sz) (hlen:xs.length=len) (hl:ys.length=xs.length)
  (hxy:∀(i:Nat) (x y:List DV),xs[i]?=some x→ys[i]?=some y→y.length=sz∧∀(j:Nat) (e:DV),y[j]?=some e→∃d,x[j]?=some d∧∀v,zg K w d v→zg (nq K H0) w e v) {v:Value} (hv:zg K w (.sl k n sz 0 len full) v):zg (nq K H0) w (.snap sz ys false) v:=by
 have hys:∀y∈ys,y.length=sz:=fun y hy=>by
  obtain ⟨i,hi⟩:=List.mem_iff_getElem?.1 hy
  have hil:=(List.getElem?_eq_some_iff.1 hi).1
  exact (hxy i _ y (List.getElem?_eq_getElem (by omega)) hi).1
 cases hv with
 |sl hlc hf hh=>
  rename_i A cap
  by_cases hz:len=0
  ·subst hz
   have e1:ys=[]:=List.length_eq_zero_iff.1 (by omega)
   subst e1
   exact .snap (fun _ _=>undef) rfl (Nat.zero_le _) (fun q=>by cases q) hys (fun q=>by omega) (fun ad i x j d _ hx _=>by simp at hx) (fun i x j d hx _=>by simp at hx)
  ·rcases hh with hh|⟨hr,rfl,cs',t',fr',q3,q4,q5⟩
   ·omega
   ·rcases (hI.obj i0 _ h0).two (fun hm=>by have:=hm.2.1;simp only at this;omega) with ⟨u1,-⟩|⟨-,cs,t,fr,u2,u3,u4,u5,u6⟩
    ·exact absurd hr u1
    ·have hget:∀(i:Nat) (y:List DV) (j:Nat) (e:DV),ys[i]?=some y→y[j]?=some e→∃c,cs[i*sz+j]?=some c∧zg (nq K H0) w e c:=fun i y j e hy he=>by
      have hil:=(List.getElem?_eq_some_iff.1 hy).1
      obtain ⟨x,hx⟩:∃x,xs[i]?=some x:=⟨_,List.getElem?_eq_getElem (by omega)⟩
      obtain ⟨d,hd,hde⟩:=(hxy i x y hx hy).2 j e he
      obtain ⟨c,c1,c2⟩:=u6 i x j d hx hd
      exact ⟨c,c1,hde c c2⟩
     refine .snap (fun i j=>(cs[i*sz+j]?).getD undef) (by omega) hlc (fun q=>by cases q) hys (fun _=>⟨_,rfl,rfl,hI.lt _ hr,fun q=>q.2 ⟨i0,_,h0,hr,rfl⟩⟩) (fun ad i y j e hA hy he=>?_) (fun i y j e hy he=>?_)
     ·obtain rfl:=Option.some.inj hA
      obtain ⟨c,c1,-⟩:=hget i y j e hy he
      rw [yl,Nat.zero_mul,Nat.zero_add,c1]
      unfold World.cell?
      dsimp only at u3 ⊢
      rw [u3]
      simpa using c1
     ·obtain ⟨c,c1,c2⟩:=hget i y j e hy he
      simp only [c1,Option.getD_some]
      exact c2
theorem eX {P:Program} {f:FuncId} {ds ds':List DV} {H0:HL} {D:DV} (hD:qS D=true) (harg:∀(Γ:Gm) (K:Kr) (w:World) (vs:Array Value),Inv Γ K (zc H0) w→zM K w ds' vs→zM (nq K H0) w ds vs) (h:zd P f ds D):zR P f ds' H0 (fun d H=>d=D∧H=H0):=by
 refine ⟨h.1,fun K w vs g0 hI hlt hargs=>?_⟩
 have hargs1:=harg _ _ _ _ hI hargs
 have hI1:Inv (xt (nq (K.cut w) H0) w g0 []) ((nq (K.cut w) H0).cut w) (zc []) w:=
  ⟨Ext.refl _ _,⟨fun m hm=>.inl hm,fun m hm _=>hm,fun m hm=>⟨hm,rfl⟩,fun g _=>Iff.rfl⟩,fun k o h=>by simp [zc] at h,fun k k' o o' h=>by simp [zc] at h,fun m hm=>hI.dr m hm,fun m hm=>hI.lt m hm,fun k o h=>by simp [zc] at h,fun k o h=>by simp [zc] at h,fun g cs hg=>⟨fun ⟨_,_,q,_⟩=>by simp [zc] at q,fun q=>(hI.glob hg).1 ⟨q.1.1.1,q.2⟩,(hI.glob hg).2⟩⟩
 refine (h.2 (nq (K.cut w) H0) w vs g0 hI1 hlt (ub hargs1)).mono ?_
 rintro e w' ⟨v,d,H1,rfl,⟨rfl,rfl⟩,hI',hv⟩
 have hext:Ext (fun _=>False) w w':=hI'.ext.weaken (fun g _ ⟨k,o,hk,_⟩=>by simp [zc] at hk)
 exact ⟨v,_,H0,rfl,⟨rfl,rfl⟩,XI hI hext,eD hv hD⟩
theorem Zc {K:Kr} {w:World} {H0:HL} {d e:DV} {ds:List DV} {vs:Array Value} (h:zM K w (d::ds) vs) (hd:∀v,zg K w d v→zg (nq K H0) w e v):zM (nq K H0) w (e::ds) vs:=
 ⟨by simpa using h.1,fun i x v hx hv=>by
  match i,hx with
  |0,hx=>
   obtain rfl:=Option.some.inj hx
   exact hd v (h.2 0 d v rfl hv)
  |i+1,hx=>exact (h.2 (i+1) x v (by simpa using hx) hv).mono (oc K H0 w)⟩
theorem fW {K:Kr} {w:World} {H0:HL} {u:Hs} {d e:DV} {v:Value} (h:zg K w (.agg (u.row d)) v) (hd:∀x,zg K w d x→zg (nq K H0) w e x):zg (nq K H0) w (.agg (u.row e)) v:=by
 cases h with
 |agg hl hc=>
  refine .agg hl fun i x c hx hcx=>?_
  by_cases hi:i=8
  ·subst hi
   obtain rfl:e=x:=Option.some.inj hx
   exact hd c (hc 8 d c rfl hcx)
  ·have e1:u.row e=(u.row d).set 8 e:=rfl
   rw [e1,List.getElem?_set_ne (fun q=>hi q.symm)] at hx
   exact (hc i x c hx hcx).mono (oc K H0 w)
theorem fH {P:Program} {f:FuncId} {u:Hs} {ds:List DV} {D:DV} (hD:qS D=true) (h:zd P f (dH u::ds) D) (k n:Nat):zR P f (.agg (u.row (.sl k n 5 0 u.ms.length false))::ds) [some ⟨n,5,u.ms.map Mt.enc⟩] (fun d H=>d=D∧H=[some ⟨n,5,u.ms.map Mt.enc⟩]):=
 eX hD (fun Γ K w vs hI ha=>Zc ha fun v hv=>fW hv fun x hx=>Yw (i0:=0) hI rfl (by decide) (by simp) rfl (fun i x y hx hy=>by
  obtain rfl:x=y:=Option.some.inj (hx.symm.trans hy)
  refine ⟨?_,fun j e he=>⟨e,he,fun v hv=>hv.mono (oc K _ w)⟩⟩
  obtain ⟨z,-,rfl⟩:=List.mem_map.1 (List.mem_of_getElem? hx)
  rfl) hx) h
end Go.Proofs.YtmibknbmhcnemaaGreatDoor
namespace Go.Proofs.YtmibknbmhcnemaaGreatDoor
attribute [local irreducible] zF Go
set_option maxRecDepth 100000
abbrev wkR (u:Hs) (d:DV) (f:Fl) (t:List UInt8) (now:Int):List DV:=[.v (.int .u32 u.p.ou),.v (.int .i64 u.p.lt),.v (.int .i64 u.p.st),.v (.int .i64 u.p.lf),.v (.int .i64 u.p.ra),.v (.int .i64 u.p.mo),.snap 10 (u.p.rs.map R.Rl.enc) false,.v (.bool u.p.el),d,.snap 7 (u.tr.map T.Tk.enc) false,
 .v (.int .i64 u.n.l),.v (.int .i64 u.n.b1),.v (.int .u64 (u.n.t1:Int)),.v (.int .i64 u.n.b2),.v (.int .u64 (u.n.t2:Int)),.snap 5 (u.n.ms.map A.Mp.enc) false,.v (.int .u32 f.fr),.v (.int .u32 f.to),.v (.int .i64 f.proto),.v (.int .i64 f.fp),.v (.int .i64 f.tp),.v (.string (mkS t)),.v (.int .i64 now)]
theorem uQ {g q lb lb' m m' len:Nat} {ns:List Nat} (u:Hs) (f:Fl) (t:List UInt8) (now:Int) (h:o8 g ns q m m'):sk g ns q (wkR u (.sl lb m 5 0 len false) f t now) (wkR u (.sl lb' m' 5 0 len false) f t now):=
 ⟨⟨rfl,trivial⟩,⟨rfl,trivial⟩,⟨rfl,trivial⟩,⟨rfl,trivial⟩,⟨rfl,trivial⟩,⟨rfl,trivial⟩,⟨rfl,cG _ _⟩,⟨rfl,trivial⟩,⟨lb',m',h,rfl⟩,⟨rfl,cI _ _⟩,⟨rfl,trivial⟩,⟨rfl,trivial⟩,⟨rfl,trivial⟩,⟨rfl,trivial⟩,⟨rfl,trivial⟩,⟨rfl,A.wi _ _⟩,⟨rfl,trivial⟩,⟨rfl,trivial⟩,⟨rfl,trivial⟩,⟨rfl,trivial⟩,⟨rfl,trivial⟩,⟨rfl,trivial⟩,⟨rfl,trivial⟩,rfl⟩
set_option maxHeartbeats 1000000 in
theorem Z0 (l:List Mt) (i j:Nat) (hij:i≤j) (hj:j≤l.length) (hl:l.length≤maxLen) (n:Nat):zR Tryz.prog 102 [.sl 0 n 5 0 l.length false,.v (.int .i64 i),.v (.int .i64 j)] [some ⟨n,5,l.map Mt.enc⟩] (fun d H=>d=.sl 0 n 5 0 (l.take i++l.drop j).length false∧H=[some ⟨n,5,(l.take i++l.drop j).map Mt.enc⟩]):=by
 have hones:∀r:List Mt,y5 (r.map Mt.enc)=true:=y_ (fun x=>rfl)
 have ej:zK (zV (l.map Mt.enc) j) ((l.length:Int)-j).toNat=(l.drop j).map Mt.enc:=by rw [zz,y4,←List.map_drop,←List.map_take,List.take_of_length_le (by rw [List.length_drop];omega)]
 have hlen:(zK (l.map Mt.enc) i++((l.drop j).map Mt.enc++zV (l.map Mt.enc) (i+(l.length-j)))).length=l.length:=by rw [zz,y4];simp;omega
 unfold maxLen at hl
 refine zY {inpl:=true} 1 Tryz.func102 fun Γ hN0 hL0=>auC ?_
 have hn:n<Γ.g0:=hN0 0 _ rfl
 repeat' first|refine auS ?_|fail|refine auD ?_|(refine auW ?_ ?_<;>intro h<;>try exact auH)|(first|(simp only [Int.toNat_natCast,Nat.zero_add,ej,List.length_map,List.length_drop])|(refine z7 ⟨by trivial,by trivial,by trivial,by omega,hones _⟩ ?_)|(refine z7 ⟨by trivial,by trivial,by trivial,by omega,by omega,by omega,by (rw [hlen];omega)⟩ ?_)|(refine z7 ⟨by trivial,by trivial,by trivial,by (rw [hlen];omega),by trivial⟩ ?_)|fail)
 ·have hij2:i=j:=by (simp only [hsL,reduceCtorEq] at *<;>omega)
  subst hij2
  rw [List.take_append_drop]
  exact xp trivial hn rfl rfl hn (zn (fun x=>by simp [nfL,nfD])) rfl
 ·refine zt (yI (eZ ⟨.d0,.d0,.d6⟩ rfl)) (zt (yI (ny 0 (i+(l.length-j)) rfl)) (xp trivial hn ?_ rfl hn (zn (fun x=>by simp [nfL,nfD])) ?_))
  ·have e:(l.take i++l.drop j).length=i+(l.length-j):=by simp;omega
   rw [e]
   rfl
  ·refine (eS (by rw [zz];simp;omega)).trans ?_
   rw [zz,List.map_append,List.map_take]
theorem qt (k:Nat) (l:List Mt) (i j:Nat) (hij:i≤j) (hj:j≤l.length) (hl:l.length≤maxLen) (n:Nat):zR Tryz.prog 102 [.sl k n 5 0 l.length false,.v (.int .i64 i),.v (.int .i64 j)] [some ⟨n,5,l.map Mt.enc⟩] (fun d H=>d=.sl k n 5 0 (l.take i++l.drop j).length false∧H=[some ⟨n,5,(l.take i++l.drop j).map Mt.enc⟩]):=
 yi k (s9 (Z0 l i j hij hj hl n) (fun _ _ _=>vh))
def qv (a:Int) (m:Mt) (now n:Int):Mt:=⟨a,m.ra,m.mo,B.vz m.ra m.mo m.hs m.tm now n,now⟩
def qq (m:Mt) (now n:Int):Bool:=decide (n≤B.ye m.ra m.mo m.hs m.tm now)
abbrev V0 (u:Hs) (f:Fl) (t:List UInt8) (now:Int) (n q:Nat) (l:List Mt):HL:=[some ⟨n,23,[wkR u (.sl 4 q 5 0 l.length false) f t now]⟩,none,some ⟨q,5,l.map Mt.enc⟩]
set_option maxHeartbeats 4000000 in
theorem VG (u:Hs) (f:Fl) (t:List UInt8) (now:Int) (hl:u.ms.length≤maxLen) (i:Nat) (t0:Mt) (h0:u.ms[i]?=some t0) (hi:zl (fun m:Mt=>decide (m.ad=f.fr)) u.ms 0=i) (h64:u.ms.length≤64) (he:B.xC t0.ra t0.mo t0.hs t0.tm now (t.length:Nat)=0) (n m:Nat) :
  ua Tryz.prog 61 [.ptr 0 n 23 0 0] [some ⟨n,23,[wkR u (.sl 1 m 5 0 u.ms.length false) f t now]⟩,some ⟨m,5,u.ms.map Mt.enc⟩] 1 (fun q d H=>d=.v (.bool (qq t0 now (t.length:Nat)))∧H=V0 u f t now n q (u.ms.take i++u.ms.drop (i+1)++[qv f.fr t0 now (t.length:Nat)])):=by
 have hlt:=(List.getElem?_eq_some_iff.1 h0).1
 have ex:=uw h0
 have hdel:=qt 1 u.ms i (i+1) (by omega) (by omega) hl m
 have hw1:IntKind.i64.wrap ((i:Int)+1)=((i+1:Nat):Int):=(IntWalk.i64_in _ (by unfold maxLen at hl;omega)).trans (by omega)
 have hX:(u.ms.take i++u.ms.drop (i+1)).length≤64:=by simp;omega
 generalize u.ms.take i++u.ms.drop (i+1)=X at *
 have hlen:(u.ms.map Mt.enc).length=u.ms.length:=List.length_map _
 have hb:zd Tryz.prog 103 [B.bB t0.ra t0.mo t0.hs t0.tm,.v (.int .i64 now),.v (.int .i64 (t.length:Nat))] (.tup [B.bB t0.ra t0.mo (B.vz t0.ra t0.mo t0.hs t0.tm now (t.length:Nat)) now,.v (.bool (decide ((t.length:Int)≤B.ye t0.ra t0.mo t0.hs t0.tm now))),.v (.int .i64 0)]):=by
  have q:=B.qz t0.ra t0.mo t0.hs t0.tm now (t.length:Nat)
  rw [show B.btD t0.ra t0.mo t0.hs t0.tm now (t.length:Nat)=B.bB t0.ra t0.mo (B.vz t0.ra t0.mo t0.hs t0.tm now (t.length:Nat)) now by unfold B.btD;rw [if_pos he],he] at q
  exact q
 have hmt:=fH rfl (sV u f.fr hl) 1 m
 rw [hi] at hmt
 unfold qv qq
 generalize B.vz t0.ra t0.mo t0.hs t0.tm now (t.length:Nat)=HH at *
 generalize B.ye t0.ra t0.mo t0.hs t0.tm now=LL at *
 skip
 refine wm {} 2 Tryz.func61 fun Γ hN0 hL0=>auC ?_
 have hn:=hN0 0 _ rfl
 have hm:=hN0 1 _ rfl
 repeat' first|refine auS ?_|(first|((with_reducible refine zX 44 ?_);(refine zA [1] (by decide) rfl rfl hmt ?_))|(with_reducible refine z0 hb ?_)|((with_reducible refine z9 1 ?_ hdel (fun _ _ _ h=>h) ?_);(exact rfl)))|refine auD ?_|(refine auW ?_ ?_<;>intro h<;>try exact auH)|(first|(simp only [Int.toNat_natCast,Nat.zero_add,z5,ex,hw1])|(refine z7 ⟨by simpa using hlt,by trivial⟩ ?_)|fail)
 all_goals try exact auP
 have e1:X.map Mt.enc++[Mt.enc ⟨f.fr,t0.ra,t0.mo,HH,now⟩]=(X++[(⟨f.fr,t0.ra,t0.mo,HH,now⟩:Mt)]).map Mt.enc:=by rw [List.map_append];rfl
 have e2:(X.map Mt.enc).length+1=(X++[(⟨f.fr,t0.ra,t0.mo,HH,now⟩:Mt)]).length:=by simp
 rw [e1,e2]
 exact r5 [0,1,4] [Γ.g0+2] trivial (by decide) rfl (fun a ha=>by simp at ha;subst ha;exact ⟨4,_,rfl,rfl⟩) (fun q=>⟨rfl,trivial⟩) (fun q=>⟨⟨.inr ⟨hn,rfl⟩,rfl,uQ u f t now (.inl ⟨0,rfl,rfl⟩),rfl⟩,⟨.inl ⟨0,rfl,rfl⟩,rfl,yV _ (wI _ _)⟩,rfl⟩)
set_option maxHeartbeats 4000000 in
theorem VL (u:Hs) (f:Fl) (t:List UInt8) (now:Int) (hl:u.ms.length≤maxLen) (t0:Mt) (hra:t0.ra=u.p.ra) (hmo:t0.mo=u.p.mo) (hhs:t0.hs=u.p.mo) (htm:t0.tm=now) (hi:zl (fun m:Mt=>decide (m.ad=f.fr)) u.ms 0 = -1) (h64:u.ms.length=64) (he:B.xC t0.ra t0.mo t0.hs t0.tm now (t.length:Nat)=0) (n m:Nat) :
  ua Tryz.prog 61 [.ptr 0 n 23 0 0] [some ⟨n,23,[wkR u (.sl 1 m 5 0 u.ms.length false) f t now]⟩,some ⟨m,5,u.ms.map Mt.enc⟩] 1 (fun q d H=>d=.v (.bool (qq t0 now (t.length:Nat)))∧H=V0 u f t now n q (u.ms.drop 1++[qv f.fr t0 now (t.length:Nat)])):=by
 have hlt:True:=trivial
 have hdel:zR Tryz.prog 102 [.sl 1 m 5 0 u.ms.length false,.v (.int .i64 0),.v (.int .i64 1)] [some ⟨m,5,u.ms.map Mt.enc⟩] (fun d H=>d=.sl 1 m 5 0 (u.ms.drop 1).length false∧H=[some ⟨m,5,(u.ms.drop 1).map Mt.enc⟩]):=qt 1 u.ms 0 1 (by omega) (by omega) hl m
 have hX:(u.ms.drop 1).length≤64:=by simp;omega
 generalize u.ms.drop 1=X at *
 have hlen:(u.ms.map Mt.enc).length=u.ms.length:=List.length_map _
 have hb:zd Tryz.prog 103 [B.bB t0.ra t0.mo t0.hs t0.tm,.v (.int .i64 now),.v (.int .i64 (t.length:Nat))] (.tup [B.bB t0.ra t0.mo (B.vz t0.ra t0.mo t0.hs t0.tm now (t.length:Nat)) now,.v (.bool (decide ((t.length:Int)≤B.ye t0.ra t0.mo t0.hs t0.tm now))),.v (.int .i64 0)]):=by
  have q:=B.qz t0.ra t0.mo t0.hs t0.tm now (t.length:Nat)
  rw [show B.btD t0.ra t0.mo t0.hs t0.tm now (t.length:Nat)=B.bB t0.ra t0.mo (B.vz t0.ra t0.mo t0.hs t0.tm now (t.length:Nat)) now by unfold B.btD;rw [if_pos he],he] at q
  exact q
 have hmt:=fH rfl (sV u f.fr hl) 1 m
 rw [hi] at hmt
 unfold qv qq
 generalize B.vz t0.ra t0.mo t0.hs t0.tm now (t.length:Nat)=HH at *
 generalize B.ye t0.ra t0.mo t0.hs t0.tm now=LL at *
 simp only [hra,hmo,hhs,htm] at hb ⊢
 refine wm {} 2 Tryz.func61 fun Γ hN0 hL0=>auC ?_
 have hn:=hN0 0 _ rfl
 have hm:=hN0 1 _ rfl
 repeat' first|refine auS ?_|(first|((with_reducible refine zX 44 ?_);(refine zA [1] (by decide) rfl rfl hmt ?_))|(with_reducible refine z0 hb ?_)|((with_reducible refine z9 1 ?_ hdel (fun _ _ _ h=>h) ?_);(exact rfl)))|refine auD ?_|(refine auW ?_ ?_<;>intro h<;>try exact auH)|(first|(simp only [Int.toNat_natCast,Nat.zero_add,z5,hlt])|(refine z7 ⟨by simpa using hlt,by trivial⟩ ?_)|fail)
 all_goals try exact auP
 have e1:X.map Mt.enc++[Mt.enc ⟨f.fr,u.p.ra,u.p.mo,HH,now⟩]=(X++[(⟨f.fr,u.p.ra,u.p.mo,HH,now⟩:Mt)]).map Mt.enc:=by rw [List.map_append];rfl
 have e2:(X.map Mt.enc).length+1=(X++[(⟨f.fr,u.p.ra,u.p.mo,HH,now⟩:Mt)]).length:=by simp
 rw [e1,e2]
 exact r5 [0,1,4] [Γ.g0+2] trivial (by decide) rfl (fun a ha=>by simp at ha;subst ha;exact ⟨4,_,rfl,rfl⟩) (fun q=>⟨rfl,trivial⟩) (fun q=>⟨⟨.inr ⟨hn,rfl⟩,rfl,uQ u f t now (.inl ⟨0,rfl,rfl⟩),rfl⟩,⟨.inl ⟨0,rfl,rfl⟩,rfl,yV _ (wI _ _)⟩,rfl⟩)
set_option maxHeartbeats 4000000 in
theorem Xb (u:Hs) (f:Fl) (t:List UInt8) (now:Int) (hl:u.ms.length≤maxLen) (t0:Mt) (hra:t0.ra=u.p.ra) (hmo:t0.mo=u.p.mo) (hhs:t0.hs=u.p.mo) (htm:t0.tm=now) (hi:zl (fun m:Mt=>decide (m.ad=f.fr)) u.ms 0 = -1) (h64:u.ms.length<64) (he:B.xC t0.ra t0.mo t0.hs t0.tm now (t.length:Nat)=0) (n m:Nat) :
  ua Tryz.prog 61 [.ptr 0 n 23 0 0] [some ⟨n,23,[wkR u (.sl 1 m 5 0 u.ms.length false) f t now]⟩,some ⟨m,5,u.ms.map Mt.enc⟩] 1 (fun q d H=>d=.v (.bool (qq t0 now (t.length:Nat)))∧H=V0 u f t now n q (u.ms++[qv f.fr t0 now (t.length:Nat)])):=by
 have hlt:True:=trivial
 have hdel:True:=trivial
 have hX:u.ms.length≤64:=by omega
 have hlen:(u.ms.map Mt.enc).length=u.ms.length:=List.length_map _
 have hb:zd Tryz.prog 103 [B.bB t0.ra t0.mo t0.hs t0.tm,.v (.int .i64 now),.v (.int .i64 (t.length:Nat))] (.tup [B.bB t0.ra t0.mo (B.vz t0.ra t0.mo t0.hs t0.tm now (t.length:Nat)) now,.v (.bool (decide ((t.length:Int)≤B.ye t0.ra t0.mo t0.hs t0.tm now))),.v (.int .i64 0)]):=by
  have q:=B.qz t0.ra t0.mo t0.hs t0.tm now (t.length:Nat)
  rw [show B.btD t0.ra t0.mo t0.hs t0.tm now (t.length:Nat)=B.bB t0.ra t0.mo (B.vz t0.ra t0.mo t0.hs t0.tm now (t.length:Nat)) now by unfold B.btD;rw [if_pos he],he] at q
  exact q
 have hmt:=fH rfl (sV u f.fr hl) 1 m
 rw [hi] at hmt
 unfold qv qq
 generalize B.vz t0.ra t0.mo t0.hs t0.tm now (t.length:Nat)=HH at *
 generalize B.ye t0.ra t0.mo t0.hs t0.tm now=LL at *
 simp only [hra,hmo,hhs,htm] at hb ⊢
 refine wm {} 2 Tryz.func61 fun Γ hN0 hL0=>auC ?_
 have hn:=hN0 0 _ rfl
 have hm:=hN0 1 _ rfl
 repeat' first|refine auS ?_|(first|((with_reducible refine zX 44 ?_);(refine zA [1] (by decide) rfl rfl hmt ?_))|(with_reducible refine z0 hb ?_)|((with_reducible refine z9 1 ?_ hdel (fun _ _ _ h=>h) ?_);(exact rfl)))|refine auD ?_|(refine auW ?_ ?_<;>intro h<;>try exact auH)|(first|(simp only [Int.toNat_natCast,Nat.zero_add,z5,hlt])|(refine z7 ⟨by simpa using hlt,by trivial⟩ ?_)|fail)
 all_goals try exact auP
 have e1:u.ms.map Mt.enc++[Mt.enc ⟨f.fr,u.p.ra,u.p.mo,HH,now⟩]=(u.ms++[(⟨f.fr,u.p.ra,u.p.mo,HH,now⟩:Mt)]).map Mt.enc:=by rw [List.map_append];rfl
 have e2:(u.ms.map Mt.enc).length+1=(u.ms++[(⟨f.fr,u.p.ra,u.p.mo,HH,now⟩:Mt)]).length:=by simp
 rw [e1,e2]
 exact r5 [0,1,4] [Γ.g0+2] trivial (by decide) rfl (fun a ha=>by simp at ha;subst ha;exact ⟨4,_,rfl,rfl⟩) (fun q=>⟨rfl,trivial⟩) (fun q=>⟨⟨.inr ⟨hn,rfl⟩,rfl,uQ u f t now (.inl ⟨0,rfl,rfl⟩),rfl⟩,⟨.inl ⟨0,rfl,rfl⟩,rfl,yV _ (wI _ _)⟩,rfl⟩)
end Go.Proofs.YtmibknbmhcnemaaGreatDoor
