import Derived.Test.YtmibknbmhcnemaaDoorTm40
set_option linter.unusedVariables false
set_option linter.unusedSimpArgs false
namespace Go.Proofs.YtmibknbmhcnemaaDoor
def X2 (g:Nat) (f:Nat→Nat) (c:Nat) (d e:DV):Prop:=e=d∨∃j k k' sz lo len full,j<c∧d=.sl k (f j) sz lo len full∧e=.sl k' (g+j) sz lo len full
def X8 (g:Nat) (f:Nat→Nat) (c:Nat) (o p:zc):Prop:=p=o∨((p.n=o.n∨∃j,j<c∧p.n=g+j∧o.n=f j)∧0<o.sz∧p.sz=o.sz∧p.xs.length=o.xs.length∧
 ∀(i:Nat) (y:List DV),p.xs[i]?=some y→∃x,o.xs[i]?=some x∧y.length=x.length∧∀(t:Nat) (e:DV),y[t]?=some e→∃d,x[t]?=some d∧X2 g f c d e)
theorem eS {st:St} {H':HL} (f:Nat→Nat) (c:Nat) (h:∀k p,z8 H' k=some p→∃o,z8 st.H k=some o∧X8 st.gen f c o p):Le st ⟨st.tm,H',st.gen+c⟩:=by
 intro Γ N K a w hR
 have hI:=hR.inv
 have hlt:=hR.fresh
 let K':Kr:=⟨fun n=>K.dom n∨(st.gen≤n∧n<st.gen+c),fun n=>K.real n∨(st.gen≤n∧n<st.gen+c∧K.real (f (n-st.gen))),fun n=>if st.gen≤n∧n<st.gen+c then K.μ (f (n-st.gen)) else K.μ n,K.M⟩
 have hμ:∀n,K.dom n→K'.μ n=K.μ n:=fun n hn=>if_neg (by have:=hlt n hn;omega)
 have hre:∀n,K.dom n→K'.real n→K.real n:=fun n hn hr=>by
  rcases hr with hr|⟨h1,h2,-⟩
  ·exact hr
  ·have:=hlt n hn
   omega
 have hμj:∀j,j<c→K'.μ (st.gen+j)=K.μ (f j):=fun j hj=>by
  have:K'.μ (st.gen+j)=K.μ (f (st.gen+j-st.gen)):=if_pos (by omega)
  rw [this,Nat.add_sub_cancel_left]
 have hrj:∀j,j<c→(K'.real (st.gen+j)↔K.real (f j)):=fun j hj=>by
  constructor
  ·rintro (hr|⟨-,-,hr⟩)
   ·have:=hlt _ (hI.dr _ hr)
    omega
   ·rwa [Nat.add_sub_cancel_left] at hr
  ·intro hr
   exact .inr ⟨by omega,by omega,by rwa [Nat.add_sub_cancel_left]⟩
 have hm:yr K w K' w:=⟨Ext.refl _ _,fun n hn=>⟨.inl hn,hμ n (hI.dr n hn)⟩,fun g _ hg=>hg⟩
 have hA:∀k p,z8 H' k=some p→∃o,z8 st.H k=some o∧(K'.real p.n↔K.real o.n)∧K'.μ p.n=K.μ o.n∧K'.dom p.n:=fun k p hp=>by
  obtain ⟨o,ho,hn⟩:=h k p hp
  refine ⟨o,ho,?_⟩
  have hd:=hI.dobj k o ho
  have hsame:p.n=o.n→(K'.real p.n↔K.real o.n)∧K'.μ p.n=K.μ o.n∧K'.dom p.n:=fun e=>by
   rw [e]
   exact ⟨⟨hre _ hd,.inl⟩,hμ _ hd,.inl hd⟩
  rcases hn with rfl|⟨e|⟨j,hj,e1,e2⟩,-⟩
  ·exact hsame rfl
  ·exact hsame e
  ·rw [e1,e2]
   exact ⟨hrj j hj,hμj j hj,.inr ⟨by omega,by omega⟩⟩
 refine ⟨K',⟨⟨hI.ext,⟨fun n hn=>?_,fun n hn h0=>?_,fun n hn=>?_,hI.base.M⟩,fun k p hp=>?_,fun k k' p p' h1 h2 r1 r2 e=>?_,fun n hn=>?_,fun n hn=>?_,fun k p hp=>?_,fun k p hp hr=>?_,hI.gl⟩,fun n hn=>?_,Nat.le_trans hR.g0 (Nat.le_add_right _ _),hR.size,hR.defers,fun s=>(hR.tm s).mono hm⟩⟩
 ·rcases hn with hn|hn
  ·exact hI.base.dom n hn
  ·exact .inr (Nat.le_trans hR.g0 hn.1)
 ·rcases hn with hn|hn
  ·exact hI.base.old n hn h0
  ·have:=hR.g0
   omega
 ·have:=hI.base.keep n hn
  exact ⟨.inl this.1,(hμ n (hI.dr n this.1)).trans this.2⟩
 ·obtain ⟨o,ho,hn⟩:=h k p hp
  obtain ⟨o',ho',hr1,hm1,-⟩:=hA k p hp
  obtain rfl:o'=o:=Option.some.inj (ho'.symm.trans ho)
  have hO:=hI.obj k o' ho
  rcases hn with rfl|⟨-,hz,hsz,hln,hrow⟩
  ·exact hO.mono hm (fun q q2=>q (hr1.1 q2)) (fun _=>rfl)
  ·rcases hO with ⟨q1,q2⟩|⟨q1,cs,t,fr,q2,q3,q4,q5,q6⟩|⟨-,q,-⟩
   ·refine .inl ⟨fun q=>q1 (hr1.1 q),List.length_eq_zero_iff.1 ?_⟩
    rw [hln,q2]
    rfl
   ·refine .inr (.inl ⟨hr1.2 q1,cs,t,fr,by rw [hsz];exact q2,by rw [hm1];exact q3,by rw [hln,hsz];exact q4,fun y hy=>?_,fun i y t' e hy he=>?_⟩)
    ·obtain ⟨i,hi⟩:=List.mem_iff_getElem?.1 hy
     obtain ⟨x,hx,hl,-⟩:=hrow i y hi
     rw [hl,hsz]
     exact q5 x (List.mem_of_getElem? hx)
    ·obtain ⟨x,hx,-,hc⟩:=hrow i y hy
     obtain ⟨d,hd,hcell⟩:=hc t' e he
     obtain ⟨v,hv,hvr⟩:=q6 i x t' d hx hd
     refine ⟨v,by rw [hsz];exact hv,?_⟩
     rcases hcell with rfl|⟨j,k1,k2,sz,lo,len,full,hj,rfl,rfl⟩
     ·exact hvr.mono hm
     ·cases hvr with
      |sl hlc hf hh=>
       refine .sl hlc hf ?_
       rcases hh with hh|⟨a1,a2,cs',t',fr',a3,a4⟩
       ·exact .inl hh
       ·exact .inr ⟨(hrj j hj).2 a1,by rw [hμj j hj];exact a2,cs',t',fr',by rw [hμj j hj];exact a3,a4⟩
   ·omega
 ·obtain ⟨o,ho,q1,q2,-⟩:=hA k p h1
  obtain ⟨o',ho',z1,z2,-⟩:=hA k' p' h2
  exact hI.inj k k' o o' ho ho' (q1.1 r1) (z1.1 r2) (q2.symm.trans (e.trans z2))
 ·rcases hn with hn|hn
  ·exact .inl (hI.dr n hn)
  ·exact .inr ⟨hn.1,hn.2.1⟩
 ·rcases hn with hn|⟨h1,h2,h3⟩
  ·rw [hμ n (hI.dr n hn)]
   exact hI.lt n hn
  ·have:K'.μ n=K.μ (f (n-st.gen)):=if_pos ⟨h1,h2⟩
   rw [this]
   exact hI.lt _ h3
 ·obtain ⟨o,ho,-,-,q⟩:=hA k p hp
  exact q
 ·obtain ⟨o,ho,q1,q2,-⟩:=hA k p hp
  rw [q2]
  exact hI.own k o ho (q1.1 hr)
 ·rcases hn with hn|hn
  ·have:=hlt n hn
   show n<st.gen+c
   omega
  ·exact hn.2
theorem iD {P:Program} {f:FuncId} {ds ds':List DV} {H0:HL} {c:Nat} {R:Nat→DV→HL→Prop} (h:wU P f ds' H0 c R) (hd:∀K w vs,zr K w ds vs→zr K w ds' vs):wU P f ds H0 c R:=
 ⟨h.1,fun K w vs g0 hI hlt ha=>h.2 K w vs g0 hI hlt (hd _ _ _ ha)⟩
theorem fJ {P:Program} {f:FuncId} {n sz i j c:Nat} {ds:List DV} {H0:HL} {R:Nat→DV→HL→Prop} (k:Nat) (h:wU P f (.ptr 0 n sz i j::ds) H0 c R):wU P f (.ptr k n sz i j::ds) H0 c R:=
 iD h (fun K w vs ha=>t9 (fun v hv=>vk hv) ha)
end Go.Proofs.YtmibknbmhcnemaaDoor
namespace Go.Proofs.YtmibknbmhcnemaaDoor.H
attribute [local irreducible] zz Go
set_option maxRecDepth 100000
theorem oq (c o n:Int) (hc:0≤c∧c≤65535) (ho:0≤o∧o≤65535) (hn:0≤n∧n≤65535):zf Tryd.prog 61 [.v (.int .u16 c),.v (.int .u16 o),.v (.int .u16 n)] (.v (.int .u16 (65535-zI (65535-c+(65535-o)+n)))):=by
 have x1:bits .xor .u16 IntKind.u16.max c=65535-c:=xa c hc.1 hc.2
 have x2:bits .xor .u16 IntKind.u16.max o=65535-o:=xa o ho.1 ho.2
 have w1:IntKind.u64.wrap (65535-c)=65535-c:=zM _ (by omega) (by omega)
 have w2:IntKind.u64.wrap (65535-o)=65535-o:=zM _ (by omega) (by omega)
 have w3:IntKind.u64.wrap n=n:=zM _ (by omega) (by omega)
 have w4:IntKind.u64.wrap (65535-c+(65535-o))=65535-c+(65535-o):=zM _ (by omega) (by omega)
 have w5:IntKind.u64.wrap (65535-c+(65535-o)+n)=65535-c+(65535-o)+n:=zM _ (by omega) (by omega)
 have hf:=sw (65535-c+(65535-o)+n) (by omega) (by omega)
 have hb:=xD (65535-c+(65535-o)+n) (by omega)
 have x3:=xa (zI (65535-c+(65535-o)+n)) hb.1 hb.2
 refine z4 {} 0 Tryd.func61 fun Γ hW=>auC ?_
 repeat' first|refine auS ?_|(first|(simp only [show IntKind.u16.signed=false from rfl,x1,x2,w1,w2,w3,w4,w5])|(with_reducible refine z0 hf ?_))|refine auD ?_|(refine auW ?_ ?_<;>intro h<;>try exact auH)|fail
 all_goals try exact auP
 all_goals refine auV ?_
 all_goals try exact z_
 all_goals try simp only [hsM] at *
 all_goals exact y8 x3
def nz (s:List UInt8):Int:=65535-zI (65535-z3 s 10+(65535-z3 s 8)+(z3 s 8-256))
def cO (s:List UInt8):List UInt8:=s.take 8++wd (z3 s 8-256)++wd (nz s)++(s.drop 12).take ((z3 s 2).toNat-12)
def tj (s:List UInt8):List UInt8×Int:=if ¬(rpR s).2=0 then ([],(rpR s).2) else if bN s 8<2 then ([],7) else (cO s,0)
theorem gW (s:List UInt8):((rpR s).2=0∧rpR s=(rdP s,0)∧20≤s.length∧20≤z3 s 2∧z3 s 2≤s.length)∨(¬(rpR s).2=0):=by
 by_cases h:yd s=0
 ·have e:rpR s=(rdP s,0):=by unfold rpR;rw [if_pos h]
  refine .inl ⟨by rw [e],e,?_⟩
  unfold yd at h
  split at h
  ·cases h
  ·rename_i q1
   split at h
   ·cases h
   ·rename_i q2
    have q3:69≤bN s 0∧bN s 0≤79:=by
     by_cases q:69≤bN s 0∧bN s 0≤79
     ·exact q
     ·exact absurd (.inl q) q2
    have q4:¬z3 s 2<(hN s:Nat):=fun q=>q2 (.inr (.inl q))
    have q5:¬s.length<20:=fun q=>q1 (.inl q)
    have q6:¬(s.length:Int)<z3 s 2:=fun q=>q1 (.inr (.inr q))
    have q7:20≤hN s:=by unfold hN;omega
    omega
 ·refine .inr ?_
  unfold rpR
  rw [if_neg h]
  exact h
theorem YL (s:List UInt8):z3 s 8=256*(bN s 8:Nat)+(bN s 9:Nat):=rfl
set_option maxHeartbeats 2000000 in
theorem dA (s:List UInt8) (hl:s.length≤140737488351232):zf Tryd.prog 39 [.v (.string (mkS s))] (dSI (tj s)):=by
 have hr:=tJ s (by omega)
 rcases gW s with ⟨h0,he,h20,ha,hal⟩|h0
 rotate_left
 ·have hne:tj s=([],(rpR s).2):=by unfold tj;rw [if_pos h0]
  rw [hne]
  unfold dPE at hr
  generalize (rpR s).1=P at hr
  generalize (rpR s).2=E at hr h0 ⊢
  refine z4 {} 0 Tryd.func39 fun Γ hW=>auC ?_
  repeat' first|refine auS ?_|(first|(with_reducible refine z0 hr ?_))|refine auD ?_|(refine auW ?_ ?_<;>intro h<;>try exact auH)|fail
  all_goals try exact auP
  all_goals refine auV ?_
  all_goals try exact z_
  all_goals try simp only [hsM] at *
  all_goals rfl
 rw [he] at hr
 dsimp only [dPE,dP,rdP,Pk.enc] at hr
 have b8:=xC s 8
 have b9:=xC s 9
 have hw8:=zo s 8
 have hw10:=zo s 10
 have hwd:=YL s
 unfold tj
 rw [if_neg (not_not_intro h0)]
 generalize mkS (List.take (hN s-20) (List.drop 20 s))=T1 at hr
 generalize mkS (List.take ((z3 s 2).toNat-hN s) (List.drop (hN s) s))=T2 at hr
 generalize z3 s 4=g4 at hr
 generalize z3 s 6 % 8192=g6 at hr
 generalize decide (z3 s 6 / 16384=1)=g7 at hr
 generalize decide (z3 s 6 / 8192 % 2=1)=g8 at hr
 by_cases h2:bN s 8<2
 ·rw [if_pos h2]
  refine z4 {} 0 Tryd.func39 fun Γ hW=>auC ?_
  repeat' first|refine auS ?_|(first|(with_reducible refine z0 hr ?_))|refine auD ?_|(refine auW ?_ ?_<;>intro h<;>try exact auH)|fail
  all_goals try exact auP
  all_goals refine auV ?_
  all_goals try exact z_
  all_goals try simp only [hsM] at *
  all_goals rfl
 rw [if_neg h2]
 have e8:(mkS s).extract 0 8=mkS (s.take 8):=by rw [xj];rfl
 have ew:(mkS s).extract 12 (z3 s 2).toNat=mkS ((s.drop 12).take ((z3 s 2).toNat-12)):=xj _ _ _
 have q1:=yh s 8 (by omega) (by omega) 8 rfl
 have q2:=yh s 10 (by omega) (by omega) 10 rfl
 have q3:=yh s 2 (by omega) (by omega) 2 rfl
 have q4:=xM (z3 s 8-256)
 have q5:=xM (nz s)
 have w1:IntKind.u16.wrap (z3 s 8)=z3 s 8:=by rw [pC];omega
 have w2:IntKind.u16.wrap (z3 s 10)=z3 s 10:=by rw [pC];omega
 have w3:IntKind.i64.wrap (((bN s 8:Nat):Int)-1)=(bN s 8:Nat)-1:=IntWalk.i64_in _ (by omega)
 have w4:IntKind.u16.wrap (bits .or .i64 (IntKind.i64.wrap ((((bN s 8:Nat):Int)-1)*2 ^ min 8 IntKind.i64.bits)) (bN s 9:Nat))=z3 s 8-256:=by
  have m8:min 8 IntKind.i64.bits=8:=rfl
  rw [m8,IntWalk.i64_in _ (by omega),sZ 8 _ _ (by omega) (by omega) (by omega) (by omega) (by omega) (by omega),pC]
  omega
 have w5:IntKind.i64.wrap (z3 s 8-256)=z3 s 8-256:=IntWalk.i64_in _ (by omega)
 have q6:=oq (z3 s 10) (z3 s 8) (z3 s 8-256) (by omega) (by omega) (by omega)
 have hcb:0≤nz s∧nz s≤65535:=by
  have:=xD (65535-z3 s 10+(65535-z3 s 8)+(z3 s 8-256)) (by omega)
  unfold nz
  omega
 have w6:IntKind.i64.wrap (nz s)=nz s:=IntWalk.i64_in _ (by omega)
 have w7:=w6
 have q7:=q6
 unfold cO
 change zf Tryd.prog _ _ (.v (.int .u16 (nz s))) at q6
 generalize nz s=C at *
 generalize z3 s 2=al at *
 generalize z3 s 10=c10 at *
 refine z4 {} 0 Tryd.func39 fun Γ hW=>auC ?_
 repeat' first|refine auS ?_|(first|(simp only [zk,e8,ew,w1,w2,w3,w4,w5,w6,w7])|(with_reducible refine z0 hr ?_)|(with_reducible refine z0 q1 ?_)|(with_reducible refine z0 q2 ?_)|(with_reducible refine z0 q3 ?_)|(with_reducible refine z0 q4 ?_)|(with_reducible refine z0 q5 ?_)|(with_reducible refine z0 q6 ?_)|(with_reducible refine z0 q7 ?_))|refine auD ?_|(refine auW ?_ ?_<;>intro h<;>try exact auH)|(first|(refine za (by simp only [z5,List.length_take,List.length_drop,List.length_append,yA];omega) ?_)|(refine za (by omega) ?_)|fail)
 all_goals try exact auP
 all_goals refine auV ?_
 all_goals try exact z_
 all_goals try simp only [hsM] at *
end Go.Proofs.YtmibknbmhcnemaaDoor.H
namespace Go.Proofs.YtmibknbmhcnemaaDoor
def r6 (u:Hs) (a now n:Int):List Mt×Bool:=
 match u.ms.find? (fun m=>decide (m.ad=a)) with
 |some m0=>(u.ms.filter (fun m=>!decide (m.ad=a))++[rF a m0 now n],rG m0 now n)
 |none=>(u.ms.drop (u.ms.length-63)++[rF a ⟨a,u.p.ra,u.p.mo,u.p.mo,now⟩ now n],rG ⟨a,u.p.ra,u.p.mo,u.p.mo,now⟩ now n)
theorem fR {a b c d:Int} (h:n6 a b c d=0):a=0∧b=0∧c=0∧d=0:=by
 unfold n6 at h
 split at h
 ·exact absurd h (by assumption)
 ·split at h
  ·exact absurd h (by assumption)
  ·split at h
   ·exact absurd h (by assumption)
   ·exact ⟨by simp_all,by simp_all,by simp_all,h⟩
theorem gx {u:Hs} (h:oT u=0):R.plE u.p=0∧T.zV u.tr=0∧jK u.n=0∧qZ u=true∧y9 (vS u.p.ra u.p.mo) [] u.ms=true:=by
 rw [gE] at h
 obtain ⟨h1,h2,h3,h4⟩:=fR h
 refine ⟨h1,h2,h3,?_⟩
 unfold mtE at h4
 split at h4
 ·rename_i q
  rw [Bool.and_eq_true] at q
  exact q
 ·cases h4
theorem aE {u:Hs} (h:qZ u=true):u.ms.length≤64:=by
 unfold qZ at h
 rw [Bool.and_eq_true,decide_eq_true_eq] at h
 exact h.1
theorem pu {ra mo:Int} {l:List Mt} (hg:y9 (vS ra mo) [] l=true) {i:Nat} {m:Mt} (hi:l[i]?=some m):B.vW m.ra m.mo m.hs m.tm=0∧m.ra=ra∧m.mo=mo∧∀y∈l.take i,y.tm≤m.tm∧¬y.ad=m.ad:=by
 have h:=tS hg hi
 unfold vS at h
 simp only [Bool.and_eq_true,decide_eq_true_eq,List.all_eq_true,Bool.not_eq_true',decide_eq_false_iff_not,List.nil_append] at h
 exact ⟨h.1,h.2.1,h.2.2.1,fun y hy=>⟨by have:=(h.2.2.2 y hy).1;omega,(h.2.2.2 y hy).2⟩⟩
theorem gF {ra mo:Int} {l:List Mt} (hg:y9 (vS ra mo) [] l=true) {m:Mt} (hm:m∈l):m.tm≤va l∧0≤va l:=by
 obtain ⟨i,hi⟩:=List.mem_iff_getElem?.1 hm
 have hil:=(List.getElem?_eq_some_iff.1 hi).1
 obtain ⟨z,hz⟩:∃z,l[l.length-1]?=some z:=⟨_,List.getElem?_eq_getElem (by omega)⟩
 have h1:va l=z.tm:=by unfold va;rw [hz]
 obtain ⟨g1,g2,g3,g4⟩:=pu hg hz
 have hb:=B.sm g1
 rw [h1]
 refine ⟨?_,by omega⟩
 by_cases e:i=l.length-1
 ·rw [e,hz] at hi
  rw [Option.some.inj hi]
  exact Int.le_refl _
 ·exact (g4 m (List.mem_iff_getElem?.2 ⟨i,by rw [List.getElem?_take,if_pos (by omega)];exact hi⟩)).1
theorem kw {ra mo:Int} {l:List Mt} (hg:y9 (vS ra mo) [] l=true):0≤va l:=by
 cases l with
 |nil=>exact Int.le_refl 0
 |cons x r=>exact (gF hg (List.mem_cons_self (a:=x) (l:=r))).2
theorem bh {r m now:Int} (h1:0≤r∧r≤1000000) (h2:1≤m∧m≤1000000000) (h3:0≤now∧now≤1099511627776):B.vW r m m now=0:=by
 unfold B.vW
 rw [if_neg (by omega),if_neg (by omega)]
theorem je {r m x a now n:Int} (h:B.vW r m x a=0) (h1:a≤now∧now≤1099511627776) (h2:0≤n∧n≤1000000000):B.wR r m x a now n=0:=by
 unfold B.wR
 rw [if_neg (not_not_intro h),if_neg (by omega)]
theorem Y0 {p:R.Pl} (h:R.plE p=0):(0≤p.ra∧p.ra≤1000000)∧(1≤p.mo∧p.mo≤1000000000)∧R.sC p.rs=0:=by
 unfold R.plE at h
 split at h
 ·rename_i q
  unfold R.Ya at q
  simp only [Bool.and_eq_true,decide_eq_true_eq] at q
  exact ⟨q.2.2.2.1,q.2.2.2.2,h⟩
 ·cases h
theorem au {ra mo:Int} {l:List Mt} (hg:y9 (vS ra mo) [] l=true) {i:Nat} {m:Mt} (hi:l[i]?=some m):l.filter (fun x=>!decide (x.ad=m.ad))=l.take i++l.drop (i+1):=by
 have hil:=(List.getElem?_eq_some_iff.1 hi).1
 have e:l=l.take i++m::l.drop (i+1):=by
  conv=>lhs;rw [←List.take_append_drop i l,List.drop_eq_getElem_cons hil,show l[i]=m from Option.some.inj ((List.getElem?_eq_getElem hil).symm.trans hi)]
 have h1:(l.take i).filter (fun x=>!decide (x.ad=m.ad))=l.take i:=List.filter_eq_self.2 (fun y hy=>by simp [((pu hg hi).2.2.2 y hy).2])
 have h2:(l.drop (i+1)).filter (fun x=>!decide (x.ad=m.ad))=l.drop (i+1):=List.filter_eq_self.2 (fun y hy=>by
  obtain ⟨j,hj⟩:=List.mem_iff_getElem?.1 hy
  rw [List.getElem?_drop] at hj
  have hm:m∈l.take (i+1+j):=List.mem_iff_getElem?.2 ⟨i,by rw [List.getElem?_take,if_pos (by omega)];exact hi⟩
  have:=((pu hg hj).2.2.2 m hm).2
  simp only [Bool.not_eq_true',decide_eq_false_iff_not]
  exact fun q=>this q.symm)
 conv=>lhs;rw [e]
 rw [List.filter_append,h1,List.filter_cons,if_neg (by simp),h2]
theorem kN (u:Hs) (hE:oT u=0) (f:Fl) (t:List UInt8) (now:Int) (hn:tM u≤now∧now≤1099511627776) (ht:t.length≤65535) (n m:Nat) :
  wU Tryd.prog 40 [.ptr 0 n 23 0 0] [some ⟨n,23,[wkR u (.sl 1 m 5 0 u.ms.length false) f t now]⟩,some ⟨m,5,u.ms.map Mt.enc⟩] 1 (fun q d H=>d=.v (.bool (r6 u f.fr now (t.length:Nat)).2)∧H=ZC u f t now n q (r6 u f.fr now (t.length:Nat)).1):=by
 obtain ⟨hp,-,-,hf,hg⟩:=gx hE
 have hl:=aE hf
 have hl':u.ms.length≤maxLen:=by unfold maxLen;omega
 have hll:va u.ms≤now:=by unfold tM at hn;omega
 have h0:=kw hg
 obtain ⟨hra,hmo,-⟩:=Y0 hp
 unfold r6
 rcases A.qT (fun m:Mt=>decide (m.ad=f.fr)) u.ms with ⟨q1,q2⟩|⟨i,m0,q1,q2,q3⟩
 ·rw [q2]
  dsimp only
  have he:B.wR u.p.ra u.p.mo u.p.mo now now (t.length:Nat)=0:=je (bh hra hmo (by omega)) (by omega) (by omega)
  by_cases h64:u.ms.length=64
  ·rw [show u.ms.length-63=1 by omega]
   exact Yj u f t now hl' ⟨f.fr,u.p.ra,u.p.mo,u.p.mo,now⟩ rfl rfl rfl rfl q1 h64 he n m
  ·rw [show u.ms.length-63=0 by omega,List.drop_zero]
   exact bW u f t now hl' ⟨f.fr,u.p.ra,u.p.mo,u.p.mo,now⟩ rfl rfl rfl rfl q1 (by omega) he n m
 ·rw [q3]
  dsimp only
  have hb:=pu hg q1
  have hm:m0.ad=f.fr:=by have:=List.find?_some q3;simpa using this
  have ht0:=gF hg (List.mem_of_getElem? q1)
  rw [←hm,au hg q1,hm]
  exact Y1 u f t now hl' i m0 q1 q2 hl (je hb.1 (by omega) (by omega)) n m
theorem pB {tm:Env} {T:HL} {g n m len:Nat} (u:Hs) (f:Fl) (t:List UInt8) (now:Int) (xs:List (List DV)):Le ⟨tm,some ⟨n,23,[wkR u (.sl 1 m 5 0 len false) f t now]⟩::some ⟨m,5,xs⟩::T,g⟩ ⟨tm,some ⟨n,23,[wkR u (.sl 4 g 5 0 len false) f t now]⟩::some ⟨g,5,xs⟩::T,g+1⟩:=by
 refine eS (st:=⟨tm,some ⟨n,23,[wkR u (.sl 1 m 5 0 len false) f t now]⟩::some ⟨m,5,xs⟩::T,g⟩) (fun _=>m) 1 (fun k p hk=>?_)
 match k,hk with
 |0,hk=>
  obtain rfl:=Option.some.inj hk
  refine ⟨_,rfl,.inr ⟨.inl rfl,Nat.succ_pos _,rfl,rfl,fun i y hy=>?_⟩⟩
  match i,hy with
  |0,hy=>
   obtain rfl:=Option.some.inj hy
   refine ⟨_,rfl,rfl,fun j e he=>?_⟩
   by_cases hj:j=8
   ·subst hj
    obtain rfl:=Option.some.inj he
    exact ⟨_,rfl,.inr ⟨0,1,4,5,0,len,false,Nat.zero_lt_one,rfl,rfl⟩⟩
   ·have e1:wkR u (.sl 4 g 5 0 len false) f t now=(wkR u (.sl 1 m 5 0 len false) f t now).set 8 (.sl 4 g 5 0 len false):=rfl
    rw [e1,List.getElem?_set_ne (fun q=>hj q.symm)] at he
    exact ⟨e,he,.inl rfl⟩
  |i+1,hy=>simp at hy
 |1,hk=>
  obtain rfl:=Option.some.inj hk
  exact ⟨_,rfl,.inr ⟨.inr ⟨0,Nat.zero_lt_one,rfl,rfl⟩,Nat.succ_pos _,rfl,rfl,fun i y hy=>⟨y,hy,rfl,fun j e he=>⟨e,he,.inl rfl⟩⟩⟩⟩
 |k+2,hk=>exact ⟨p,hk,.inl rfl⟩
def goR (u:Hs) (inside:Bool) (s:List UInt8) (now:Int):Hs×Fl×List UInt8×List UInt8×Int:=
 if (edR s).2≠0 then (u,(edR s).1,[],[],1)
 else if inside=false∧(edR s).1.to≠u.p.ou then (u,(edR s).1,[],[],4)
 else if (H.tj s).2≠0 then (u,(edR s).1,(H.tj s).1,[],2)
 else
  let m:=r6 u (edR s).1.fr now ((H.tj s).1.length:Nat)
  if m.2=false then ({ u with ms:=m.1 },(edR s).1,(H.tj s).1,[],3)
  else if inside then
   let r:=um u (edR s).1 (H.tj s).1 now
   ({ u with ms:=m.1,tr:=r.1,n:=r.2.1 },(edR s).1,(H.tj s).1,r.2.2.1,r.2.2.2)
  else
   let r:=uN u (edR s).1 (H.tj s).1 now
   ({ u with ms:=m.1,tr:=r.1 },(edR s).1,(H.tj s).1,r.2.1,r.2.2)
abbrev goH (r:Hs×Fl×List UInt8×List UInt8×Int) (now:Int) (n q:Nat):HL:=[some ⟨n,23,[wkR r.1 (.sl 4 q 5 0 r.1.ms.length false) r.2.1 r.2.2.1 now]⟩,none,some ⟨q,5,r.1.ms.map Mt.enc⟩]
theorem Yn {s:List UInt8} (h:(edR s).2=0):Y8 (edR s).1:=by
 unfold edR at h ⊢
 split at h
 ·rename_i h1
  rw [if_pos h1]
  have b1:0≤(rdP s).fr∧(rdP s).fr<4294967296:=uc _ _
  have b2:0≤(rdP s).to∧(rdP s).to<4294967296:=uc _ _
  unfold edP at h ⊢
  generalize rdP s=p at *
  split at h
  ·cases h
  rename_i h2
  rw [if_neg h2]
  split at h
  ·cases h
  rename_i h3
  rw [if_neg h3]
  split at h
  ·rename_i h4
   rw [if_pos h4]
   split at h
   ·rename_i h5
    rw [if_pos h5]
    exact ⟨.inl rfl,b1,b2⟩
   ·rename_i h5
    exact absurd h h5
  ·rename_i h4
   rw [if_neg h4]
   split at h
   ·rename_i h5
    rw [if_pos h5]
    exact ⟨.inr rfl,b1,b2⟩
   ·rename_i h5
    exact absurd h h5
 ·rename_i h1
  exact absurd h h1
end Go.Proofs.YtmibknbmhcnemaaDoor
