import Derived.Test.YtaiileiodjicpaaGreatDoorTt04
set_option linter.unusedVariables false
set_option linter.unusedSimpArgs false
namespace Go.Proofs.YtaiileiodjicpaaGreatDoor
def UA (g:Nat) (f:Nat→Nat) (c:Nat) (d e:DV):Prop:=e=d∨∃j k k' sz lo len full,j<c∧d=.sl k (f j) sz lo len full∧e=.sl k' (g+j) sz lo len full
def UZ (g:Nat) (f:Nat→Nat) (c:Nat) (o p:zj):Prop:=p=o∨((p.n=o.n∨∃j,j<c∧p.n=g+j∧o.n=f j)∧0<o.sz∧p.sz=o.sz∧p.xs.length=o.xs.length∧
 ∀(i:Nat) (y:List DV),p.xs[i]?=some y→∃x,o.xs[i]?=some x∧y.length=x.length∧∀(t:Nat) (e:DV),y[t]?=some e→∃d,x[t]?=some d∧UA g f c d e)
theorem iv {st:St} {H':HL} (f:Nat→Nat) (c:Nat) (h:∀k p,zd H' k=some p→∃o,zd st.H k=some o∧UZ st.gen f c o p):Le st ⟨st.tm,H',st.gen+c⟩:=by
 intro Γ N K a w hR
 have hI:=hR.inv
 have hlt:=hR.fresh
 let K':Kr:=⟨fun n=>K.dom n∨(st.gen≤n∧n<st.gen+c),fun n=>K.real n∨(st.gen≤n∧n<st.gen+c∧K.real (f (n-st.gen))),fun n=>if st.gen≤n∧n<st.gen+c then K.μ (f (n-st.gen)) else K.μ n,K.M⟩
 have hμ:∀n,K.dom n→K'.μ n=K.μ n:=fun n hn=>if_neg (by have:=hlt n hn;omega)
 have hre:∀n,K.dom n→K'.real n→K.real n:=fun n hn hr=>by
  rcases hr with hr|⟨h1,h2,-⟩
  ·exact hr
  ·have:=hlt n hn
   omega
 have hμj:∀j,j<c→K'.μ (st.gen+j)=K.μ (f j):=fun j hj=>by
  have:K'.μ (st.gen+j)=K.μ (f (st.gen+j-st.gen)):=if_pos (by omega)
  rw [this,Nat.add_sub_cancel_left]
 have hrj:∀j,j<c→(K'.real (st.gen+j)↔K.real (f j)):=fun j hj=>by
  constructor
  ·rintro (hr|⟨-,-,hr⟩)
   ·have:=hlt _ (hI.dr _ hr)
    omega
   ·rwa [Nat.add_sub_cancel_left] at hr
  ·intro hr
   exact .inr ⟨by omega,by omega,by rwa [Nat.add_sub_cancel_left]⟩
 have hm:yF K w K' w:=⟨Ext.refl _ _,fun n hn=>⟨.inl hn,hμ n (hI.dr n hn)⟩,fun g _ hg=>hg⟩
 have hA:∀k p,zd H' k=some p→∃o,zd st.H k=some o∧(K'.real p.n↔K.real o.n)∧K'.μ p.n=K.μ o.n∧K'.dom p.n:=fun k p hp=>by
  obtain ⟨o,ho,hn⟩:=h k p hp
  refine ⟨o,ho,?_⟩
  have hd:=hI.dobj k o ho
  have hsame:p.n=o.n→(K'.real p.n↔K.real o.n)∧K'.μ p.n=K.μ o.n∧K'.dom p.n:=fun e=>by
   rw [e]
   exact ⟨⟨hre _ hd,.inl⟩,hμ _ hd,.inl hd⟩
  rcases hn with rfl|⟨e|⟨j,hj,e1,e2⟩,-⟩
  ·exact hsame rfl
  ·exact hsame e
  ·rw [e1,e2]
   exact ⟨hrj j hj,hμj j hj,.inr ⟨by omega,by omega⟩⟩
 refine ⟨K',⟨⟨hI.ext,⟨fun n hn=>?_,fun n hn h0=>?_,fun n hn=>?_,hI.base.M⟩,fun k p hp=>?_,fun k k' p p' h1 h2 r1 r2 e=>?_,fun n hn=>?_,fun n hn=>?_,fun k p hp=>?_,fun k p hp hr=>?_,hI.gl⟩,fun n hn=>?_,Nat.le_trans hR.g0 (Nat.le_add_right _ _),hR.size,hR.defers,fun s=>(hR.tm s).mono hm⟩⟩
 ·rcases hn with hn|hn
  ·exact hI.base.dom n hn
  ·exact .inr (Nat.le_trans hR.g0 hn.1)
 ·rcases hn with hn|hn
  ·exact hI.base.old n hn h0
  ·have:=hR.g0
   omega
 ·have:=hI.base.keep n hn
  exact ⟨.inl this.1,(hμ n (hI.dr n this.1)).trans this.2⟩
 ·obtain ⟨o,ho,hn⟩:=h k p hp
  obtain ⟨o',ho',hr1,hm1,-⟩:=hA k p hp
  obtain rfl:o'=o:=Option.some.inj (ho'.symm.trans ho)
  have hO:=hI.obj k o' ho
  rcases hn with rfl|⟨-,hz,hsz,hln,hrow⟩
  ·exact hO.mono hm (fun q q2=>q (hr1.1 q2)) (fun _=>rfl)
  ·rcases hO with ⟨q1,q2⟩|⟨q1,cs,t,fr,q2,q3,q4,q5,q6⟩|⟨-,q,-⟩
   ·refine .inl ⟨fun q=>q1 (hr1.1 q),List.length_eq_zero_iff.1 ?_⟩
    rw [hln,q2]
    rfl
   ·refine .inr (.inl ⟨hr1.2 q1,cs,t,fr,by rw [hsz];exact q2,by rw [hm1];exact q3,by rw [hln,hsz];exact q4,fun y hy=>?_,fun i y t' e hy he=>?_⟩)
    ·obtain ⟨i,hi⟩:=List.mem_iff_getElem?.1 hy
     obtain ⟨x,hx,hl,-⟩:=hrow i y hi
     rw [hl,hsz]
     exact q5 x (List.mem_of_getElem? hx)
    ·obtain ⟨x,hx,-,hc⟩:=hrow i y hy
     obtain ⟨d,hd,hcell⟩:=hc t' e he
     obtain ⟨v,hv,hvr⟩:=q6 i x t' d hx hd
     refine ⟨v,by rw [hsz];exact hv,?_⟩
     rcases hcell with rfl|⟨j,k1,k2,sz,lo,len,full,hj,rfl,rfl⟩
     ·exact hvr.mono hm
     ·cases hvr with
      |sl hlc hf hh=>
       refine .sl hlc hf ?_
       rcases hh with hh|⟨a1,a2,cs',t',fr',a3,a4⟩
       ·exact .inl hh
       ·exact .inr ⟨(hrj j hj).2 a1,by rw [hμj j hj];exact a2,cs',t',fr',by rw [hμj j hj];exact a3,a4⟩
   ·omega
 ·obtain ⟨o,ho,q1,q2,-⟩:=hA k p h1
  obtain ⟨o',ho',z1,z2,-⟩:=hA k' p' h2
  exact hI.inj k k' o o' ho ho' (q1.1 r1) (z1.1 r2) (q2.symm.trans (e.trans z2))
 ·rcases hn with hn|hn
  ·exact .inl (hI.dr n hn)
  ·exact .inr ⟨hn.1,hn.2.1⟩
 ·rcases hn with hn|⟨h1,h2,h3⟩
  ·rw [hμ n (hI.dr n hn)]
   exact hI.lt n hn
  ·have:K'.μ n=K.μ (f (n-st.gen)):=if_pos ⟨h1,h2⟩
   rw [this]
   exact hI.lt _ h3
 ·obtain ⟨o,ho,-,-,q⟩:=hA k p hp
  exact q
 ·obtain ⟨o,ho,q1,q2,-⟩:=hA k p hp
  rw [q2]
  exact hI.own k o ho (q1.1 hr)
 ·rcases hn with hn|hn
  ·have:=hlt n hn
   show n<st.gen+c
   omega
  ·exact hn.2
theorem fb {P:Program} {f:FuncId} {ds ds':List DV} {H0:HL} {c:Nat} {R:Nat→DV→HL→Prop} (h:xt P f ds' H0 c R) (hd:∀K w vs,zA K w ds vs→zA K w ds' vs):xt P f ds H0 c R:=
 ⟨h.1,fun K w vs g0 hI hlt ha=>h.2 K w vs g0 hI hlt (hd _ _ _ ha)⟩
theorem kJ {P:Program} {f:FuncId} {n sz i j c:Nat} {ds:List DV} {H0:HL} {R:Nat→DV→HL→Prop} (k:Nat) (h:xt P f (.ptr 0 n sz i j::ds) H0 c R):xt P f (.ptr k n sz i j::ds) H0 c R:=
 fb h (fun K w vs ha=>s7 (fun v hv=>vS hv) ha)
end Go.Proofs.YtaiileiodjicpaaGreatDoor
