import Derived.Test.YtaiileiodjicpaaGreatDoorTt04
set_option linter.unusedVariables false
set_option linter.unusedSimpArgs false
namespace Go.Proofs.YtaiileiodjicpaaGreatDoor
section
variable {P:Program} {F:List XOp→St→List Rec→Prop} {r:List XOp} {st:St} {dst:Option Sl} {tr:List Rec}
theorem zx {f:FuncId} {ds:List DV} {c:Nat} {D:Nat→DV} {H0:HL} {H1:Nat→HL} (ks ns kn:List Nat) (hkn:ks++ns=kn) (hns:kn.Nodup) (hl:(H1 st.gen).length=kn.length) (hk:yO st.H ks=H0) (h1:xt P f ds H0 c (fun n d H=>d=D n∧H=H1 n)) (h2:F r ⟨uh st.tm dst (D st.gen),xu st.H (v8 kn (H1 st.gen)),st.gen+c⟩ (⟨kn,kn⟩::tr)):zF P F r st dst tr (.call f ds):=by
 subst hk hkn
 exact .inr (.inr ⟨ks,ns,ds,c,D,H1,fun _ _ _ h=>h,hns,hl,h1,h2⟩)
theorem zt {f:FuncId} {ds:List DV} {D:DV} {H0 H1:HL} (ks:List Nat) (hns:ks.Nodup) (hl:H1.length=ks.length) (hk:yO st.H ks=H0) (h1:zE P f ds H0 (fun d H=>d=D∧H=H1)) (h2:F r ⟨uh st.tm dst D,xu st.H (v8 ks H1),st.gen⟩ (⟨ks,ks⟩::tr)):zF P F r st dst tr (.call f ds):=by
 subst hk
 exact .inl ⟨ks,ds,D,H1,fun _ _ _ h=>h,hns,hl,h1,h2⟩
end
theorem co {st:St} (j k sz s:Nat) (hjk:j≠k) {n:Nat} {x y:List DV} (hp:zd st.H j=some ⟨n,s,[x]⟩) (f1:x.length=y.length) (f2:∀(i:Nat) (d d':DV),x[i]?=some d→y[i]?=some d'→d'=d∨(d=.v (.slice none 0 0)∧∃k',d'=.sl k' st.gen sz 0 0 false)) (hpz:0<s):Le st ⟨st.tm,y4 (y4 st.H j (some ⟨n,s,[y]⟩)) k (some ⟨st.gen,sz,[]⟩),st.gen+1⟩:=by
 intro Γ N K a w hR
 have hg:¬K.dom st.gen:=fun h=>absurd (hR.fresh _ h) (Nat.lt_irrefl _)
 have h1:=p8 (k:=k) (sz:=sz) hR.inv hg hR.g0
 have hm:=tG K w st.gen
 have hp1:(fun q=>if q=k then some (⟨st.gen,sz,[]⟩:zj) else zd st.H q) j=some ⟨n,s,[x]⟩:=by
  show (if j=k then _ else _)=_
  rw [if_neg hjk]
  exact hp
 have hor:qK (K.addv st.gen) w ⟨n,s,[y]⟩:=by
  rcases (h1.obj j _ hp1).two (fun hm=>by have:=hm.2.1;simp only at this;omega) with ⟨u1,u2⟩|⟨u1,cs,t,frz,nfz,u2,u3,u4,u5⟩
  ·cases u2
  ·refine .inr (.inl ⟨u1,cs,t,frz,nfz,u2,u3,fun q hq=>?_,fun i q jj d hq hd=>?_⟩)
   ·simp at hq
    rw [hq,←f1]
    exact u4 x (by simp)
   ·cases i with
    |succ i=>simp at hq
    |zero=>
     simp at hq
     subst hq
     have hj':jj<x.length:=by rw [f1];exact (List.getElem?_eq_some_iff.1 hd).1
     obtain ⟨c,c1,c2⟩:=u5 0 x jj _ rfl (List.getElem?_eq_getElem hj')
     refine ⟨c,c1,?_⟩
     rcases f2 jj _ d (List.getElem?_eq_getElem hj') hd with e|⟨e1,T,e2⟩
     ·rw [e];exact c2
     ·rw [e1] at c2
      rw [e2,zq c2]
      exact .sl (Nat.le_refl _) (fun h=>by cases h) (.inl rfl)
 have h2:=dY h1 hp1 hor
 refine ⟨K.addv st.gen,?_,fun m h=>?_,Nat.le_succ_of_le hR.g0,hR.size,hR.defers,fun q=>(hR.tm q).mono hm⟩
 ·have e:zd (y4 (y4 st.H j (some ⟨n,s,[y]⟩)) k (some ⟨st.gen,sz,[]⟩))=fun q=>if q=j then some (⟨n,s,[y]⟩:zj) else (fun q=>if q=k then some (⟨st.gen,sz,[]⟩:zj) else zd st.H q) q:=by
   funext q
   rw [zY,zY]
   by_cases e1:q=k
   ·rw [if_pos e1,if_neg (fun e2=>hjk (e2.symm.trans e1))]
    exact (if_pos e1).symm
   ·rw [if_neg e1]
    by_cases e2:q=j
    ·rw [if_pos e2,if_pos e2]
    ·rw [if_neg e2,if_neg e2]
     exact (if_neg e1).symm
  show Inv Γ _ (zd (y4 (y4 st.H j _) k _)) w
  rw [e]
  exact h2
 ·rcases h with h|h
  ·have:=hR.fresh m h
   show m<st.gen+1
   omega
  ·show m<st.gen+1
   omega
theorem zy (f:FuncId) {P:Program} {F:List XOp→St→List Rec→Prop} {r:List XOp} {st:St} {dst:Option Sl} {tr:List Rec} {ds:List DV} (h:zF P F r st dst tr (.call f ds)):zF P F r st dst tr (.call f ds):=h
theorem pk {Γ:Gm} {P:Program} {N:Nat} {R:St→Prop} {x:XC} {k:List KI} {st:St} (h:Go Γ P N R x k st):Go Γ P N R x k st:=h
theorem atN {P:Program} {F:List XOp→St→List Rec→Prop} {r:List XOp} {st:St} {dst:Option Sl} {tr:List Rec} {p:Prop} {x:Res} (h:zF P F r st dst tr (.need p x)):zF P F r st dst tr (.need p x):=h
end Go.Proofs.YtaiileiodjicpaaGreatDoor
