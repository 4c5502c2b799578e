import Derived.Test.YtmibknbmhcnemaaDoorTm05
set_option linter.unusedVariables false
set_option linter.unusedSimpArgs false
namespace Go.Proofs.YtmibknbmhcnemaaDoor
section
variable {P:Program} {F:List XOp→St→List Rec→Prop} {r:List XOp} {st:St} {dst:Option Sl} {tr:List Rec}
theorem ya {f:FuncId} {ds:List DV} {c:Nat} {D:Nat→DV} {H0:HL} {H1:Nat→HL} (ks ns kn:List Nat) (hkn:ks++ns=kn) (hns:kn.Nodup) (hl:(H1 st.gen).length=kn.length) (hk:yu st.H ks=H0) (h1:wU P f ds H0 c (fun n d H=>d=D n∧H=H1 n)) (h2:F r ⟨vA st.tm dst (D st.gen),x6 st.H (wy kn (H1 st.gen)),st.gen+c⟩ (⟨kn,kn⟩::tr)):zz P F r st dst tr (.call f ds):=by
 subst hk hkn
 exact .inr (.inr ⟨ks,ns,ds,c,D,H1,fun _ _ _ h=>h,hns,hl,h1,h2⟩)
theorem zg {f:FuncId} {ds:List DV} {D:DV} {H0 H1:HL} (ks:List Nat) (hns:ks.Nodup) (hl:H1.length=ks.length) (hk:yu st.H ks=H0) (h1:zy P f ds H0 (fun d H=>d=D∧H=H1)) (h2:F r ⟨vA st.tm dst D,x6 st.H (wy ks H1),st.gen⟩ (⟨ks,ks⟩::tr)):zz P F r st dst tr (.call f ds):=by
 subst hk
 exact .inl ⟨ks,ds,D,H1,fun _ _ _ h=>h,hns,hl,h1,h2⟩
end
theorem zu (f:FuncId) {P:Program} {F:List XOp→St→List Rec→Prop} {r:List XOp} {st:St} {dst:Option Sl} {tr:List Rec} {ds:List DV} (h:zz P F r st dst tr (.call f ds)):zz P F r st dst tr (.call f ds):=h
theorem Xa {Γ:Gm} {P:Program} {N:Nat} {R:St→Prop} {x:XC} {k:List KI} {st:St} (h:Go Γ P N R x k st):Go Γ P N R x k st:=h
end Go.Proofs.YtmibknbmhcnemaaDoor
