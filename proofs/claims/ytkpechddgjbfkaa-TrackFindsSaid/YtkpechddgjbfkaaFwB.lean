/-
  A symbolic walk over any program: states between pieces of code; what came later.
-/
import Derived.Test.YtkpechddgjbfkaaFw
namespace Go.Proofs.Ytkpechddgjbfkaa
set_option linter.unusedVariables false
set_option linter.unusedSimpArgs false
/-!  A symbolic walk over any program, part 16: a state between two pieces of code, of a family. -/

section
variable {Γ : Gm} {P : Program} {N : Nat} {R : St → Prop} {k : List KI} {st : St}
theorem WX.mono {x : XC} {Q Q' : Exit → St → Prop} (h : WX Γ P N x Q st) (hq : ∀ e s, Q e s → Q' e s) : WX Γ P N x Q' st := fun c hc => (h c hc).mono hq
/-- The first piece comes to a state of the family; the second goes on from any of these. -/
theorem go_mid {α : Type} (f : α → St) (pre : α → Prop) {x y : XC} (h1 : Go Γ P N R x (.loop (fun s => ∃ a, pre a ∧ Le s (f a)) :: k) st) (h2 : ∀ a, pre a → Go Γ P N R y k (f a)) : Go Γ P N R (.seq x y) k st := by
  refine go_seq (WX.mono h1 ?_)
  intro e s he
  cases e with
  | normal =>
    obtain ⟨a, ha, hle⟩ := he
    exact go_le hle (h2 a ha)
  | exit i => exact he
  | ret => exact he
  | goto l => exact he
  | panic ch => exact he
  | outgrown => exact he
theorem go_seqR {xs : List XOp} {y : XC} (h : Go Γ P N R (.region xs) (.code y :: k) st) : Go Γ P N R (.seq (.region xs) y) k st := go_seq h
theorem go_seqD {ps : List Nat} {xs : List XOp} {y : XC} (h : Go Γ P N R (.regionD ps xs) (.code y :: k) st) : Go Γ P N R (.seq (.regionD ps xs) y) k st := go_seq h
theorem go_seqB {i : Nat} {x y : XC} (h : Go Γ P N R (.block i x) (.code y :: k) st) : Go Γ P N R (.seq (.block i x) y) k st := go_seq h
theorem go_seqL {xs : List XOp} {i : Nat} {x y : XC} (h : Go Γ P N R (.seq (.region xs) (.block i x)) (.code y :: k) st) : Go Γ P N R (.seq (.seq (.region xs) (.block i x)) y) k st := go_seq h
theorem go_midH {α : Type} (sl : α → List (Sl × DV)) (ho : α → List (Nat × Option AObj)) (gn : α → Nat) (pre : α → Prop) {x y : XC}
    (h1 : Go Γ P N R x (.loop (fun s => ∃ a, pre a ∧ Le s ⟨setsE (havE st.tm (writesX x)) (sl a), updL st.H (ho a), gn a⟩) :: k) st)
    (h2 : ∀ a, pre a → Go Γ P N R y k ⟨setsE (havE st.tm (writesX x)) (sl a), updL st.H (ho a), gn a⟩) : Go Γ P N R (.seq x y) k st :=
  go_mid (fun a => ⟨setsE (havE st.tm (writesX x)) (sl a), updL st.H (ho a), gn a⟩) pre h1 h2
end
end Go.Proofs.Ytkpechddgjbfkaa
