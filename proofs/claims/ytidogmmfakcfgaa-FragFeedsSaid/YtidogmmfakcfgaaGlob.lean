/-
  The package-level variables that the walks may read, and their cells.
-/
import Derived.WalkKit
namespace Go.Proofs.Ytidogmmfakcfgaa
def gtab : List (Nat × List Value) :=
  []
def IfcC (o : Option Value) : Prop := ∃ ev, o = some ev ∧ (ev = .nilIface ∨ ∃ te pe, ev = .iface te pe)
def IntC (o : Option Value) : Prop := ∃ m, o = some (.int .i64 m)
def notTup : Value → Bool
  | .tuple _ => false
  | _ => true
def MarkC : Value → Option Value → Prop
  | .tuple ⟨[]⟩, o => IfcC o
  | _, o => IntC o
def cellIs (o : Option Value) (c : Value) : Prop := (notTup c = true ∧ o = some c) ∨ (notTup c = false ∧ MarkC c o)
theorem cellIs_eq {o : Option Value} {c : Value} (h : cellIs o c) (hc : notTup c = true) : o = some c := by
  rcases h with h | h
  · exact h.2
  · rw [h.1] at hc; cases hc
theorem cellIs_ifc {o : Option Value} (h : cellIs o (.tuple #[])) (hc : notTup (.tuple #[]) = false) : IfcC o := by
  rcases h with h | h
  · rw [h.1] at hc; cases hc
  · exact h.2
theorem cellIs_int {o : Option Value} (h : cellIs o (.tuple #[.nilIface])) : IntC o := by
  rcases h with h | h
  · cases h.1
  · exact h.2
def GlobC (W : World) (g : Nat) (cs : List Value) : Prop := (∀ (i : Nat) (c : Value), cs[i]? = some c → cellIs (W.cell? ⟨g, i, none⟩) c) ∧ W.cell? ⟨g, cs.length, none⟩ = none
def GlobW (W : World) : Prop := ∀ (g : Nat) (cs : List Value), (g, cs) ∈ gtab → g < W.heap.size ∧ GlobC W g cs
theorem globW_nil (W : World) : GlobW W := fun g cs h => absurd h (by unfold gtab; exact List.not_mem_nil)
end Go.Proofs.Ytidogmmfakcfgaa
