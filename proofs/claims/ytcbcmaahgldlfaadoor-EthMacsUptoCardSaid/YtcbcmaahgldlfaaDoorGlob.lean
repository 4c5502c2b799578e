/-
  The package-level variables that the walks may read, and their cells.
-/
import Derived.WalkKit
namespace Go.Proofs.YtcbcmaahgldlfaaDoor
def gtab : List (Nat × List Value) :=
  []
/-- They are laid. -/
def GlobW (W : World) : Prop := ∀ (g : Nat) (cs : List Value), (g, cs) ∈ gtab → g < W.heap.size ∧ ∀ (i : Nat) (c : Value), cs[i]? = some c → W.cell? ⟨g, i, none⟩ = some c
theorem globW_nil (W : World) : GlobW W := fun g cs h => absurd h (by unfold gtab; exact List.not_mem_nil)
end Go.Proofs.YtcbcmaahgldlfaaDoor
