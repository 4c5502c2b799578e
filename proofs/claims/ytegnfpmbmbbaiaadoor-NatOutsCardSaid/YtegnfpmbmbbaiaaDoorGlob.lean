/-
  The package-level variables that the walks may read, and their cells.
-/
import Derived.WalkKit
namespace Go.Proofs.YtegnfpmbmbbaiaaDoor
def deBrN : List Nat := [0, 1, 56, 2, 57, 49, 28, 3, 61, 58, 42, 50, 38, 29, 17, 4, 62, 47, 59, 36, 45, 43, 51, 22, 53, 39, 33, 30, 24, 18, 12, 5, 63, 55, 48, 27, 60, 41, 37, 16, 46, 35, 44, 21, 52, 32, 23, 11, 54, 26, 40, 15, 34, 20, 31, 10, 25, 14, 19, 9, 13, 8, 7, 6]
def deBrL : List Value := deBrN.map (fun (n : Nat) => .int .u8 (n : Int))
def gtab : List (Nat × List Value) :=
  (0, deBrL) ::
  []
/-- They are laid. -/
def GlobW (W : World) : Prop := ∀ (g : Nat) (cs : List Value), (g, cs) ∈ gtab → g < W.heap.size ∧ ∀ (i : Nat) (c : Value), cs[i]? = some c → W.cell? ⟨g, i, none⟩ = some c
end Go.Proofs.YtegnfpmbmbbaiaaDoor
