/-
  Longs at a place of a text.
-/
import Derived.Test.YtidogmmfakcfgaaNetX
namespace Go.Proofs.Ytidogmmfakcfgaa
set_option linter.unusedVariables false
set_option linter.unusedSimpArgs false
theorem i64_or_add (i : Nat) (x y : Int) (hx₀ : 0 ≤ x) (hx : x % 2 ^ i = 0) (hx₁ : x < 2 ^ 62) (hy₀ : 0 ≤ y) (hy : y < 2 ^ i) (hy₁ : y < 2 ^ 62) : bits .or .i64 x y = x + y :=
  bits_join .i64 62 (by decide) i64_keep62 i x y hx₀ hx hx₁ hy₀ hy hy₁
theorem u32_keep (n : Int) (h0 : 0 ≤ n) (h1 : n < 2 ^ 32) : IntKind.u32.wrap n = n := IntWalk.u32_in _ (by omega)
theorem u32_or_add (i : Nat) (x y : Int) (hx₀ : 0 ≤ x) (hx : x % 2 ^ i = 0) (hx₁ : x < 2 ^ 32) (hy₀ : 0 ≤ y) (hy : y < 2 ^ i) (hy₁ : y < 2 ^ 32) : bits .or .u32 x y = x + y :=
  bits_join .u32 32 (by decide) u32_keep i x y hx₀ hx hx₁ hy₀ hy hy₁
def lgAt (l : List UInt8) (i : Nat) : Int := 65536 * wordAtI l i + wordAtI l (i + 2)
theorem lgAt_bd (l : List UInt8) (i : Nat) : 0 ≤ lgAt l i ∧ lgAt l i < 4294967296 := by
  have h1 := wordAtI_bd l i
  have h2 := wordAtI_bd l (i + 2)
  unfold lgAt; omega
end Go.Proofs.Ytidogmmfakcfgaa
