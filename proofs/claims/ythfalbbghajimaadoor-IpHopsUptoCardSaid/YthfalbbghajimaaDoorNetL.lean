/-
  Longs at a place of a text.
-/
import Derived.Test.YthfalbbghajimaaDoorNetX
namespace Go.Proofs.YthfalbbghajimaaDoor
set_option linter.unusedVariables false
set_option linter.unusedSimpArgs false
theorem i64_or_add (i : Nat) (x y : Int) (hx₀ : 0 ≤ x) (hx : x % 2 ^ i = 0) (hx₁ : x < 2 ^ 62) (hy₀ : 0 ≤ y) (hy : y < 2 ^ i) (hy₁ : y < 2 ^ 62) : bits .or .i64 x y = x + y :=
  bits_join .i64 62 (by decide) i64_keep62 i x y hx₀ hx hx₁ hy₀ hy hy₁
theorem u32_keep (n : Int) (h0 : 0 ≤ n) (h1 : n < 2 ^ 32) : IntKind.u32.wrap n = n := IntWalk.u32_in _ (by omega)
theorem u32_or_add (i : Nat) (x y : Int) (hx₀ : 0 ≤ x) (hx : x % 2 ^ i = 0) (hx₁ : x < 2 ^ 32) (hy₀ : 0 ≤ y) (hy : y < 2 ^ i) (hy₁ : y < 2 ^ 32) : bits .or .u32 x y = x + y :=
  bits_join .u32 32 (by decide) u32_keep i x y hx₀ hx hx₁ hy₀ hy hy₁
/-- Four bytes as a number. -/
def lgAt (l : List UInt8) (i : Nat) : Int := 65536 * wordAtI l i + wordAtI l (i + 2)
theorem lgAt_bd (l : List UInt8) (i : Nat) : 0 ≤ lgAt l i ∧ lgAt l i < 4294967296 := by
  have h1 := wordAtI_bd l i
  have h2 := wordAtI_bd l (i + 2)
  unfold lgAt; omega
theorem longAt_spec (l : List UInt8) (i : Nat) (hi : i + 2 < l.length) (hl : l.length ≤ 9223372036854775800) (ii : Int) (hii : ii = (i : Nat)) : Spec Tryd.prog 30 [.v (.string (mkS l)), .v (.int .i64 ii)] (.v (.int .u32 (lgAt l i))) := by
  subst hii
  have h1 := wordAt_spec l i (by omega) (by omega) i rfl
  have h2 := wordAt_spec l (i + 2) (by omega) (by omega) ((i : Int) + 2) (by omega)
  have b1 := wordAtI_bd l i
  have b2 := wordAtI_bd l (i + 2)
  have e0 : IntKind.i64.wrap ((i : Int) + 2) = (i : Int) + 2 := IntWalk.i64_in _ (by omega)
  have e1 : IntKind.i64.wrap (65536 * wordAtI l i) = 65536 * wordAtI l i := IntWalk.i64_in _ (by omega)
  have e2 : IntKind.i64.wrap (65536 * wordAtI l i + wordAtI l (i + 2)) = lgAt l i := IntWalk.i64_in _ (by omega)
  have e3 : IntKind.u32.wrap (lgAt l i) = lgAt l i := IntWalk.u32_in _ (by have := lgAt_bd l i; omega)
  refine hspec_fn Tryd.func30 rfl ok_custref_LongAt okr_custref_LongAt rfl (by kernel_rfl) ?_
  intro Γ hW0 hN0 hL0
  have hW := hW0 rfl
  clear hW0 hN0 hL0
  unfold x_custref_LongAt r_custref_LongAt
  refine auC ?_
  repeat' (first
    | (refine auS ?_)
    | (first | (simp only [e0, e1, e2, e3]) | (with_reducible refine runR_call h1 ?_) | (with_reducible refine runR_call h2 ?_))
    | (refine auD ?_)
    | (with_reducible refine runR_b (fun h => ?_) (fun h => ?_) <;> first | exact auH | simp only [h, runR_t, runR_f])
    | (with_reducible refine condK_bl ?_ ?_)
    | (with_reducible refine condK_b (fun h => ?_) (fun h => ?_) <;> first | exact auH | skip)
    | fail)
  (all_goals first | exact auP | skip)
  all_goals refine auF ?_
  all_goals (try first | refine auR ?_ | exact auR0)
  all_goals (try simp only [hsM] at *)
end Go.Proofs.YthfalbbghajimaaDoor
