/-
  The walks of package serial (Less, Within, Meets) and of the reference's Way, Inside, Between: what each returns, at every input.
-/
import Derived.Test.YtolbnadafelkhaaProg
import Derived.WalkKit
import Derived.Lib.Hide
import Derived.Test.YtolbnadafelkhaaSumP
namespace Go.Proofs.Ytolbnadafelkhaa
open Go.RowKit
set_option linter.unusedVariables false
set_option linter.unusedSimpArgs false


theorem way_any (a b : Int) (w : World) (ha : 0 ≤ a ∧ a ≤ 4294967295) (hb : 0 ≤ b ∧ b ≤ 4294967295) :
    Calls Try.prog 12 #[.int .u32 a, .int .u32 b] w fun e w' => e = .returned (.int .i64 ((b - a) % 4294967296)) ∧ w = w' := by
  by_cases h : b < a
  · go_enter Try.func12, Try.ntmps12
    go_wp2
    go_ret
    exact ⟨ret_int (by omega), rfl⟩
  · go_enter Try.func12, Try.ntmps12
    go_wp2
    go_ret
    exact ⟨ret_int (by omega), rfl⟩

theorem between_any (n l h : Int) (w : World) :
    Calls Try.prog 11 #[.int .i64 n, .int .i64 l, .int .i64 h] w fun e w' => e = .returned (.bool (decide (l ≤ n) && decide (n ≤ h))) ∧ w = w' := by
  by_cases h1 : l ≤ n
  · go_enter Try.func11, Try.ntmps11
    go_wp2
    go_ret
    exact ⟨ret_bool (by rw [Bool.eq_iff_iff]; simp; omega), rfl⟩
  · go_enter Try.func11, Try.ntmps11
    go_wp2
    go_ret
    exact ⟨ret_bool (by rw [Bool.eq_iff_iff]; simp; omega), rfl⟩

theorem between_yes (n l h : Int) (w : World) (h1 : l ≤ n) (h2 : n ≤ h) :
    Calls Try.prog 11 #[.int .i64 n, .int .i64 l, .int .i64 h] w fun e w' => e = .returned (.bool true) ∧ w = w' :=
  (between_any n l h w).mono fun e w' ⟨he, hw⟩ => ⟨by rw [he, decide_eq_true h1, decide_eq_true h2]; rfl, hw⟩
theorem between_low (n l h : Int) (w : World) (h1 : n < l) :
    Calls Try.prog 11 #[.int .i64 n, .int .i64 l, .int .i64 h] w fun e w' => e = .returned (.bool false) ∧ w = w' :=
  (between_any n l h w).mono fun e w' ⟨he, hw⟩ => ⟨by rw [he, decide_eq_false (by omega : ¬ l ≤ n)]; rfl, hw⟩
theorem between_high (n l h : Int) (w : World) (h1 : h < n) :
    Calls Try.prog 11 #[.int .i64 n, .int .i64 l, .int .i64 h] w fun e w' => e = .returned (.bool false) ∧ w = w' :=
  (between_any n l h w).mono fun e w' ⟨he, hw⟩ => ⟨by rw [he, decide_eq_false (by omega : ¬ n ≤ h), Bool.and_false], hw⟩

theorem wrap32_pos (x : Int) (h0 : 0 ≤ x) (h1 : x < 4294967296) : decide (0 < wrap32 x) = (decide (1 ≤ x) && decide (x ≤ 2147483647)) := by
  unfold wrap32
  rw [Bool.eq_iff_iff]; simp; omega

theorem less_any (a b : Int) (w : World) (ha : 0 ≤ a ∧ a ≤ 4294967295) (hb : 0 ≤ b ∧ b ≤ 4294967295) :
    Calls Try.prog 10 #[.int .u32 a, .int .u32 b] w fun e w' => e = .returned (.bool (decide (1 ≤ (b - a) % 4294967296) && decide ((b - a) % 4294967296 ≤ 2147483647))) ∧ w = w' := by
  go_enter Try.func10, Try.ntmps10
  go_wp2
  go_ret
  exact ⟨ret_bool (wrap32_pos _ (by omega) (by omega)), rfl⟩

theorem within_any (a b c : Int) (w : World) (ha : 0 ≤ a ∧ a ≤ 4294967295) (hb : 0 ≤ b ∧ b ≤ 4294967295) :
    Calls Try.prog 13 #[.int .u32 a, .int .u32 b, .int .u32 c] w fun e w' => e = .returned (.bool (decide ((a - b) % 4294967296 < c))) ∧ w = w' := by
  go_enter Try.func13, Try.ntmps13
  go_wp2
  go_ret
  exact ⟨rfl, rfl⟩

theorem inside_any (a b c : Int) (w : World) (ha : 0 ≤ a ∧ a ≤ 4294967295) (hb : 0 ≤ b ∧ b ≤ 4294967295) (hc : 0 ≤ c ∧ c ≤ 4294967295) :
    Calls Try.prog 9 #[.int .u32 a, .int .u32 b, .int .u32 c] w fun e w' => e = .returned (.bool (decide ((a - b) % 4294967296 < c))) ∧ w = w' := by
  go_enter Try.func9, Try.ntmps9
  go_wp2_with (go_at_call 12; refine (way_any _ _ _ hb ha).mono ?_; rintro e w' ⟨rfl, rfl⟩)
  go_ret
  exact ⟨rfl, rfl⟩

/-- What Meets answers. -/
def meetsB (a n b m : Int) : Bool := (decide (0 < n) && decide (0 < m)) && (decide ((b - a) % 4294967296 < n) || decide ((a - b) % 4294967296 < m))

theorem meets_any (a n b m : Int) (w : World) (ha : 0 ≤ a ∧ a ≤ 4294967295) (hb : 0 ≤ b ∧ b ≤ 4294967295) :
    Calls Try.prog 14 #[.int .u32 a, .int .u32 n, .int .u32 b, .int .u32 m] w fun e w' => e = .returned (.bool (meetsB a n b m)) ∧ w = w' := by
  by_cases h1 : 0 < n
  · by_cases h2 : 0 < m
    · by_cases h3 : (b - a) % 4294967296 < n
      · go_enter Try.func14, Try.ntmps14
        go_wp2_with (go_at_call 13; refine (within_any _ _ _ _ (by assumption) (by assumption)).mono ?_; rintro e w' ⟨rfl, rfl⟩)
        go_ret
        exact ⟨ret_bool (by simp [meetsB, h1, h2, h3]), rfl⟩
      · go_enter Try.func14, Try.ntmps14
        go_wp2_with (go_at_call 13; refine (within_any _ _ _ _ (by assumption) (by assumption)).mono ?_; rintro e w' ⟨rfl, rfl⟩)
        go_ret
        exact ⟨ret_bool (by simp [meetsB, h1, h2, h3]), rfl⟩
    · go_enter Try.func14, Try.ntmps14
      go_wp2_with fail
      go_ret
      exact ⟨ret_bool (by rw [Bool.eq_iff_iff]; simp [meetsB]; omega), rfl⟩
  · go_enter Try.func14, Try.ntmps14
    go_wp2_with fail
    go_ret
    exact ⟨ret_bool (by rw [Bool.eq_iff_iff]; simp [meetsB]; omega), rfl⟩

end Go.Proofs.Ytolbnadafelkhaa
