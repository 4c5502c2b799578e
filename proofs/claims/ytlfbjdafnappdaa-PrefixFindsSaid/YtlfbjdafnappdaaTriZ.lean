/-
  Tries in the program: finding an address.
-/
import Derived.Test.YtlfbjdafnappdaaTriY
namespace Go.Proofs.Ytlfbjdafnappdaa
set_option linter.unusedVariables false
set_option linter.unusedSimpArgs false
theorem pow_int (k : Nat) : (2 : Int) ^ k = ((2 ^ k : Nat) : Int) := by simp
theorem min_u32 {k : Nat} (h : k ≤ 32) : min k IntKind.u32.bits = k := Nat.min_eq_left h
theorem min_u64 {k : Nat} (h : k ≤ 64) : min k IntKind.u64.bits = k := Nat.min_eq_left h
theorem shr_u32 (a k : Nat) : (a : Int).fdiv (2 ^ k) = ((a / 2 ^ k : Nat) : Int) := by
  rw [pow_int, Int.fdiv_eq_ediv_of_nonneg _ (Int.natCast_nonneg _), Int.natCast_ediv]
theorem and1_u32 (q : Nat) (h : q < 4294967296) : bits .and .u32 (q : Int) 1 = ((q % 2 : Nat) : Int) := by
  have := Go.u32_and_nat q 1 h (by decide)
  rw [Nat.and_one_is_mod] at this
  exact this
theorem clear_low (a k : Nat) (ha : a < 4294967296) (hk : k ≤ 32) : a &&& (4294967295 - (2 ^ k - 1)) = a / 2 ^ k * 2 ^ k := by
  have hp : 2 ^ k ≤ 2 ^ 32 := Nat.pow_le_pow_right (by decide) hk
  have hp0 := Nat.two_pow_pos k
  have e : 4294967295 - (2 ^ k - 1) = 2 ^ 32 - ((2 ^ k - 1) + 1) := by omega
  rw [e]
  refine Nat.eq_of_testBit_eq fun i => ?_
  rw [Nat.testBit_and, Nat.testBit_two_pow_sub_succ (show 2 ^ k - 1 < 2 ^ 32 by omega), Nat.testBit_two_pow_sub_one, ← Nat.shiftLeft_eq, ← Nat.shiftRight_eq_div_pow, Nat.testBit_shiftLeft, Nat.testBit_shiftRight]
  by_cases hi : i < 32
  · rw [decide_eq_true hi, Bool.true_and]
    by_cases hik : i < k
    · rw [decide_eq_true hik, decide_eq_false (show ¬ k ≤ i by omega)]; simp
    · rw [decide_eq_false hik, decide_eq_true (show k ≤ i by omega), show k + (i - k) = i by omega]; simp
  · have : a.testBit i = false := Nat.testBit_lt_two_pow (Nat.lt_of_lt_of_le ha (show 4294967296 ≤ 2 ^ i from Nat.pow_le_pow_right (show 2 > 0 by decide) (show 32 ≤ i by omega)))
    rw [this, show k + (i - k) = i by omega, this]; simp
theorem bit_spec (a d : Nat) (ha : a < 4294967296) (hd : d ≤ 31) : Spec Try.prog 21 [.v (.int .u32 (a : Nat)), .v (.int .i64 (d : Nat))] (.v (.int .i64 ((a / 2 ^ (31 - d) % 2 : Nat) : Int))) := by
  have e1 : IntKind.i64.wrap (31 - (d : Int)) = ((31 - d : Nat) : Int) := by rw [IntWalk.i64_in _ (by omega)]; omega
  have e2 := min_u32 (show 31 - d ≤ 32 by omega)
  have e3 := shr_u32 a (31 - d)
  have hq := Nat.div_le_self a (2 ^ (31 - d))
  have e4 := and1_u32 (a / 2 ^ (31 - d)) (by omega)
  have e5 : IntKind.i64.wrap ((a / 2 ^ (31 - d) % 2 : Nat) : Int) = ((a / 2 ^ (31 - d) % 2 : Nat) : Int) := by
    generalize a / 2 ^ (31 - d) = q
    exact IntWalk.i64_in _ (by omega)
  refine hspec_fn Try.func21 rfl ok_prefix_bit okr_prefix_bit rfl (by kernel_rfl) ?_
  intro Γ hW0 hN0 hL0
  have hW := hW0 rfl
  clear hW0 hN0 hL0
  unfold x_prefix_bit r_prefix_bit
  with_reducible refine auC ?_
  repeat' (first
    | (with_reducible refine auS ?_)
    | (simp only [e1, e2, e3, e4, e5, Int.toNat_natCast])
    | (with_reducible refine auD ?_)
    | ((with_reducible refine auB ?_ ?_); all_goals first | (intro h; first | exact auH | simp only [h, runR_t, runR_f] | skip) | skip)
    | fail)
  (all_goals first | exact auP | skip)
  all_goals with_reducible refine auF ?_
  all_goals (try first | with_reducible refine auR ?_ | exact auR0)
  all_goals (try simp only [hsM] at *)
theorem first_spec (a d : Nat) (ha : a < 4294967296) (hd : d ≤ 32) : Spec Try.prog 20 [.v (.int .u32 (a : Nat)), .v (.int .i64 (d : Nat))] (.v (.int .u32 (netA (bitsL a d) : Nat))) := by
  rw [netA_bits a ha d hd]
  have hp : 2 ^ (32 - d) ≤ 2 ^ 32 := Nat.pow_le_pow_right (by decide) (by omega)
  have hp0 := Nat.two_pow_pos (32 - d)
  have e1 : IntKind.i64.wrap (32 - (d : Int)) = ((32 - d : Nat) : Int) := by rw [IntWalk.i64_in _ (by omega)]; omega
  have e2 := min_u64 (show 32 - d ≤ 64 by omega)
  have e3 : IntKind.u64.wrap (1 * 2 ^ (32 - d)) = ((2 ^ (32 - d) : Nat) : Int) := by rw [Int.one_mul, pow_int]; exact IntWalk.u64_in _ (by omega)
  have e4 : IntKind.u64.wrap (((2 ^ (32 - d) : Nat) : Int) - 1) = ((2 ^ (32 - d) - 1 : Nat) : Int) := by rw [IntWalk.u64_in _ (by omega)]; omega
  have e5 : IntKind.u32.wrap ((2 ^ (32 - d) - 1 : Nat) : Int) = ((2 ^ (32 - d) - 1 : Nat) : Int) := IntWalk.u32_in _ (by omega)
  have e6 : bits .andNot .u32 (a : Int) ((2 ^ (32 - d) - 1 : Nat) : Int) = ((a / 2 ^ (32 - d) * 2 ^ (32 - d) : Nat) : Int) := by
    rw [Go.u32_andNot_nat a _ ha (by omega), clear_low a (32 - d) ha (by omega)]
  refine hspec_fn Try.func20 rfl ok_prefix_first okr_prefix_first rfl (by kernel_rfl) ?_
  intro Γ hW0 hN0 hL0
  have hW := hW0 rfl
  clear hW0 hN0 hL0
  unfold x_prefix_first r_prefix_first
  with_reducible refine auC ?_
  repeat' (first
    | (with_reducible refine auS ?_)
    | (simp only [e1, e2, e3, e4, e5, e6, Int.toNat_natCast])
    | (with_reducible refine auD ?_)
    | ((with_reducible refine auB ?_ ?_); all_goals first | (intro h; first | exact auH | simp only [h, runR_t, runR_f] | skip) | skip)
    | fail)
  (all_goals first | exact auP | skip)
  all_goals with_reducible refine auF ?_
  all_goals (try first | with_reducible refine auR ?_ | exact auR0)
  all_goals (try simp only [hsM] at *)
end Go.Proofs.Ytlfbjdafnappdaa
