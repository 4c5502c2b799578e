/-
  Tries in the reference: digits, bits (for Put and Remove).
-/
import Derived.Test.YtlfbjdafnappdaaPutQ
import Derived.Test.YtlfbjdafnappdaaStr
namespace Go.Proofs.Ytlfbjdafnappdaa
set_option linter.unusedVariables false
set_option linter.unusedSimpArgs false
theorem between_spec (n lo hi : Int) : Spec Try.prog 26 [.v (.int .i64 n), .v (.int .i64 lo), .v (.int .i64 hi)] (.v (.bool (decide (lo ≤ n ∧ n ≤ hi)))) := by
  refine hspec_fn Try.func26 rfl ok_custref_Between okr_custref_Between rfl (by kernel_rfl) ?_
  intro Γ hW0 hN0 hL0
  have hW := hW0 rfl
  clear hW0 hN0 hL0
  unfold x_custref_Between r_custref_Between
  with_reducible refine auC ?_
  repeat' (first
    | (with_reducible refine auS ?_)
    | fail
    | (with_reducible refine auD ?_)
    | ((with_reducible refine auB ?_ ?_); all_goals first | (intro h; first | exact auH | simp only [h, runR_t, runR_f] | skip) | skip)
    | fail)
  all_goals with_reducible refine auF ?_
  all_goals (try first | with_reducible refine auR ?_ | exact auR0)
  all_goals (try simp only [hsM] at *)
  · exact dbool (by simp [h])
  · exact dbool (by simp [h])
def digs : ByteArray := { data := #[48, 49, 50, 51, 52, 53, 54, 55, 56, 57] }
theorem digs_at (d : Nat) (h : d < 10) : digs.extract d (d + 1) = mkS [UInt8.ofNat (48 + d)] := by
  have : ∀ m : Fin 10, digs.extract m.val (m.val + 1) = mkS [UInt8.ofNat (48 + m.val)] := by
    intro m
    match m with
    | 0 => rfl
    | 1 => rfl
    | 2 => rfl
    | 3 => rfl
    | 4 => rfl
    | 5 => rfl
    | 6 => rfl
    | 7 => rfl
    | 8 => rfl
    | 9 => rfl
  exact this ⟨d, h⟩
theorem num_spec (d : Nat) (h : d < 10) : Spec Try.prog 27 [.v (.int .i64 (d : Nat))] (.v (.string (mkS [UInt8.ofNat (48 + d)]))) := by
  have e1 : IntKind.i64.wrap ((d : Int) + 1) = ((d + 1 : Nat) : Int) := by rw [IntWalk.i64_in _ (by omega)]; omega
  have e2 := digs_at d h
  have e3 : ({ data := #[48, 49, 50, 51, 52, 53, 54, 55, 56, 57] } : ByteArray) = digs := rfl
  have e4 : digs.size = 10 := rfl
  refine hspec_fn Try.func27 rfl ok_custref_Num okr_custref_Num rfl (by kernel_rfl) ?_
  intro Γ hW0 hN0 hL0
  have hW := hW0 rfl
  clear hW0 hN0 hL0
  unfold x_custref_Num r_custref_Num
  with_reducible refine auC ?_
  repeat' (first
    | (with_reducible refine auS ?_)
    | (simp only [e1, e2, e3, e4, Int.toNat_natCast])
    | (with_reducible refine auD ?_)
    | ((with_reducible refine auB ?_ ?_); all_goals first | (intro h; first | exact auH | simp only [h, runR_t, runR_f] | skip) | skip)
    | fail)
  (all_goals first | exact auP | skip)
  all_goals with_reducible refine auF ?_
  all_goals (try first | with_reducible refine auR ?_ | exact auR0)
  all_goals (try simp only [hsM] at *)
theorem bitsOf_any (a n : Nat) (ha : a < 4294967296) (hn : n ≤ 32) : Spec Try.prog 23 [.v (.int .u32 (a : Nat)), .v (.int .i64 (n : Nat))] (.v (.string (mkS (bitsL a n)))) := by
  have e1 : IntKind.i64.wrap (a : Int) = (a : Int) := IntWalk.i64_in _ (by omega)
  refine hspec_fn Try.func23 rfl ok_custref_BitsOf okr_custref_BitsOf rfl (by kernel_rfl) ?_
  intro Γ hW0 hN0 hL0
  have hW := hW0 rfl
  clear hW0 hN0 hL0
  unfold x_custref_BitsOf r_custref_BitsOf
  with_reducible refine auC ?_
  repeat' (first
    | (with_reducible refine auS ?_)
    | fail
    | (with_reducible refine auD ?_)
    | ((with_reducible refine auB ?_ ?_); all_goals first | (intro h; first | exact auH | simp only [h, runR_t, runR_f] | skip) | skip)
    | fail)
  refine go_loopH (α := Nat) (fun i => [(⟨.d0, .d0, .d5⟩, .v (.string (mkS (bitsL a i)))), (⟨.d0, .d1, .d0⟩, .v (.int .i64 (i : Nat)))]) (fun _ => []) (fun _ => Γ.g0) (fun i => n - i) (fun i => i ≤ n) 0 (Nat.zero_le _) ?_ ?_
  · skip
    refine le_mk ?_ ?_ (Nat.le_refl _)
    all_goals first | with_reducible refine auE ?_ | exact auE0
    all_goals (repeat' (first | exact trivial | exact rfl | apply And.intro))
  intro i hi
  dsimp only at hi ⊢
  with_reducible refine auL ?_
  by_cases hlt : i < n
  · have hp : 2 ^ (31 - i) ≤ 2 ^ 31 := Nat.pow_le_pow_right (by decide) (by omega)
    have hp0 : 0 < 2 ^ (31 - i) := Nat.two_pow_pos _
    have e2 : IntKind.i64.wrap (31 - (i : Int)) = ((31 - i : Nat) : Int) := by rw [IntWalk.i64_in _ (by omega)]; omega
    have e3 : min (31 - i) IntKind.i64.bits = 31 - i := Nat.min_eq_left (by show 31 - i ≤ 64; omega)
    have e4 : IntKind.i64.wrap (1 * 2 ^ (31 - i)) = ((2 ^ (31 - i) : Nat) : Int) := by rw [Int.one_mul, pow_int]; exact IntWalk.i64_in _ (by omega)
    have e5 : ((2 ^ (31 - i) : Nat) : Int) ≠ 0 := by omega
    have e6 : IntKind.i64.wrap ((a : Int).tdiv ((2 ^ (31 - i) : Nat) : Int)) = ((a / 2 ^ (31 - i) : Nat) : Int) := by
      rw [← Int.ofNat_tdiv]
      have hq := Nat.div_le_self a (2 ^ (31 - i))
      revert hq
      generalize a / 2 ^ (31 - i) = q
      intro hq
      exact IntWalk.i64_in _ (by omega)
    have e7 : ((a / 2 ^ (31 - i) : Nat) : Int).tmod 2 = ((a / 2 ^ (31 - i) % 2 : Nat) : Int) := (Int.ofNat_tmod _ 2).symm
    have hn := num_spec (a / 2 ^ (31 - i) % 2) (by omega)
    have hlen := bitsL_len a i
    repeat' (first
      | (with_reducible refine auS ?_)
      | (first | (simp only [e1, e2, e3, e4, e6, e7, mkS_app, Int.toNat_natCast]) | (refine runR_n e5 ?_) | (with_reducible refine runR_call hn ?_))
      | (with_reducible refine auD ?_)
      | ((with_reducible refine auB ?_ ?_); all_goals first | (intro h; first | exact auH | simp only [h, runR_t, runR_f] | skip) | skip)
      | (first | (refine runR_n (by simp only [mkS_size, hlen, List.length_singleton]; omega) ?_) | fail))
    (all_goals first | exact auP | skip)
    refine nx_loop ⟨i + 1, hlt, by omega, ?_⟩
    refine le_mk ?_ ?_ (Nat.le_refl _)
    all_goals first | with_reducible refine auE ?_ | exact auE0
    all_goals (repeat' (first | exact trivial | exact rfl | apply And.intro))
    all_goals first
      | exact dint ((IntWalk.i64_in _ (by omega)).trans (by omega))
      | rw [bitsL_succ]
  · obtain rfl : i = n := by omega
    repeat' (first
      | (with_reducible refine auS ?_)
      | fail
      | (with_reducible refine auD ?_)
      | ((with_reducible refine auB ?_ ?_); all_goals first | (intro h; first | exact auH | simp only [h, runR_t, runR_f] | skip) | skip)
      | fail)
    (all_goals first | exact auP | skip)
    all_goals with_reducible refine auF ?_
    all_goals (try first | with_reducible refine auR ?_ | exact auR0)
    all_goals (try simp only [hsM] at *)
theorem bitsOf_spec (a : Nat) (ha : a < 4294967296) : Spec Try.prog 23 [.v (.int .u32 (a : Nat)), .v (.int .i64 32)] (.v (.string (mkS (bitsL a 32)))) := bitsOf_any a 32 ha (Nat.le_refl _)
end Go.Proofs.Ytlfbjdafnappdaa
