/-
  A wheel of what is due: its lists, in the program and in the reference.
-/
import Derived.Test.YtecnjhmpipfldaaWheelP
import Derived.Test.YtecnjhmpipfldaaStr
import Derived.Test.YtecnjhmpipfldaaCodeW
import Derived.Laws.BitsAll
namespace Go.Proofs.Ytecnjhmpipfldaa
set_option linter.unusedVariables false
set_option linter.unusedSimpArgs false
/-! Bits. -/
def lenB8 : ByteArray := ⟨#[0, 1, 2, 2, 3, 3, 3, 3, 4, 4, 4, 4, 4, 4, 4, 4, 5, 5, 5, 5, 5, 5, 5, 5, 5, 5, 5, 5, 5, 5, 5, 5, 6, 6, 6, 6, 6, 6, 6, 6, 6, 6, 6, 6, 6, 6, 6, 6, 6, 6, 6, 6, 6, 6, 6, 6, 6, 6, 6, 6, 6, 6, 6, 6, 7, 7, 7, 7, 7, 7, 7, 7, 7, 7, 7, 7, 7, 7, 7, 7, 7, 7, 7, 7, 7, 7, 7, 7, 7, 7, 7, 7, 7, 7, 7, 7, 7, 7, 7, 7, 7, 7, 7, 7, 7, 7, 7, 7, 7, 7, 7, 7, 7, 7, 7, 7, 7, 7, 7, 7, 7, 7, 7, 7, 7, 7, 7, 7, 8, 8, 8, 8, 8, 8, 8, 8, 8, 8, 8, 8, 8, 8, 8, 8, 8, 8, 8, 8, 8, 8, 8, 8, 8, 8, 8, 8, 8, 8, 8, 8, 8, 8, 8, 8, 8, 8, 8, 8, 8, 8, 8, 8, 8, 8, 8, 8, 8, 8, 8, 8, 8, 8, 8, 8, 8, 8, 8, 8, 8, 8, 8, 8, 8, 8, 8, 8, 8, 8, 8, 8, 8, 8, 8, 8, 8, 8, 8, 8, 8, 8, 8, 8, 8, 8, 8, 8, 8, 8, 8, 8, 8, 8, 8, 8, 8, 8, 8, 8, 8, 8, 8, 8, 8, 8, 8, 8, 8, 8, 8, 8, 8, 8, 8, 8, 8, 8, 8, 8, 8, 8, 8, 8, 8, 8, 8, 8]⟩
def lenN (n : Nat) : Nat := if n = 0 then 0 else Nat.log2 n + 1
def lenL : List UInt8 := lenB8.data.toList
theorem lenB8_eq : lenB8 = mkS lenL := rfl
theorem lenB8_fin : ∀ n : Fin 256, bN lenL n.val = lenN n.val := by decide +kernel
theorem lenB8_at {n : Nat} (h : n < 256) : byteI lenB8 n = (lenN n : Nat) := by rw [lenB8_eq, mkS_at, lenB8_fin ⟨n, h⟩]
theorem lenB8_size : ((lenB8.size : Nat) : Int) = 256 := by decide +kernel
theorem log2_of {x k : Nat} (h1 : 2 ^ k ≤ x) (h2 : x < 2 ^ (k + 1)) : Nat.log2 x = k := by
  have hx : x ≠ 0 := by
    have := Nat.pow_pos (n := k) (show 0 < 2 by decide)
    omega
  have a1 := Nat.log2_self_le hx
  have a2 := @Nat.lt_log2_self x
  have b1 := (Nat.pow_lt_pow_iff_right (show 1 < 2 by decide)).1 (Nat.lt_of_le_of_lt a1 h2)
  have b2 := (Nat.pow_lt_pow_iff_right (show 1 < 2 by decide)).1 (Nat.lt_of_le_of_lt h1 a2)
  omega
theorem log2_div {x : Nat} (j : Nat) (h : 2 ^ j ≤ x) : Nat.log2 x = j + Nat.log2 (x / 2 ^ j) := by
  have hp : 0 < 2 ^ j := Nat.pow_pos (by decide)
  have hx : x / 2 ^ j ≠ 0 := by
    have := Nat.div_pos h hp
    omega
  have a1 := Nat.log2_self_le hx
  have a2 := @Nat.lt_log2_self (x / 2 ^ j)
  apply log2_of
  · rw [Nat.pow_add, Nat.mul_comm]
    exact (Nat.le_div_iff_mul_le hp).1 a1
  · rw [show j + (x / 2 ^ j).log2 + 1 = j + ((x / 2 ^ j).log2 + 1) by omega, Nat.pow_add, Nat.mul_comm]
    exact (Nat.div_lt_iff_lt_mul hp).1 a2
theorem lenN_pos {x : Nat} (h : x ≠ 0) : lenN x = Nat.log2 x + 1 := if_neg h
theorem u64_in {n : Int} (h0 : 0 ≤ n) (h1 : n < 18446744073709551616) : IntKind.u64.wrap n = n := Int.emod_eq_of_lt h0 h1
theorem u8_mod (n : Int) : IntKind.u8.wrap n = n % 256 := rfl
set_option maxRecDepth 100000 in
theorem tab_fold : (ByteArray.mk #[0, 1, 2, 2, 3, 3, 3, 3, 4, 4, 4, 4, 4, 4, 4, 4, 5, 5, 5, 5, 5, 5, 5, 5, 5, 5, 5, 5, 5, 5, 5, 5, 6, 6, 6, 6, 6, 6, 6, 6, 6, 6, 6, 6, 6, 6, 6, 6, 6, 6, 6, 6, 6, 6, 6, 6, 6, 6, 6, 6, 6, 6, 6, 6, 7, 7, 7, 7, 7, 7, 7, 7, 7, 7, 7, 7, 7, 7, 7, 7, 7, 7, 7, 7, 7, 7, 7, 7, 7, 7, 7, 7, 7, 7, 7, 7, 7, 7, 7, 7, 7, 7, 7, 7, 7, 7, 7, 7, 7, 7, 7, 7, 7, 7, 7, 7, 7, 7, 7, 7, 7, 7, 7, 7, 7, 7, 7, 7, 8, 8, 8, 8, 8, 8, 8, 8, 8, 8, 8, 8, 8, 8, 8, 8, 8, 8, 8, 8, 8, 8, 8, 8, 8, 8, 8, 8, 8, 8, 8, 8, 8, 8, 8, 8, 8, 8, 8, 8, 8, 8, 8, 8, 8, 8, 8, 8, 8, 8, 8, 8, 8, 8, 8, 8, 8, 8, 8, 8, 8, 8, 8, 8, 8, 8, 8, 8, 8, 8, 8, 8, 8, 8, 8, 8, 8, 8, 8, 8, 8, 8, 8, 8, 8, 8, 8, 8, 8, 8, 8, 8, 8, 8, 8, 8, 8, 8, 8, 8, 8, 8, 8, 8, 8, 8, 8, 8, 8, 8, 8, 8, 8, 8, 8, 8, 8, 8, 8, 8, 8, 8, 8, 8, 8, 8, 8, 8]) = lenB8 := rfl
theorem len64_spec (x : Nat) (hx : x ≠ 0) (hb : x < 16777216) : Spec Try.prog 39 [.v (.int .u64 (x : Nat))] (.v (.int .i64 ((Nat.log2 x + 1 : Nat) : Int))) := by
  have hsz := lenB8_size
  have d16 : ((x : Nat) : Int).fdiv (2 ^ min 16 IntKind.u64.bits) = ((x / 65536 : Nat) : Int) := by rw [show min 16 IntKind.u64.bits = 16 from rfl, Int.fdiv_eq_ediv_of_nonneg _ (by decide)]; rfl
  have d8 : ((x : Nat) : Int).fdiv (2 ^ min 8 IntKind.u64.bits) = ((x / 256 : Nat) : Int) := by rw [show min 8 IntKind.u64.bits = 8 from rfl, Int.fdiv_eq_ediv_of_nonneg _ (by decide)]; rfl
  have e32 : decide ((4294967296 : Int) ≤ (x : Nat)) = false := decide_eq_false (by omega)
  by_cases h16 : 65536 ≤ x
  · have e16 : decide ((65536 : Int) ≤ (x : Nat)) = true := decide_eq_true (by omega)
    have e8 : decide ((256 : Int) ≤ ((x / 65536 : Nat) : Int)) = false := decide_eq_false (by omega)
    have w1 : IntKind.u8.wrap ((x / 65536 : Nat) : Int) = ((x / 65536 : Nat) : Int) := by rw [u8_mod]; omega
    have w2 : IntKind.i64.wrap (0 + 16) = 16 := rfl
    have hl := lenB8_at (show x / 65536 < 256 by omega)
    have hlog : Nat.log2 x = 16 + Nat.log2 (x / 65536) := log2_div 16 h16
    rw [lenN_pos (by omega)] at hl
    have hlt : Nat.log2 (x / 65536) < 8 := (Nat.log2_lt (by omega)).2 (by omega)
    have w3 : IntKind.i64.wrap (((Nat.log2 (x / 65536) + 1 : Nat) : Int)) = ((Nat.log2 (x / 65536) + 1 : Nat) : Int) := IntWalk.i64_in _ (by omega)
    have w4 : IntKind.i64.wrap (16 + ((Nat.log2 (x / 65536) + 1 : Nat) : Int)) = ((Nat.log2 x + 1 : Nat) : Int) := by rw [IntWalk.i64_in _ (by omega)]; omega
    have q1 : x / 65536 < 256 := by omega
    generalize x / 65536 = y at *
    refine hspec_fn Try.func39 rfl ok_bits_Len64 okr_bits_Len64 rfl (by kernel_rfl) ?_
    intro Γ hW0 hN0 hL0
    have hW := hW0 rfl
    clear hW0 hN0 hL0
    unfold x_bits_Len64 r_bits_Len64
    refine auC ?_
    rw [tab_fold]
    generalize lenB8 = T at *
    repeat' (first
      | (refine auS ?_)
      | (first | (simp only [e32, e16, e8, d16, w1, w2, w3, w4, hsz, hl, Int.toNat_natCast]))
      | (refine auD ?_)
      | (with_reducible refine runR_b (fun h => ?_) (fun h => ?_) <;> first | exact auH | simp only [h, runR_t, runR_f])
      | (with_reducible refine condK_bl ?_ ?_)
      | (with_reducible refine condK_b (fun h => ?_) (fun h => ?_) <;> first | exact auH | skip)
      | fail)
    (all_goals first | exact auP | skip)
    all_goals refine auF ?_
    all_goals (try first | refine auR ?_ | exact auR0)
    all_goals (try simp only [hsM] at *)
  · have e16 : decide ((65536 : Int) ≤ (x : Nat)) = false := decide_eq_false (by omega)
    by_cases h8 : 256 ≤ x
    · have e8 : decide ((256 : Int) ≤ (x : Nat)) = true := decide_eq_true (by omega)
      have w1 : IntKind.u8.wrap ((x / 256 : Nat) : Int) = ((x / 256 : Nat) : Int) := by rw [u8_mod]; omega
      have w2 : IntKind.i64.wrap (0 + 8) = 8 := rfl
      have hl := lenB8_at (show x / 256 < 256 by omega)
      have hlog : Nat.log2 x = 8 + Nat.log2 (x / 256) := log2_div 8 h8
      rw [lenN_pos (by omega)] at hl
      have hlt : Nat.log2 (x / 256) < 8 := (Nat.log2_lt (by omega)).2 (by omega)
      have w3 : IntKind.i64.wrap (((Nat.log2 (x / 256) + 1 : Nat) : Int)) = ((Nat.log2 (x / 256) + 1 : Nat) : Int) := IntWalk.i64_in _ (by omega)
      have w4 : IntKind.i64.wrap (8 + ((Nat.log2 (x / 256) + 1 : Nat) : Int)) = ((Nat.log2 x + 1 : Nat) : Int) := by rw [IntWalk.i64_in _ (by omega)]; omega
      have q1 : x / 256 < 256 := by omega
      generalize x / 256 = y at *
      refine hspec_fn Try.func39 rfl ok_bits_Len64 okr_bits_Len64 rfl (by kernel_rfl) ?_
      intro Γ hW0 hN0 hL0
      have hW := hW0 rfl
      clear hW0 hN0 hL0
      unfold x_bits_Len64 r_bits_Len64
      refine auC ?_
      rw [tab_fold]
      generalize lenB8 = T at *
      repeat' (first
        | (refine auS ?_)
        | (first | (simp only [e32, e16, e8, d8, w1, w2, w3, w4, hsz, hl, Int.toNat_natCast]))
        | (refine auD ?_)
        | (with_reducible refine runR_b (fun h => ?_) (fun h => ?_) <;> first | exact auH | simp only [h, runR_t, runR_f])
        | (with_reducible refine condK_bl ?_ ?_)
        | (with_reducible refine condK_b (fun h => ?_) (fun h => ?_) <;> first | exact auH | skip)
        | fail)
      (all_goals first | exact auP | skip)
      all_goals refine auF ?_
      all_goals (try first | refine auR ?_ | exact auR0)
      all_goals (try simp only [hsM] at *)
    · have e8 : decide ((256 : Int) ≤ (x : Nat)) = false := decide_eq_false (by omega)
      have w1 : IntKind.u8.wrap ((x : Nat) : Int) = ((x : Nat) : Int) := by rw [u8_mod]; omega
      have hl := lenB8_at (show x < 256 by omega)
      rw [lenN_pos (by omega)] at hl
      have hlt : Nat.log2 x < 8 := (Nat.log2_lt (by omega)).2 (by omega)
      have w3 : IntKind.i64.wrap (((Nat.log2 x + 1 : Nat) : Int)) = ((Nat.log2 x + 1 : Nat) : Int) := IntWalk.i64_in _ (by omega)
      have w4 : IntKind.i64.wrap (0 + ((Nat.log2 x + 1 : Nat) : Int)) = ((Nat.log2 x + 1 : Nat) : Int) := by rw [IntWalk.i64_in _ (by omega)]; omega
      refine hspec_fn Try.func39 rfl ok_bits_Len64 okr_bits_Len64 rfl (by kernel_rfl) ?_
      intro Γ hW0 hN0 hL0
      have hW := hW0 rfl
      clear hW0 hN0 hL0
      unfold x_bits_Len64 r_bits_Len64
      refine auC ?_
      rw [tab_fold]
      generalize lenB8 = T at *
      repeat' (first
        | (refine auS ?_)
        | (first | (simp only [e32, e16, e8, w1, w3, w4, hsz, hl, Int.toNat_natCast]))
        | (refine auD ?_)
        | (with_reducible refine runR_b (fun h => ?_) (fun h => ?_) <;> first | exact auH | simp only [h, runR_t, runR_f])
        | (with_reducible refine condK_bl ?_ ?_)
        | (with_reducible refine condK_b (fun h => ?_) (fun h => ?_) <;> first | exact auH | skip)
        | fail)
      (all_goals first | exact auP | skip)
      all_goals refine auF ?_
      all_goals (try first | refine auR ?_ | exact auR0)
      all_goals (try simp only [hsM] at *)
theorem len_spec (x : Nat) (hx : x ≠ 0) (hb : x < 16777216) : Spec Try.prog 36 [.v (.int .u64 (x : Nat))] (.v (.int .i64 ((Nat.log2 x + 1 : Nat) : Int))) := by
  have h := len64_spec x hx hb
  refine hspec_fn Try.func36 rfl ok_bits_Len okr_bits_Len rfl (by kernel_rfl) ?_
  intro Γ hW0 hN0 hL0
  have hW := hW0 rfl
  clear hW0 hN0 hL0
  unfold x_bits_Len r_bits_Len
  refine auC ?_
  repeat' (first
    | (refine auS ?_)
    | (with_reducible refine runR_call h ?_)
    | (refine auD ?_)
    | (with_reducible refine runR_b (fun h => ?_) (fun h => ?_) <;> first | exact auH | simp only [h, runR_t, runR_f])
    | (with_reducible refine condK_bl ?_ ?_)
    | (with_reducible refine condK_b (fun h => ?_) (fun h => ?_) <;> first | exact auH | skip)
    | fail)
  (all_goals first | exact auP | skip)
  all_goals refine auF ?_
  all_goals (try first | refine auR ?_ | exact auR0)
  all_goals (try simp only [hsM] at *)
theorem and15 (n : Nat) : bits .and .i64 (n : Int) 15 = ((n % 16 : Nat) : Int) := by
  have h : ∀ x : BitVec 64, (x &&& 15#64).toNat = x.toNat % 16 := fun x => by
    rw [BitVec.toNat_and]
    exact Nat.and_two_pow_sub_one_eq_mod x.toNat 4
  have e : BitVec.ofInt 64 15 = 15#64 := by decide
  show IntKind.i64.wrap ((BitVec.ofInt 64 (n : Int) &&& BitVec.ofInt 64 15).toNat : Int) = _
  rw [e, h, BitVec.toNat_ofInt]
  have h2 : (((n : Int) % ((2 ^ 64 : Nat) : Int)).toNat : Int) = (n : Int) % 18446744073709551616 := by
    rw [Int.toNat_of_nonneg (Int.emod_nonneg _ (by decide))]; rfl
  rw [Int.natCast_emod, h2, IntWalk.i64_in _ (by omega)]
  omega
theorem xor_nat (a b : Nat) (ha : a < 16777216) (hb : b < 16777216) : bits .xor .i64 (a : Int) (b : Int) = ((a ^^^ b : Nat) : Int) := by
  have h1 : BitVec.ofInt 64 (a : Int) = BitVec.ofNat 64 a := by simp
  have h2 : BitVec.ofInt 64 (b : Int) = BitVec.ofNat 64 b := by simp
  have h3 : a ^^^ b < 2 ^ 24 := Nat.xor_lt_two_pow (by omega) (by omega)
  show IntKind.i64.wrap ((BitVec.ofInt 64 (a : Int) ^^^ BitVec.ofInt 64 (b : Int)).toNat : Int) = _
  rw [h1, h2, BitVec.toNat_xor, BitVec.toNat_ofNat, BitVec.toNat_ofNat, Nat.mod_eq_of_lt (by omega), Nat.mod_eq_of_lt (by omega), IntWalk.i64_in _ (by omega)]
/-! The list of a time. -/
theorem list_spec (n m : Nat) (hnm : n < m) (hm : m < 16777216) : Spec Try.prog 28 [.v (.int .i64 (n : Nat)), .v (.int .i64 (m : Nat))] (.v (.int .i64 (lisR n m 6))) := by
  have hx : n ^^^ m ≠ 0 := fun e => by
    have := xor_zero.1 e
    omega
  have hlt : n ^^^ m < 2 ^ 24 := Nat.xor_lt_two_pow (by omega) (by omega)
  have x1 := xor_nat n m (by omega) hm
  have hlen := len_spec (n ^^^ m) hx hlt
  have w1 : IntKind.u64.wrap ((n ^^^ m : Nat) : Int) = ((n ^^^ m : Nat) : Int) := u64_in (by omega) (by omega)
  have hres := lis_log hnm hm
  have hl24 : Nat.log2 (n ^^^ m) < 24 := (Nat.log2_lt hx).2 hlt
  generalize n ^^^ m = x at *
  generalize Nat.log2 x = L at *
  have w2 : IntKind.i64.wrap (((L + 1 : Nat) : Int) - 1) = (L : Nat) := by rw [IntWalk.i64_in _ (by omega)]; omega
  have w3 : IntKind.i64.wrap (((L : Nat) : Int).tdiv 4) = ((L / 4 : Nat) : Int) := by rw [Int.tdiv_eq_ediv_of_nonneg (by omega), IntWalk.i64_in _ (by omega)]; omega
  have hk : L / 4 < 6 := by omega
  generalize L / 4 = k at *
  have w4 : IntKind.i64.wrap (16 * (k : Nat)) = 16 * (k : Nat) := IntWalk.i64_in _ (by omega)
  have w5 : IntKind.i64.wrap (4 * (k : Nat)) = 4 * (k : Nat) := IntWalk.i64_in _ (by omega)
  have w6 : ((m : Nat) : Int).fdiv (2 ^ min (4 * (k : Nat) : Int).toNat IntKind.i64.bits) = ((m / 16 ^ k : Nat) : Int) := by
    have e1 : min (4 * (k : Nat) : Int).toNat IntKind.i64.bits = 4 * k := by
      have : IntKind.i64.bits = 64 := rfl
      omega
    have hpp : 0 < 16 ^ k := Nat.pow_pos (by decide)
    have e2 : (2 : Int) ^ (4 * k) = ((16 ^ k : Nat) : Int) := by
      rw [show (16 : Nat) = 2 ^ 4 from rfl, ← Nat.pow_mul]
      simp
    rw [e1, e2, Int.fdiv_eq_ediv_of_nonneg _ (by omega)]
    rfl
  have w7 := and15 (m / 16 ^ k)
  have hmod : m / 16 ^ k % 16 < 16 := Nat.mod_lt _ (by decide)
  have w8 : IntKind.i64.wrap (16 * (k : Nat) + ((m / 16 ^ k % 16 : Nat) : Int)) = lisR n m 6 := by rw [hres, IntWalk.i64_in _ (by omega)]
  refine hspec_fn Try.func28 rfl ok_wheel_list okr_wheel_list rfl (by kernel_rfl) ?_
  intro Γ hW0 hN0 hL0
  have hW := hW0 rfl
  clear hW0 hN0 hL0
  unfold x_wheel_list r_wheel_list
  refine auC ?_
  repeat' (first
    | (refine auS ?_)
    | (first | (simp only [x1, w1, w2, w3, w4, w5, w6, w7, w8]) | (with_reducible refine runR_call hlen ?_))
    | (refine auD ?_)
    | (with_reducible refine runR_b (fun h => ?_) (fun h => ?_) <;> first | exact auH | simp only [h, runR_t, runR_f])
    | (with_reducible refine condK_bl ?_ ?_)
    | (with_reducible refine condK_b (fun h => ?_) (fun h => ?_) <;> first | exact auH | skip)
    | fail)
  (all_goals first | exact auP | skip)
  all_goals refine auF ?_
  all_goals (try first | refine auR ?_ | exact auR0)
  all_goals (try simp only [hsM] at *)
theorem listOf_spec (n m : Nat) (hn : n < 16777216) (hm : m < 16777216) : Spec Try.prog 35 [.v (.int .i64 (n : Nat)), .v (.int .i64 (m : Nat))] (.v (.int .i64 (lisR n m 6))) := by
  refine hspec_fn Try.func35 rfl ok_custref_ListOf okr_custref_ListOf rfl (by kernel_rfl) ?_
  intro Γ hW0 hN0 hL0
  have hW := hW0 rfl
  clear hW0 hN0 hL0
  unfold x_custref_ListOf r_custref_ListOf
  refine auC ?_
  repeat' (first
    | (refine auS ?_)
    | fail
    | (refine auD ?_)
    | (with_reducible refine runR_b (fun h => ?_) (fun h => ?_) <;> first | exact auH | simp only [h, runR_t, runR_f])
    | (with_reducible refine condK_bl ?_ ?_)
    | (with_reducible refine condK_b (fun h => ?_) (fun h => ?_) <;> first | exact auH | skip)
    | fail)
  refine go_loopH (α := Nat) (fun q => [(⟨.d0, .d0, .d5⟩, .v (.int .i64 ((16 ^ q / 16 : Nat) : Int))), (⟨.d0, .d0, .d6⟩, .v (.int .i64 ((q : Int) - 1)))]) (fun _ => []) (fun _ => Γ.g0) (fun q => q) (fun q => q ≤ 6 ∧ lisR n m 6 = lisR n m q) 6 ⟨Nat.le_refl _, rfl⟩ ?_ ?_
  · skip
    refine le_mk ?_ ?_ (Nat.le_refl _)
    all_goals first | refine auE ?_ | exact auE0
    all_goals (repeat' (first | exact trivial | exact rfl | apply And.intro))
  rintro q ⟨hq, hr⟩
  dsimp only at hq hr ⊢
  refine auL ?_
  cases q with
  | zero =>
    rw [hr, lisR]
    repeat' (first
      | (refine auS ?_)
      | fail
      | (refine auD ?_)
      | (with_reducible refine runR_b (fun h => ?_) (fun h => ?_) <;> first | exact auH | simp only [h, runR_t, runR_f])
      | (with_reducible refine condK_bl ?_ ?_)
      | (with_reducible refine condK_b (fun h => ?_) (fun h => ?_) <;> first | exact auH | skip)
      | fail)
    (all_goals first | exact auP | skip)
    all_goals refine auF ?_
    all_goals (try first | refine auR ?_ | exact auR0)
    all_goals (try simp only [hsM] at *)
  | succ k =>
    have e1 : 16 ^ (k + 1) / 16 = 16 ^ k := by rw [Nat.pow_succ, Nat.mul_div_cancel _ (by decide)]
    have hp : 0 < 16 ^ k := Nat.pow_pos (by decide)
    have hp5 : 16 ^ k ≤ 16 ^ 5 := Nat.pow_le_pow_right (by decide) (by omega)
    have h5 : (16 : Nat) ^ 5 = 1048576 := by decide
    have hdn : n / 16 ^ k ≤ n := Nat.div_le_self _ _
    have hdm : m / 16 ^ k ≤ m := Nat.div_le_self _ _
    have ek : ((k + 1 : Nat) : Int) - 1 = (k : Nat) := by omega
    rw [e1, ek]
    have hr2 : lisR n m (k + 1) = if n / 16 ^ k % 16 = m / 16 ^ k % 16 then lisR n m k else 16 * (k : Int) + ((m / 16 ^ k % 16 : Nat) : Int) := rfl
    rw [hr2] at hr
    generalize hA : n / 16 ^ k = A at *
    generalize hB : m / 16 ^ k = B at *
    have w1 : IntKind.i64.wrap (((n : Nat) : Int).tdiv ((16 ^ k : Nat) : Int)) = ((A : Nat) : Int) := by rw [← Int.ofNat_tdiv, hA, IntWalk.i64_in _ (by omega)]
    have w2 : IntKind.i64.wrap (((m : Nat) : Int).tdiv ((16 ^ k : Nat) : Int)) = ((B : Nat) : Int) := by rw [← Int.ofNat_tdiv, hB, IntWalk.i64_in _ (by omega)]
    have w3 : ((A : Nat) : Int).tmod 16 = ((A % 16 : Nat) : Int) := (Int.ofNat_tmod _ 16).symm
    have w4 : ((B : Nat) : Int).tmod 16 = ((B % 16 : Nat) : Int) := (Int.ofNat_tmod _ 16).symm
    have w5 : IntKind.i64.wrap (16 * (k : Nat)) = 16 * (k : Nat) := IntWalk.i64_in _ (by omega)
    have w6 : IntKind.i64.wrap (16 * (k : Nat) + ((B % 16 : Nat) : Int)) = 16 * (k : Nat) + ((B % 16 : Nat) : Int) := IntWalk.i64_in _ (by omega)
    have w7 : IntKind.i64.wrap (((16 ^ k : Nat) : Int).tdiv 16) = ((16 ^ k / 16 : Nat) : Int) := by
      rw [show (16 : Int) = ((16 : Nat) : Int) from rfl, ← Int.ofNat_tdiv, IntWalk.i64_in _ (by omega)]
    have w8 : IntKind.i64.wrap ((k : Int) - 1) = (k : Int) - 1 := IntWalk.i64_in _ (by omega)
    have hpne : ((16 ^ k : Nat) : Int) ≠ 0 := by omega
    have hge : decide ((0 : Int) ≤ (k : Nat)) = true := decide_eq_true (by omega)
    by_cases he : A % 16 = B % 16
    · rw [if_pos he] at hr
      have hne : (!decide (((A % 16 : Nat) : Int) = ((B % 16 : Nat) : Int))) = false := by simp [he]
      generalize hP : 16 ^ k = P at *
      repeat' (first
        | (refine auS ?_)
        | (simp only [w1, w2, w3, w4, w5, w6, w7, w8, hge, hne])
        | (refine auD ?_)
        | (with_reducible refine runR_b (fun h => ?_) (fun h => ?_) <;> first | exact auH | simp only [h, runR_t, runR_f])
        | (with_reducible refine condK_bl ?_ ?_)
        | (with_reducible refine condK_b (fun h => ?_) (fun h => ?_) <;> first | exact auH | skip)
        | (refine runR_n hpne ?_))
      (all_goals first | exact auP | skip)
      refine nx_loop ⟨k, ⟨by omega, hr⟩, Nat.lt_succ_self k, ?_⟩
      refine le_mk ?_ ?_ (Nat.le_refl _)
      all_goals first | refine auE ?_ | exact auE0
      all_goals (repeat' (first | exact trivial | exact rfl | apply And.intro))
      rw [hP]
    · rw [if_neg he] at hr
      have hne : (!decide (((A % 16 : Nat) : Int) = ((B % 16 : Nat) : Int))) = true := by
        have : ¬ ((A % 16 : Nat) : Int) = ((B % 16 : Nat) : Int) := by omega
        simp only [this, decide_false, Bool.not_false]
      rw [hr]
      generalize hP : 16 ^ k = P at *
      repeat' (first
        | (refine auS ?_)
        | (simp only [w1, w2, w3, w4, w5, w6, w7, w8, hge, hne])
        | (refine auD ?_)
        | (with_reducible refine runR_b (fun h => ?_) (fun h => ?_) <;> first | exact auH | simp only [h, runR_t, runR_f])
        | (with_reducible refine condK_bl ?_ ?_)
        | (with_reducible refine condK_b (fun h => ?_) (fun h => ?_) <;> first | exact auH | skip)
        | (refine runR_n hpne ?_))
      (all_goals first | exact auP | skip)
      all_goals refine auF ?_
      all_goals (try first | refine auR ?_ | exact auR0)
      all_goals (try simp only [hsM] at *)
end Go.Proofs.Ytecnjhmpipfldaa
