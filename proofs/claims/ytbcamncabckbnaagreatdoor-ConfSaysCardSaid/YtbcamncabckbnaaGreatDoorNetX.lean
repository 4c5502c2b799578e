/-
  Words, longs and sums of texts, in the program and in the reference.
-/
import Derived.Test.YtbcamncabckbnaaGreatDoorBytesF
import Derived.Test.YtbcamncabckbnaaGreatDoorSumP
namespace Go.Proofs.YtbcamncabckbnaaGreatDoor
set_option linter.unusedVariables false
set_option linter.unusedSimpArgs false
theorem u8_eq {a b : Int} (h : a % 256 = b % 256) : u8 a = u8 b := by unfold u8; rw [h]
/-- Two bytes; four. -/
def wd (n : Int) : List UInt8 := [u8 (n / 256), u8 n]
def lg (a : Int) : List UInt8 := wd (a / 65536) ++ wd a
theorem wd_len (n : Int) : (wd n).length = 2 := rfl
theorem lg_len (n : Int) : (lg n).length = 4 := rfl
theorem wd_eq {a b : Int} (h : a % 65536 = b % 65536) : wd a = wd b := by
  unfold wd
  rw [u8_eq (show a / 256 % 256 = b / 256 % 256 by omega), u8_eq (show a % 256 = b % 256 by omega)]
theorem wd_mod (n : Int) : wd (n % 65536) = wd n := wd_eq (by omega)
theorem and255 (p : Int) : bits .and .i64 p 255 = p % 256 := by
  have h : ∀ x : BitVec 64, (x &&& 255#64).toNat = x.toNat % 256 := fun x => by
    rw [BitVec.toNat_and]
    exact Nat.and_two_pow_sub_one_eq_mod x.toNat 8
  have e : BitVec.ofInt 64 255 = 255#64 := by decide
  show IntKind.i64.wrap ((BitVec.ofInt 64 p &&& BitVec.ofInt 64 255).toNat : Int) = _
  rw [e, h, BitVec.toNat_ofInt]
  have h2 : ((p % ((2 ^ 64 : Nat) : Int)).toNat : Int) = p % 18446744073709551616 := by
    rw [Int.toNat_of_nonneg (Int.emod_nonneg _ (by decide))]; rfl
  rw [Int.natCast_emod, h2, IntWalk.i64_in _ (by omega)]
  omega
theorem i64_keep62 (n : Int) (h0 : 0 ≤ n) (h1 : n < 2 ^ 62) : IntKind.i64.wrap n = n := IntWalk.i64_in _ (by omega)
theorem word_i64 (a b : Int) (h0 : 0 ≤ a) (h1 : a < 256) (h2 : 0 ≤ b) (h3 : b < 256) : bits .or .i64 (IntKind.i64.wrap (a * 2 ^ 8)) b = 256 * a + b := by
  rw [IntWalk.i64_in _ (by omega), bits_join .i64 62 (by decide) i64_keep62 8 _ _ (by omega) (by omega) (by omega) h2 (by omega) (by omega)]
  omega
theorem min8 : min 8 IntKind.i64.bits = 8 := rfl
theorem word_spec (n : Int) (h0 : 0 ≤ n) : Spec Tryz.prog 61 [.v (.int .i64 n)] (.v (.string (mkS (wd n)))) := by
  by_cases hm : n ≤ 9223372036854775807
  · have h1 : IntKind.i64.wrap (n.tdiv 256) = n / 256 := by rw [Int.tdiv_eq_ediv_of_nonneg h0, IntWalk.i64_in _ (by omega)]
    have h2 : n.tmod 256 = n % 256 := Int.tmod_eq_emod_of_nonneg h0
    have hb := fun k n1 => bytes2 (n / 256) (n % 256) true k n1
    rw [show mkS [u8 (n / 256), u8 (n % 256)] = mkS (wd n) by unfold wd; rw [u8_eq (show n % 256 % 256 = n % 256 by omega)]] at hb
    refine hspec_fn Tryz.func61 rfl ok_custref_Word okr_custref_Word rfl (by kernel_rfl) ?_
    intro Γ hW0 hN0 hL0
    have hW := hW0 rfl
    clear hW0 hN0 hL0
    unfold x_custref_Word r_custref_Word
    with_reducible refine auC ?_
    repeat' (first
      | (with_reducible refine auS ?_)
      | (first | (simp only [h1, h2]) | (with_reducible refine runR_callS rfl (hb _ _) ?_))
      | (with_reducible refine auD ?_)
      | ((with_reducible refine auB ?_ ?_); all_goals first | (intro h; first | exact auH | simp only [h, runR_t, runR_f] | skip) | skip)
      | fail)
    (all_goals first | exact auP | skip)
    all_goals with_reducible refine auF ?_
    all_goals (try first | with_reducible refine auR ?_ | exact auR0)
    all_goals (try simp only [hsM] at *)
  · have h1 : u8 (IntKind.i64.wrap (n.tdiv 256)) = u8 (n / 256) := by rw [Int.tdiv_eq_ediv_of_nonneg h0]; exact u8_eq (by rw [IntKind.wrap_i64]; omega)
    have h2 : n.tmod 256 = n % 256 := Int.tmod_eq_emod_of_nonneg h0
    have hb := fun k n1 => bytes2 (IntKind.i64.wrap (n.tdiv 256)) (n % 256) true k n1
    rw [show mkS [u8 (IntKind.i64.wrap (n.tdiv 256)), u8 (n % 256)] = mkS (wd n) by unfold wd; rw [h1, u8_eq (show n % 256 % 256 = n % 256 by omega)]] at hb
    refine hspec_fn Tryz.func61 rfl ok_custref_Word okr_custref_Word rfl (by kernel_rfl) ?_
    intro Γ hW0 hN0 hL0
    have hW := hW0 rfl
    clear hW0 hN0 hL0
    unfold x_custref_Word r_custref_Word
    with_reducible refine auC ?_
    repeat' (first
      | (with_reducible refine auS ?_)
      | (first | (simp only [h2]) | (with_reducible refine runR_callS rfl (hb _ _) ?_))
      | (with_reducible refine auD ?_)
      | ((with_reducible refine auB ?_ ?_); all_goals first | (intro h; first | exact auH | simp only [h, runR_t, runR_f] | skip) | skip)
      | fail)
    (all_goals first | exact auP | skip)
    all_goals with_reducible refine auF ?_
    all_goals (try first | with_reducible refine auR ?_ | exact auR0)
    all_goals (try simp only [hsM] at *)
theorem long_spec (a : Int) (h0 : 0 ≤ a) (h1 : a < 4294967296) : Spec Tryz.prog 40 [.v (.int .u32 a)] (.v (.string (mkS (lg a)))) := by
  have e1 : IntKind.u32.wrap (a.tdiv 65536) = a / 65536 := by rw [Int.tdiv_eq_ediv_of_nonneg h0, IntWalk.u32_in _ (by omega)]
  have e2 : a.tmod 65536 = a % 65536 := Int.tmod_eq_emod_of_nonneg h0
  have e3 : IntKind.i64.wrap (a / 65536) = a / 65536 := IntWalk.i64_in _ (by omega)
  have e4 : IntKind.i64.wrap (a % 65536) = a % 65536 := IntWalk.i64_in _ (by omega)
  have w1 := word_spec (a / 65536) (by omega)
  have w2 := word_spec (a % 65536) (by omega)
  rw [wd_mod] at w2
  refine hspec_fn Tryz.func40 rfl ok_custref_Long okr_custref_Long rfl (by kernel_rfl) ?_
  intro Γ hW0 hN0 hL0
  have hW := hW0 rfl
  clear hW0 hN0 hL0
  unfold x_custref_Long r_custref_Long
  with_reducible refine auC ?_
  repeat' (first
    | (with_reducible refine auS ?_)
    | (first | (simp only [e1, e2, e3, e4, mkS_app]) | (with_reducible refine runR_call w1 ?_) | (with_reducible refine runR_call w2 ?_))
    | (with_reducible refine auD ?_)
    | ((with_reducible refine auB ?_ ?_); all_goals first | (intro h; first | exact auH | simp only [h, runR_t, runR_f] | skip) | skip)
    | (refine runR_n (by simp only [mkS_size, wd_len]; omega) ?_))
  (all_goals first | exact auP | skip)
  all_goals with_reducible refine auF ?_
  all_goals (try first | with_reducible refine auR ?_ | exact auR0)
  all_goals (try simp only [hsM] at *)
  all_goals rfl
theorem bN_next {l : List UInt8} {i : Nat} : wordAtI l i = 256 * (bN l i : Nat) + (bN l (i + 1) : Nat) := rfl
theorem word_u64b (a b : Nat) (ha : a < 256) (hb : b < 256) : bits .or .u64 (IntKind.u64.wrap ((a : Int) * 2 ^ 8)) (b : Nat) = 256 * (a : Int) + (b : Nat) := by
  rw [u64_keep _ (by omega) (by omega), u64_or_add 8 _ _ (by omega) (by omega) (by omega) (by omega) (by omega) (by omega)]
  omega
theorem between_spec (n lo hi : Int) : Spec Tryz.prog 34 [.v (.int .i64 n), .v (.int .i64 lo), .v (.int .i64 hi)] (.v (.bool (decide (lo ≤ n ∧ n ≤ hi)))) := by
  refine hspec_fn Tryz.func34 rfl ok_custref_Between okr_custref_Between rfl (by kernel_rfl) ?_
  intro Γ hW0 hN0 hL0
  have hW := hW0 rfl
  clear hW0 hN0 hL0
  unfold x_custref_Between r_custref_Between
  with_reducible refine auC ?_
  repeat' (first
    | (with_reducible refine auS ?_)
    | fail
    | (with_reducible refine auD ?_)
    | ((with_reducible refine auB ?_ ?_); all_goals first | (intro h; first | exact auH | simp only [h, runR_t, runR_f] | skip) | skip)
    | fail)
  all_goals with_reducible refine auF ?_
  all_goals (try first | with_reducible refine auR ?_ | exact auR0)
  all_goals (try simp only [hsM] at *)
  · exact dbool (by simp [h])
  · exact dbool (by simp [h])
/-- The bytes ahead of a letter. -/
def und (a b p n : Int) : List UInt8 := lg a ++ lg b ++ wd (p % 256) ++ wd n
theorem und_len (a b p n : Int) : (und a b p n).length = 12 := rfl
theorem mod256 (p : Int) : (IntKind.i64.wrap (p.tmod 256 + 256)).tmod 256 = p % 256 := by
  have h1 : p.tmod 256 = p % 256 ∨ p.tmod 256 = p % 256 - 256 := by
    by_cases h : 0 ≤ p
    · exact .inl (Int.tmod_eq_emod_of_nonneg h)
    · have : p.tmod 256 = -((-p) % 256) := by rw [← Int.tmod_eq_emod_of_nonneg (by omega : 0 ≤ -p), Int.neg_tmod, Int.neg_neg]
      omega
  rw [IntWalk.i64_in _ (by omega), Int.tmod_eq_emod_of_nonneg (by omega)]
  omega
theorem mod65536 (p : Int) : (IntKind.i64.wrap (p.tmod 65536 + 65536)).tmod 65536 = p % 65536 := by
  have h1 : p.tmod 65536 = p % 65536 ∨ p.tmod 65536 = p % 65536 - 65536 := by
    by_cases h : 0 ≤ p
    · exact .inl (Int.tmod_eq_emod_of_nonneg h)
    · have : p.tmod 65536 = -((-p) % 65536) := by rw [← Int.tmod_eq_emod_of_nonneg (by omega : 0 ≤ -p), Int.neg_tmod, Int.neg_neg]
      omega
  rw [IntWalk.i64_in _ (by omega), Int.tmod_eq_emod_of_nonneg (by omega)]
  omega
end Go.Proofs.YtbcamncabckbnaaGreatDoor
