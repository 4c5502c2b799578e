/-
  Words, longs and sums of texts, in the program and in the reference.
-/
import Derived.Test.YtidogmmfakcfgaaBytesF
import Derived.Test.YtidogmmfakcfgaaSumP
namespace Go.Proofs.Ytidogmmfakcfgaa
set_option linter.unusedVariables false
set_option linter.unusedSimpArgs false
theorem u8_eq {a b : Int} (h : a % 256 = b % 256) : u8 a = u8 b := by unfold u8; rw [h]
def wd (n : Int) : List UInt8 := [u8 (n / 256), u8 n]
def lg (a : Int) : List UInt8 := wd (a / 65536) ++ wd a
theorem wd_len (n : Int) : (wd n).length = 2 := rfl
theorem lg_len (n : Int) : (lg n).length = 4 := rfl
theorem wd_eq {a b : Int} (h : a % 65536 = b % 65536) : wd a = wd b := by
  unfold wd
  rw [u8_eq (show a / 256 % 256 = b / 256 % 256 by omega), u8_eq (show a % 256 = b % 256 by omega)]
theorem wd_mod (n : Int) : wd (n % 65536) = wd n := wd_eq (by omega)
theorem and255 (p : Int) : bits .and .i64 p 255 = p % 256 := by
  have h : ∀ x : BitVec 64, (x &&& 255#64).toNat = x.toNat % 256 := fun x => by
    rw [BitVec.toNat_and]
    exact Nat.and_two_pow_sub_one_eq_mod x.toNat 8
  have e : BitVec.ofInt 64 255 = 255#64 := by decide
  show IntKind.i64.wrap ((BitVec.ofInt 64 p &&& BitVec.ofInt 64 255).toNat : Int) = _
  rw [e, h, BitVec.toNat_ofInt]
  have h2 : ((p % ((2 ^ 64 : Nat) : Int)).toNat : Int) = p % 18446744073709551616 := by
    rw [Int.toNat_of_nonneg (Int.emod_nonneg _ (by decide))]; rfl
  rw [Int.natCast_emod, h2, IntWalk.i64_in _ (by omega)]
  omega
theorem i64_keep62 (n : Int) (h0 : 0 ≤ n) (h1 : n < 2 ^ 62) : IntKind.i64.wrap n = n := IntWalk.i64_in _ (by omega)
theorem word_i64 (a b : Int) (h0 : 0 ≤ a) (h1 : a < 256) (h2 : 0 ≤ b) (h3 : b < 256) : bits .or .i64 (IntKind.i64.wrap (a * 2 ^ 8)) b = 256 * a + b := by
  rw [IntWalk.i64_in _ (by omega), bits_join .i64 62 (by decide) i64_keep62 8 _ _ (by omega) (by omega) (by omega) h2 (by omega) (by omega)]
  omega
theorem min8 : min 8 IntKind.i64.bits = 8 := rfl
theorem word_spec (n : Int) (h0 : 0 ≤ n) : Spec Try.prog 44 [.v (.int .i64 n)] (.v (.string (mkS (wd n)))) := by
  by_cases hm : n ≤ 9223372036854775807
  · have h1 : IntKind.i64.wrap (n.tdiv 256) = n / 256 := by rw [Int.tdiv_eq_ediv_of_nonneg h0, IntWalk.i64_in _ (by omega)]
    have h2 : n.tmod 256 = n % 256 := Int.tmod_eq_emod_of_nonneg h0
    have hb := fun k n1 => bytes2 (n / 256) (n % 256) true k n1
    rw [show mkS [u8 (n / 256), u8 (n % 256)] = mkS (wd n) by unfold wd; rw [u8_eq (show n % 256 % 256 = n % 256 by omega)]] at hb
    refine hspec_fn Try.func44 rfl ok_custref_Word okr_custref_Word rfl (by kernel_rfl) ?_
    intro Γ hW0 hN0 hL0
    have hW := hW0 rfl
    clear hW0 hN0 hL0
    unfold x_custref_Word r_custref_Word
    with_reducible refine auC ?_
    repeat' (first
      | (with_reducible refine auS ?_)
      | (first | (simp only [h1, h2]) | (with_reducible refine runR_callS rfl (hb _ _) ?_))
      | (with_reducible refine auD ?_)
      | ((with_reducible refine auB ?_ ?_); all_goals first | ((with_reducible intro h); first | exact auH | simp only [h, runR_t, runR_f] | skip) | skip)
      | fail)
    (all_goals first | exact auP | skip)
    all_goals with_reducible refine auF ?_
    all_goals (try first | with_reducible refine auR ?_ | exact auR0)
    all_goals (try simp only [hsM] at *)
  · have h1 : u8 (IntKind.i64.wrap (n.tdiv 256)) = u8 (n / 256) := by rw [Int.tdiv_eq_ediv_of_nonneg h0]; exact u8_eq (by rw [IntKind.wrap_i64]; omega)
    have h2 : n.tmod 256 = n % 256 := Int.tmod_eq_emod_of_nonneg h0
    have hb := fun k n1 => bytes2 (IntKind.i64.wrap (n.tdiv 256)) (n % 256) true k n1
    rw [show mkS [u8 (IntKind.i64.wrap (n.tdiv 256)), u8 (n % 256)] = mkS (wd n) by unfold wd; rw [h1, u8_eq (show n % 256 % 256 = n % 256 by omega)]] at hb
    refine hspec_fn Try.func44 rfl ok_custref_Word okr_custref_Word rfl (by kernel_rfl) ?_
    intro Γ hW0 hN0 hL0
    have hW := hW0 rfl
    clear hW0 hN0 hL0
    unfold x_custref_Word r_custref_Word
    with_reducible refine auC ?_
    repeat' (first
      | (with_reducible refine auS ?_)
      | (first | (simp only [h2]) | (with_reducible refine runR_callS rfl (hb _ _) ?_))
      | (with_reducible refine auD ?_)
      | ((with_reducible refine auB ?_ ?_); all_goals first | ((with_reducible intro h); first | exact auH | simp only [h, runR_t, runR_f] | skip) | skip)
      | fail)
    (all_goals first | exact auP | skip)
    all_goals with_reducible refine auF ?_
    all_goals (try first | with_reducible refine auR ?_ | exact auR0)
    all_goals (try simp only [hsM] at *)
theorem long_spec (a : Int) (h0 : 0 ≤ a) (h1 : a < 4294967296) : Spec Try.prog 45 [.v (.int .u32 a)] (.v (.string (mkS (lg a)))) := by
  have e1 : IntKind.u32.wrap (a.tdiv 65536) = a / 65536 := by rw [Int.tdiv_eq_ediv_of_nonneg h0, IntWalk.u32_in _ (by omega)]
  have e2 : a.tmod 65536 = a % 65536 := Int.tmod_eq_emod_of_nonneg h0
  have e3 : IntKind.i64.wrap (a / 65536) = a / 65536 := IntWalk.i64_in _ (by omega)
  have e4 : IntKind.i64.wrap (a % 65536) = a % 65536 := IntWalk.i64_in _ (by omega)
  have w1 := word_spec (a / 65536) (by omega)
  have w2 := word_spec (a % 65536) (by omega)
  rw [wd_mod] at w2
  refine hspec_fn Try.func45 rfl ok_custref_Long okr_custref_Long rfl (by kernel_rfl) ?_
  intro Γ hW0 hN0 hL0
  have hW := hW0 rfl
  clear hW0 hN0 hL0
  unfold x_custref_Long r_custref_Long
  with_reducible refine auC ?_
  repeat' (first
    | (with_reducible refine auS ?_)
    | (first | (simp only [e1, e2, e3, e4, mkS_app]) | (with_reducible refine runR_call w1 ?_) | (with_reducible refine runR_call w2 ?_))
    | (with_reducible refine auD ?_)
    | ((with_reducible refine auB ?_ ?_); all_goals first | ((with_reducible intro h); first | exact auH | simp only [h, runR_t, runR_f] | skip) | skip)
    | (refine runR_n (by simp only [mkS_size, wd_len]; omega) ?_))
  (all_goals first | exact auP | skip)
  all_goals with_reducible refine auF ?_
  all_goals (try first | with_reducible refine auR ?_ | exact auR0)
  all_goals (try simp only [hsM] at *)
  all_goals rfl
theorem bN_next {l : List UInt8} {i : Nat} : wordAtI l i = 256 * (bN l i : Nat) + (bN l (i + 1) : Nat) := rfl
theorem wordAt_spec (l : List UInt8) (i : Nat) (hi : i < l.length) (hl : l.length ≤ 9223372036854775806) (ii : Int) (hii : ii = (i : Nat)) : Spec Try.prog 71 [.v (.string (mkS l)), .v (.int .i64 ii)] (.v (.int .i64 (wordAtI l i))) := by
  subst hii
  have hb := bN_lt l i
  have hb2 := bN_lt l (i + 1)
  have e1 : IntKind.i64.wrap (bN l i : Nat) = (bN l i : Nat) := IntWalk.i64_in _ (by omega)
  have e2 : IntKind.i64.wrap (bN l (i + 1) : Nat) = (bN l (i + 1) : Nat) := IntWalk.i64_in _ (by omega)
  have e3 : IntKind.i64.wrap ((i : Int) + 1) = ((i + 1 : Nat) : Int) := by rw [IntWalk.i64_in _ (by omega)]; omega
  have e4 : IntKind.i64.wrap (256 * (bN l i : Nat)) = 256 * (bN l i : Nat) := IntWalk.i64_in _ (by omega)
  have e5 : IntKind.i64.wrap (256 * (bN l i : Nat) + (bN l (i + 1) : Nat)) = wordAtI l i := IntWalk.i64_in _ (by omega)
  refine hspec_fn Try.func71 rfl ok_custref_WordAt okr_custref_WordAt rfl (by kernel_rfl) ?_
  intro Γ hW0 hN0 hL0
  have hW := hW0 rfl
  clear hW0 hN0 hL0
  unfold x_custref_WordAt r_custref_WordAt
  with_reducible refine auC ?_
  repeat' (first
    | (with_reducible refine auS ?_)
    | (simp only [mkS_size, mkS_at, e1, e2, e3, e4, e5, Int.toNat_natCast])
    | (with_reducible refine auD ?_)
    | ((with_reducible refine auB ?_ ?_); all_goals first | ((with_reducible intro h); first | exact auH | simp only [h, runR_t, runR_f] | skip) | skip)
    | fail)
  (all_goals first | exact auP | skip)
  all_goals with_reducible refine auF ?_
  all_goals (try first | with_reducible refine auR ?_ | exact auR0)
  all_goals (try simp only [hsM] at *)
  have : bN l (i + 1) = 0 := by unfold bN; rw [List.getElem?_eq_none (by omega)]; rfl
  refine dint ?_
  rw [bN_next, this]
  omega
theorem endAround_spec (a b : Int) (ha : 0 ≤ a ∧ a ≤ 65535) (hb : 0 ≤ b ∧ b ≤ 65535) : Spec Try.prog 70 [.v (.int .i64 a), .v (.int .i64 b)] (.v (.int .i64 (foldI (a + b)))) := by
  have e1 : IntKind.i64.wrap (a + b) = a + b := IntWalk.i64_in _ (by omega)
  have e2 : IntKind.i64.wrap (a + b - 65535) = a + b - 65535 := IntWalk.i64_in _ (by omega)
  refine hspec_fn Try.func70 rfl ok_custref_EndAround okr_custref_EndAround rfl (by kernel_rfl) ?_
  intro Γ hW0 hN0 hL0
  have hW := hW0 rfl
  clear hW0 hN0 hL0
  unfold x_custref_EndAround r_custref_EndAround
  with_reducible refine auC ?_
  repeat' (first
    | (with_reducible refine auS ?_)
    | (simp only [e1, e2])
    | (with_reducible refine auD ?_)
    | ((with_reducible refine auB ?_ ?_); all_goals first | ((with_reducible intro h); first | exact auH | simp only [h, runR_t, runR_f] | skip) | skip)
    | fail)
  (all_goals first | exact auP | skip)
  all_goals with_reducible refine auF ?_
  all_goals (try first | with_reducible refine auR ?_ | exact auR0)
  all_goals (try simp only [hsM] at *)
  all_goals (refine dint ?_; unfold foldI; split <;> omega)
theorem sumOf_spec (a : Int) (ha : 0 ≤ a ∧ a ≤ 65535) (l : List UInt8) (hl : l.length ≤ 9223372036854775800) : Spec Try.prog 56 [.v (.int .i64 a), .v (.string (mkS l))] (.v (.int .i64 (foldI (a + wsum l)))) := by
  refine hspec_fn Try.func56 rfl ok_custref_SumOf okr_custref_SumOf rfl (by kernel_rfl) ?_
  intro Γ hW0 hN0 hL0
  have hW := hW0 rfl
  clear hW0 hN0 hL0
  unfold x_custref_SumOf r_custref_SumOf
  with_reducible refine auC ?_
  repeat' (first
    | (with_reducible refine auS ?_)
    | fail
    | (with_reducible refine auD ?_)
    | ((with_reducible refine auB ?_ ?_); all_goals first | ((with_reducible intro h); first | exact auH | simp only [h, runR_t, runR_f] | skip) | skip)
    | fail)
  refine go_loopH (α := Nat × Int) (fun x => [(⟨.d0, .d0, .d0⟩, .v (.int .i64 x.2)), (⟨.d0, .d0, .d5⟩, .v (.int .i64 (x.1 : Nat)))]) (fun _ => []) (fun _ => Γ.g0) (fun x => l.length - x.1) (fun x => x.1 ≤ l.length + 1 ∧ (0 ≤ x.2 ∧ x.2 ≤ 65535) ∧ foldI (x.2 + wsum (l.drop x.1)) = foldI (a + wsum l)) (0, a) ⟨Nat.zero_le _, ha, rfl⟩ ?_ ?_
  · skip
    refine le_mk ?_ ?_ (Nat.le_refl _)
    all_goals first | with_reducible refine auE ?_ | exact auE0
    all_goals (repeat' (first | exact trivial | exact rfl | apply And.intro))
  rintro ⟨i, x⟩ ⟨hi, hx, hf⟩
  dsimp only at hi hx hf ⊢
  with_reducible refine auL ?_
  by_cases hlt : i < l.length
  · have hw := wordAt_spec l i hlt (by omega) i rfl
    have hwb := wordAtI_bd l i
    have he := endAround_spec x (wordAtI l i) hx hwb
    have hfb := foldI_bd (x + wordAtI l i) (by omega)
    rw [wsum_at l i hlt] at hf
    have hd := (wsum_bd (l.drop (i + 2))).1
    repeat' (first
      | (with_reducible refine auS ?_)
      | (first | (simp only [mkS_size]) | (with_reducible refine runR_call hw ?_) | (with_reducible refine runR_call he ?_))
      | (with_reducible refine auD ?_)
      | ((with_reducible refine auB ?_ ?_); all_goals first | ((with_reducible intro h); first | exact auH | simp only [h, runR_t, runR_f] | skip) | skip)
      | fail)
    (all_goals first | exact auP | skip)
    refine nx_loop ⟨(i + 2, foldI (x + wordAtI l i)), ⟨by omega, hfb, ?_⟩, by dsimp only; omega, ?_⟩
    · rw [foldI_add _ _ (by omega) hd, Int.add_assoc]; exact hf
    refine le_mk ?_ ?_ (Nat.le_refl _)
    all_goals first | with_reducible refine auE ?_ | exact auE0
    all_goals (repeat' (first | exact trivial | exact rfl | apply And.intro))
    all_goals exact dint ((IntWalk.i64_in _ (by omega)).trans (by omega))
  · rw [List.drop_eq_nil_of_le (by omega), wsum, Int.add_zero, foldI_small x hx.1 hx.2] at hf
    rw [← hf]
    repeat' (first
      | (with_reducible refine auS ?_)
      | (simp only [mkS_size])
      | (with_reducible refine auD ?_)
      | ((with_reducible refine auB ?_ ?_); all_goals first | ((with_reducible intro h); first | exact auH | simp only [h, runR_t, runR_f] | skip) | skip)
      | fail)
    (all_goals first | exact auP | skip)
    all_goals with_reducible refine auF ?_
    all_goals (try first | with_reducible refine auR ?_ | exact auR0)
    all_goals (try simp only [hsM] at *)
theorem check_spec (l : List UInt8) (hl : l.length ≤ 9223372036854775800) : Spec Try.prog 46 [.v (.string (mkS l))] (.v (.int .i64 (65535 - foldI (wsum l)))) := by
  have hs := sumOf_spec 0 (by decide) l hl
  rw [Int.zero_add] at hs
  have hb := foldI_bd (wsum l) (wsum_bd l).1
  have e : IntKind.i64.wrap (65535 - foldI (wsum l)) = 65535 - foldI (wsum l) := IntWalk.i64_in _ (by omega)
  refine hspec_fn Try.func46 rfl ok_custref_Check okr_custref_Check rfl (by kernel_rfl) ?_
  intro Γ hW0 hN0 hL0
  have hW := hW0 rfl
  clear hW0 hN0 hL0
  unfold x_custref_Check r_custref_Check
  with_reducible refine auC ?_
  repeat' (first
    | (with_reducible refine auS ?_)
    | (first | (simp only [e]) | (with_reducible refine runR_call hs ?_))
    | (with_reducible refine auD ?_)
    | ((with_reducible refine auB ?_ ?_); all_goals first | ((with_reducible intro h); first | exact auH | simp only [h, runR_t, runR_f] | skip) | skip)
    | fail)
  (all_goals first | exact auP | skip)
  all_goals with_reducible refine auF ?_
  all_goals (try first | with_reducible refine auR ?_ | exact auR0)
  all_goals (try simp only [hsM] at *)
theorem fold_spec (n : Int) (h0 : 0 ≤ n) (h1 : n ≤ 18446744073709551615) : Spec Try.prog 67 [.v (.int .u64 n)] (.v (.int .u16 (foldI n))) := by
  have m16 : min 16 IntKind.u64.bits = 16 := rfl
  refine hspec_fn Try.func67 rfl ok_sum_fold okr_sum_fold rfl (by kernel_rfl) ?_
  intro Γ hW0 hN0 hL0
  have hW := hW0 rfl
  clear hW0 hN0 hL0
  unfold x_sum_fold r_sum_fold
  with_reducible refine auC ?_
  repeat' (first
    | (with_reducible refine auS ?_)
    | fail
    | (with_reducible refine auD ?_)
    | ((with_reducible refine auB ?_ ?_); all_goals first | ((with_reducible intro h); first | exact auH | simp only [h, runR_t, runR_f] | skip) | skip)
    | fail)
  refine go_loopH (α := Int) (fun m => [(⟨.d0, .d0, .d0⟩, .v (.int .u64 m))]) (fun _ => []) (fun _ => Γ.g0) (fun m => m.toNat) (fun m => 0 ≤ m ∧ m ≤ 18446744073709551615 ∧ foldI m = foldI n) n ⟨h0, h1, rfl⟩ ?_ ?_
  · skip
    refine le_mk ?_ ?_ (Nat.le_refl _)
    all_goals first | with_reducible refine auE ?_ | exact auE0
    all_goals (repeat' (first | exact trivial | exact rfl | apply And.intro))
  rintro m ⟨hm0, hm1, hf⟩
  dsimp only at hm0 hm1 hf ⊢
  with_reducible refine auL ?_
  by_cases hlt : 65535 < m
  · have hb := and65535 m hm0 hm1
    have e1 : m.fdiv (2 ^ 16) = m / 65536 := Int.fdiv_eq_ediv_of_nonneg _ (by decide)
    have e2 : IntKind.u64.wrap (m / 65536 + m % 65536) = m / 65536 + m % 65536 := u64_keep _ (by omega) (by omega)
    repeat' (first
      | (with_reducible refine auS ?_)
      | (simp only [m16, hb, e1, e2])
      | (with_reducible refine auD ?_)
      | ((with_reducible refine auB ?_ ?_); all_goals first | ((with_reducible intro h); first | exact auH | simp only [h, runR_t, runR_f] | skip) | skip)
      | fail)
    (all_goals first | exact auP | skip)
    refine nx_loop ⟨m / 65536 + m % 65536, ⟨by omega, by omega, (foldI_step m hlt).trans hf⟩, by omega, ?_⟩
    refine le_mk ?_ ?_ (Nat.le_refl _)
    all_goals first | with_reducible refine auE ?_ | exact auE0
    all_goals (repeat' (first | exact trivial | exact rfl | apply And.intro))
  · rw [foldI_small m hm0 (by omega)] at hf
    have e3 : IntKind.u16.wrap m = m := IntWalk.u16_in _ (by omega)
    rw [← hf]
    repeat' (first
      | (with_reducible refine auS ?_)
      | (simp only [e3])
      | (with_reducible refine auD ?_)
      | ((with_reducible refine auB ?_ ?_); all_goals first | ((with_reducible intro h); first | exact auH | simp only [h, runR_t, runR_f] | skip) | skip)
      | fail)
    (all_goals first | exact auP | skip)
    all_goals with_reducible refine auF ?_
    all_goals (try first | with_reducible refine auR ?_ | exact auR0)
    all_goals (try simp only [hsM] at *)
theorem word_u64b (a b : Nat) (ha : a < 256) (hb : b < 256) : bits .or .u64 (IntKind.u64.wrap ((a : Int) * 2 ^ 8)) (b : Nat) = 256 * (a : Int) + (b : Nat) := by
  rw [u64_keep _ (by omega) (by omega), u64_or_add 8 _ _ (by omega) (by omega) (by omega) (by omega) (by omega) (by omega)]
  omega
theorem add_spec (n : Int) (h0 : 0 ≤ n) (h1 : n ≤ 65535) (l : List UInt8) (hl : l.length ≤ 140737488351300) : Spec Try.prog 52 [.v (.int .u16 n), .v (.string (mkS l))] (.v (.int .u16 (foldI (n + wsum l)))) := by
  have hw0 := wsum_bd l
  have e0 : IntKind.u64.wrap n = n := u64_keep _ h0 (by omega)
  have m8 : min 8 IntKind.u64.bits = 8 := rfl
  have hem : (ByteArray.mk #[] : ByteArray) = mkS [] := rfl
  refine hspec_fn Try.func52 rfl ok_sum_Add okr_sum_Add rfl (by kernel_rfl) ?_
  intro Γ hW0 hN0 hL0
  have hW := hW0 rfl
  clear hW0 hN0 hL0
  unfold x_sum_Add r_sum_Add
  with_reducible refine auC ?_
  repeat' (first
    | (with_reducible refine auS ?_)
    | (simp only [e0])
    | (with_reducible refine auD ?_)
    | ((with_reducible refine auB ?_ ?_); all_goals first | ((with_reducible intro h); first | exact auH | simp only [h, runR_t, runR_f] | skip) | skip)
    | fail)
  refine go_loopH (α := Int × List UInt8) (fun x => [(⟨.d0, .d0, .d5⟩, .v (.int .u64 x.1)), (⟨.d0, .d0, .d1⟩, .v (.string (mkS x.2)))]) (fun _ => []) (fun _ => Γ.g0) (fun x => x.2.length) (fun x => 0 ≤ x.1 ∧ x.1 + wsum x.2 = n + wsum l ∧ x.2.length ≤ l.length) (n, l) ⟨h0, rfl, Nat.le_refl _⟩ ?_ ?_
  · skip
    refine le_mk ?_ ?_ (Nat.le_refl _)
    all_goals first | with_reducible refine auE ?_ | exact auE0
    all_goals (repeat' (first | exact trivial | exact rfl | apply And.intro))
  rintro ⟨m, t⟩ ⟨hm, hf, htl⟩
  dsimp only at hm hf htl ⊢
  with_reducible refine auL ?_
  have hb0 := bN_lt t 0
  have hb1 := bN_lt t 1
  have c0 : IntKind.u64.wrap (bN t 0 : Nat) = (bN t 0 : Nat) := u64_keep _ (by omega) (by omega)
  have c1 : IntKind.u64.wrap (bN t 1 : Nat) = (bN t 1 : Nat) := u64_keep _ (by omega) (by omega)
  by_cases hlt : 1 < t.length
  · have hw2 : wsum t = 256 * (bN t 0 : Nat) + (bN t 1 : Nat) + wsum (t.drop 2) := wsum_at t 0 (by omega)
    have hd := wsum_bd (t.drop 2)
    have hor := word_u64b (bN t 0) (bN t 1) hb0 hb1
    have e1 : IntKind.u64.wrap (m + (256 * (bN t 0 : Nat) + (bN t 1 : Nat))) = m + (256 * (bN t 0 : Nat) + (bN t 1 : Nat)) := u64_keep _ (by omega) (by omega)
    have e4 : (mkS t).extract 2 t.length = mkS (t.drop 2) := by rw [mkS_ext, List.take_of_length_le (by simp)]
    repeat' (first
      | (with_reducible refine auS ?_)
      | (simp only [mkS_size, mkS_at, m8, c0, c1, hor, e1, e4, Int.toNat_natCast])
      | (with_reducible refine auD ?_)
      | ((with_reducible refine auB ?_ ?_); all_goals first | ((with_reducible intro h); first | exact auH | simp only [h, runR_t, runR_f] | skip) | skip)
      | fail)
    (all_goals first | exact auP | skip)
    refine nx_loop ⟨(m + (256 * (bN t 0 : Nat) + (bN t 1 : Nat)), t.drop 2), ⟨by dsimp only; omega, by dsimp only; omega, by simp; omega⟩, by simp; omega, ?_⟩
    refine le_mk ?_ ?_ (Nat.le_refl _)
    all_goals first | with_reducible refine auE ?_ | exact auE0
    all_goals (repeat' (first | exact trivial | exact rfl | apply And.intro))
  · rcases t with _ | ⟨b, _ | ⟨b2, r⟩⟩
    · have hfo := fold_spec m hm (by simp only [wsum] at hf; omega)
      rw [← hf, wsum, Int.add_zero]
      repeat' (first
        | (with_reducible refine auS ?_)
        | (first | (simp only [mkS_size, hem, mkS_inj]) | (with_reducible refine runR_call hfo ?_))
        | (with_reducible refine auD ?_)
        | ((with_reducible refine auB ?_ ?_); all_goals first | ((with_reducible intro h); first | exact auH | simp only [h, runR_t, runR_f] | skip) | skip)
        | fail)
      (all_goals first | exact auP | skip)
      all_goals first
        | (exfalso; simp at h; done)
        | skip
      all_goals with_reducible refine auF ?_
      all_goals (try first | with_reducible refine auR ?_ | exact auR0)
      all_goals (try simp only [hsM] at *)
    · have hbb : ((bN [b] 0 : Nat) : Int) = (b.toNat : Int) := rfl
      have e1 : IntKind.u64.wrap (IntKind.u64.wrap ((bN [b] 0 : Nat) * 2 ^ 8) + m) = m + 256 * (b.toNat : Int) := by
        rw [u64_keep (_ * _) (by omega) (by omega), u64_keep _ (by omega) (by simp only [wsum] at hf; omega)]; omega
      have e2 : IntKind.u64.wrap (m + IntKind.u64.wrap ((bN [b] 0 : Nat) * 2 ^ 8)) = m + 256 * (b.toNat : Int) := by rw [Int.add_comm]; exact e1
      have hfo := fold_spec (m + 256 * (b.toNat : Int)) (by omega) (by simp only [wsum] at hf; omega)
      rw [← hf, wsum]
      repeat' (first
        | (with_reducible refine auS ?_)
        | (first | (simp only [mkS_size, mkS_at, m8, c0, e2, hem, mkS_inj, Int.toNat_natCast]) | (with_reducible refine runR_call hfo ?_))
        | (with_reducible refine auD ?_)
        | ((with_reducible refine auB ?_ ?_); all_goals first | ((with_reducible intro h); first | exact auH | simp only [h, runR_t, runR_f] | skip) | skip)
        | fail)
      (all_goals first | exact auP | skip)
      all_goals first
        | (exfalso; simp at h; done)
        | skip
      all_goals with_reducible refine auF ?_
      all_goals (try first | with_reducible refine auR ?_ | exact auR0)
      all_goals (try simp only [hsM] at *)
    · simp at hlt
theorem of_spec (l : List UInt8) (hl : l.length ≤ 140737488351300) : Spec Try.prog 36 [.v (.string (mkS l))] (.v (.int .u16 (65535 - foldI (wsum l)))) := by
  have ha := add_spec 0 (by decide) (by decide) l hl
  rw [Int.zero_add] at ha
  have hb := foldI_bd (wsum l) (wsum_bd l).1
  have hx := xor_max_u16 (foldI (wsum l)) hb.1 hb.2
  refine hspec_fn Try.func36 rfl ok_sum_Of okr_sum_Of rfl (by kernel_rfl) ?_
  intro Γ hW0 hN0 hL0
  have hW := hW0 rfl
  clear hW0 hN0 hL0
  unfold x_sum_Of r_sum_Of
  with_reducible refine auC ?_
  repeat' (first
    | (with_reducible refine auS ?_)
    | (first | (with_reducible refine runR_call ha ?_))
    | (with_reducible refine auD ?_)
    | ((with_reducible refine auB ?_ ?_); all_goals first | ((with_reducible intro h); first | exact auH | simp only [h, runR_t, runR_f] | skip) | skip)
    | fail)
  (all_goals first | exact auP | skip)
  all_goals with_reducible refine auF ?_
  all_goals (try first | with_reducible refine auR ?_ | exact auR0)
  all_goals (try simp only [hsM] at *)
  all_goals exact dint hx
theorem between_spec (n lo hi : Int) : Spec Try.prog 42 [.v (.int .i64 n), .v (.int .i64 lo), .v (.int .i64 hi)] (.v (.bool (decide (lo ≤ n ∧ n ≤ hi)))) := by
  refine hspec_fn Try.func42 rfl ok_custref_Between okr_custref_Between rfl (by kernel_rfl) ?_
  intro Γ hW0 hN0 hL0
  have hW := hW0 rfl
  clear hW0 hN0 hL0
  unfold x_custref_Between r_custref_Between
  with_reducible refine auC ?_
  repeat' (first
    | (with_reducible refine auS ?_)
    | fail
    | (with_reducible refine auD ?_)
    | ((with_reducible refine auB ?_ ?_); all_goals first | ((with_reducible intro h); first | exact auH | simp only [h, runR_t, runR_f] | skip) | skip)
    | fail)
  all_goals with_reducible refine auF ?_
  all_goals (try first | with_reducible refine auR ?_ | exact auR0)
  all_goals (try simp only [hsM] at *)
  · exact dbool (by simp [h])
  · exact dbool (by simp [h])
def und (a b p n : Int) : List UInt8 := lg a ++ lg b ++ wd (p % 256) ++ wd n
theorem und_len (a b p n : Int) : (und a b p n).length = 12 := rfl
theorem mod256 (p : Int) : (IntKind.i64.wrap (p.tmod 256 + 256)).tmod 256 = p % 256 := by
  have h1 : p.tmod 256 = p % 256 ∨ p.tmod 256 = p % 256 - 256 := by
    by_cases h : 0 ≤ p
    · exact .inl (Int.tmod_eq_emod_of_nonneg h)
    · have : p.tmod 256 = -((-p) % 256) := by rw [← Int.tmod_eq_emod_of_nonneg (by omega : 0 ≤ -p), Int.neg_tmod, Int.neg_neg]
      omega
  rw [IntWalk.i64_in _ (by omega), Int.tmod_eq_emod_of_nonneg (by omega)]
  omega
theorem mod65536 (p : Int) : (IntKind.i64.wrap (p.tmod 65536 + 65536)).tmod 65536 = p % 65536 := by
  have h1 : p.tmod 65536 = p % 65536 ∨ p.tmod 65536 = p % 65536 - 65536 := by
    by_cases h : 0 ≤ p
    · exact .inl (Int.tmod_eq_emod_of_nonneg h)
    · have : p.tmod 65536 = -((-p) % 65536) := by rw [← Int.tmod_eq_emod_of_nonneg (by omega : 0 ≤ -p), Int.neg_tmod, Int.neg_neg]
      omega
  rw [IntWalk.i64_in _ (by omega), Int.tmod_eq_emod_of_nonneg (by omega)]
  omega
end Go.Proofs.Ytidogmmfakcfgaa
