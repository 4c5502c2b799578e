/-
  Tries in the reference: digits, bits, nets, beginnings.
-/
import Derived.Test.YtlfbjdafnappdaaTriB
import Derived.Test.YtlfbjdafnappdaaStr
namespace Go.Proofs.Ytlfbjdafnappdaa
set_option linter.unusedVariables false
set_option linter.unusedSimpArgs false
theorem between_spec (n lo hi : Int) : Spec Try.prog 26 [.v (.int .i64 n), .v (.int .i64 lo), .v (.int .i64 hi)] (.v (.bool (decide (lo ≤ n ∧ n ≤ hi)))) := by
  refine hspec_fn Try.func26 rfl ok_custref_Between okr_custref_Between rfl (by kernel_rfl) ?_
  intro Γ hW0 hN0 hL0
  have hW := hW0 rfl
  clear hW0 hN0 hL0
  unfold x_custref_Between r_custref_Between
  with_reducible refine auC ?_
  repeat' (first
    | (with_reducible refine auS ?_)
    | fail
    | (with_reducible refine auD ?_)
    | ((with_reducible refine auB ?_ ?_); all_goals first | (intro h; first | exact auH | simp only [h, runR_t, runR_f] | skip) | skip)
    | fail)
  all_goals with_reducible refine auF ?_
  all_goals (try first | with_reducible refine auR ?_ | exact auR0)
  all_goals (try simp only [hsM] at *)
  · exact dbool (by simp [h])
  · exact dbool (by simp [h])
def digs : ByteArray := { data := #[48, 49, 50, 51, 52, 53, 54, 55, 56, 57] }
theorem digs_at (d : Nat) (h : d < 10) : digs.extract d (d + 1) = mkS [UInt8.ofNat (48 + d)] := by
  have : ∀ m : Fin 10, digs.extract m.val (m.val + 1) = mkS [UInt8.ofNat (48 + m.val)] := by
    intro m
    match m with
    | 0 => rfl
    | 1 => rfl
    | 2 => rfl
    | 3 => rfl
    | 4 => rfl
    | 5 => rfl
    | 6 => rfl
    | 7 => rfl
    | 8 => rfl
    | 9 => rfl
  exact this ⟨d, h⟩
theorem num_spec (d : Nat) (h : d < 10) : Spec Try.prog 27 [.v (.int .i64 (d : Nat))] (.v (.string (mkS [UInt8.ofNat (48 + d)]))) := by
  have e1 : IntKind.i64.wrap ((d : Int) + 1) = ((d + 1 : Nat) : Int) := by rw [IntWalk.i64_in _ (by omega)]; omega
  have e2 := digs_at d h
  have e3 : ({ data := #[48, 49, 50, 51, 52, 53, 54, 55, 56, 57] } : ByteArray) = digs := rfl
  have e4 : digs.size = 10 := rfl
  refine hspec_fn Try.func27 rfl ok_custref_Num okr_custref_Num rfl (by kernel_rfl) ?_
  intro Γ hW0 hN0 hL0
  have hW := hW0 rfl
  clear hW0 hN0 hL0
  unfold x_custref_Num r_custref_Num
  with_reducible refine auC ?_
  repeat' (first
    | (with_reducible refine auS ?_)
    | (simp only [e1, e2, e3, e4, Int.toNat_natCast])
    | (with_reducible refine auD ?_)
    | ((with_reducible refine auB ?_ ?_); all_goals first | (intro h; first | exact auH | simp only [h, runR_t, runR_f] | skip) | skip)
    | fail)
  (all_goals first | exact auP | skip)
  all_goals with_reducible refine auF ?_
  all_goals (try first | with_reducible refine auR ?_ | exact auR0)
  all_goals (try simp only [hsM] at *)
theorem bitsOf_spec (a : Nat) (ha : a < 4294967296) : Spec Try.prog 23 [.v (.int .u32 (a : Nat)), .v (.int .i64 32)] (.v (.string (mkS (bitsL a 32)))) := by
  have e1 : IntKind.i64.wrap (a : Int) = (a : Int) := IntWalk.i64_in _ (by omega)
  refine hspec_fn Try.func23 rfl ok_custref_BitsOf okr_custref_BitsOf rfl (by kernel_rfl) ?_
  intro Γ hW0 hN0 hL0
  have hW := hW0 rfl
  clear hW0 hN0 hL0
  unfold x_custref_BitsOf r_custref_BitsOf
  with_reducible refine auC ?_
  repeat' (first
    | (with_reducible refine auS ?_)
    | fail
    | (with_reducible refine auD ?_)
    | ((with_reducible refine auB ?_ ?_); all_goals first | (intro h; first | exact auH | simp only [h, runR_t, runR_f] | skip) | skip)
    | fail)
  refine go_loopH (α := Nat) (fun i => [(⟨.d0, .d0, .d5⟩, .v (.string (mkS (bitsL a i)))), (⟨.d0, .d1, .d0⟩, .v (.int .i64 (i : Nat)))]) (fun _ => []) (fun _ => Γ.g0) (fun i => 32 - i) (fun i => i ≤ 32) 0 (Nat.zero_le _) ?_ ?_
  · skip
    refine le_mk ?_ ?_ (Nat.le_refl _)
    all_goals first | with_reducible refine auE ?_ | exact auE0
    all_goals (repeat' (first | exact trivial | exact rfl | apply And.intro))
  intro i hi
  dsimp only at hi ⊢
  with_reducible refine auL ?_
  by_cases hlt : i < 32
  · have hp : 2 ^ (31 - i) ≤ 2 ^ 31 := Nat.pow_le_pow_right (by decide) (by omega)
    have hp0 : 0 < 2 ^ (31 - i) := Nat.two_pow_pos _
    have e2 : IntKind.i64.wrap (31 - (i : Int)) = ((31 - i : Nat) : Int) := by rw [IntWalk.i64_in _ (by omega)]; omega
    have e3 : min (31 - i) IntKind.i64.bits = 31 - i := Nat.min_eq_left (by show 31 - i ≤ 64; omega)
    have e4 : IntKind.i64.wrap (1 * 2 ^ (31 - i)) = ((2 ^ (31 - i) : Nat) : Int) := by rw [Int.one_mul, pow_int]; exact IntWalk.i64_in _ (by omega)
    have e5 : ((2 ^ (31 - i) : Nat) : Int) ≠ 0 := by omega
    have e6 : IntKind.i64.wrap ((a : Int).tdiv ((2 ^ (31 - i) : Nat) : Int)) = ((a / 2 ^ (31 - i) : Nat) : Int) := by
      rw [← Int.ofNat_tdiv]
      have hq := Nat.div_le_self a (2 ^ (31 - i))
      revert hq
      generalize a / 2 ^ (31 - i) = q
      intro hq
      exact IntWalk.i64_in _ (by omega)
    have e7 : ((a / 2 ^ (31 - i) : Nat) : Int).tmod 2 = ((a / 2 ^ (31 - i) % 2 : Nat) : Int) := (Int.ofNat_tmod _ 2).symm
    have hn := num_spec (a / 2 ^ (31 - i) % 2) (by omega)
    have hlen := bitsL_len a i
    repeat' (first
      | (with_reducible refine auS ?_)
      | (first | (simp only [e1, e2, e3, e4, e6, e7, mkS_app, Int.toNat_natCast]) | (refine runR_n e5 ?_) | (with_reducible refine runR_call hn ?_))
      | (with_reducible refine auD ?_)
      | ((with_reducible refine auB ?_ ?_); all_goals first | (intro h; first | exact auH | simp only [h, runR_t, runR_f] | skip) | skip)
      | (first | (refine runR_n (by simp only [mkS_size, hlen, List.length_singleton]; omega) ?_) | fail))
    (all_goals first | exact auP | skip)
    refine nx_loop ⟨i + 1, hlt, by omega, ?_⟩
    refine le_mk ?_ ?_ (Nat.le_refl _)
    all_goals first | with_reducible refine auE ?_ | exact auE0
    all_goals (repeat' (first | exact trivial | exact rfl | apply And.intro))
    all_goals first
      | exact dint ((IntWalk.i64_in _ (by omega)).trans (by omega))
      | rw [bitsL_succ]
  · obtain rfl : i = 32 := by omega
    repeat' (first
      | (with_reducible refine auS ?_)
      | fail
      | (with_reducible refine auD ?_)
      | ((with_reducible refine auB ?_ ?_); all_goals first | (intro h; first | exact auH | simp only [h, runR_t, runR_f] | skip) | skip)
      | fail)
    (all_goals first | exact auP | skip)
    all_goals with_reducible refine auF ?_
    all_goals (try first | with_reducible refine auR ?_ | exact auR0)
    all_goals (try simp only [hsM] at *)
theorem bN_getD (b : B8) (i : Nat) : bN b i = (b.getD i 0).toNat := rfl
set_option maxHeartbeats 1000000 in
theorem netOf_spec (b : B8) (hb : b.length ≤ 1000) : Spec Try.prog 10 [.v (.string (mkS b))] (dNt (netA b) b.length) := by
  have hfin : IntKind.u32.wrap ((accN b 32 : Nat) : Int) = ((accN b 32 : Nat) : Int) := IntWalk.u32_in _ (by have := netA_lt b; unfold netA at this; omega)
  unfold netA
  refine hspec_fn Try.func10 rfl ok_custref_NetOf okr_custref_NetOf rfl (by kernel_rfl) ?_
  intro Γ hW0 hN0 hL0
  have hW := hW0 rfl
  clear hW0 hN0 hL0
  unfold x_custref_NetOf r_custref_NetOf
  with_reducible refine auC ?_
  repeat' (first
    | (with_reducible refine auS ?_)
    | fail
    | (with_reducible refine auD ?_)
    | ((with_reducible refine auB ?_ ?_); all_goals first | (intro h; first | exact auH | simp only [h, runR_t, runR_f] | skip) | skip)
    | fail)
  refine go_loopH (α := Nat) (fun i => [(⟨.d0, .d0, .d3⟩, .v (.int .i64 (accN b i : Nat))), (⟨.d0, .d0, .d5⟩, .v (.int .i64 (i : Nat)))]) (fun _ => []) (fun _ => Γ.g0 + 1) (fun i => 32 - i) (fun i => i ≤ 32) 0 (Nat.zero_le _) ?_ ?_
  · skip
    refine le_mk ?_ ?_ (Nat.le_refl _)
    all_goals first | with_reducible refine auE ?_ | exact auE0
    all_goals (repeat' (first | exact trivial | exact rfl | apply And.intro))
  intro i hi
  dsimp only at hi ⊢
  with_reducible refine auL ?_
  by_cases hlt : i < 32
  · have ha := accN_lt b i
    have hp : 2 ^ i < 2 ^ 32 := Nat.pow_lt_pow_right (by decide) hlt
    have e1 : IntKind.i64.wrap (((accN b i : Nat) : Int) * 2) = ((accN b i * 2 : Nat) : Int) := by rw [IntWalk.i64_in _ (by omega)]; omega
    have e2 : IntKind.i64.wrap (((accN b i * 2 : Nat) : Int) + 1) = ((accN b i * 2 + 1 : Nat) : Int) := by rw [IntWalk.i64_in _ (by omega)]; omega
    have ew : IntKind.i64.wrap ((i : Int) + 1) = ((i + 1 : Nat) : Int) := (IntWalk.i64_in _ (by omega)).trans (by omega)
    have hst : accN b (i + 1) = accN b i * 2 + bI b i := rfl
    have hlen : i < b.length ↔ (i : Int) < ((b.length : Nat) : Int) := by omega
    obtain ⟨k, hk⟩ : ∃ k, k = bN b i := ⟨_, rfl⟩
    have hk2 : bI b i = if i < b.length ∧ k = 49 then 1 else 0 := by
      unfold bI
      rw [hk, bN_getD]
      have : b.getD i 0 = 49 ↔ (b.getD i 0).toNat = 49 := by rw [← UInt8.toNat_inj]; rfl
      simp only [this]
    rw [hk2] at hst
    repeat' (first
      | (with_reducible refine auS ?_)
      | (simp only [mkS_size, mkS_at, Int.toNat_natCast, e1, e2, ← hk])
      | (with_reducible refine auD ?_)
      | ((with_reducible refine auB ?_ ?_); all_goals first | (intro h; first | exact auH | simp only [h, runR_t, runR_f] | skip) | skip)
      | (first | (refine runR_n (by rw [mkS_size]; omega) ?_) | fail))
    (all_goals first | exact auP | skip)
    all_goals first
      | refine nx_loop ⟨i + 1, hlt, (show 32 - (i + 1) < 32 - i by omega), ?_⟩
      | skip
    all_goals
      (refine le_mk ?_ ?_ (Nat.le_refl _)); (all_goals first | with_reducible refine auE ?_ | exact auE0); (all_goals (repeat' (first | exact trivial | exact rfl | apply And.intro)))
    all_goals first
      | exact dint ew
      | (rw [hst]; simp_all; done)
      | (rw [hst, if_pos (by simp_all <;> omega)]; done)
      | (rw [hst, if_neg (by simp_all <;> omega)]; rfl)
  · obtain rfl : i = 32 := by omega
    repeat' (first
      | (with_reducible refine auS ?_)
      | (simp only [mkS_size, hfin])
      | (with_reducible refine auD ?_)
      | ((with_reducible refine auB ?_ ?_); all_goals first | (intro h; first | exact auH | simp only [h, runR_t, runR_f] | skip) | skip)
      | fail)
    (all_goals first | exact auP | skip)
    all_goals with_reducible refine auF ?_
    all_goals (try first | with_reducible refine auR ?_ | exact auR0)
    all_goals (try simp only [hsM] at *)
theorem hasPre_spec (s p : B8) (hs : s.length ≤ 1000) (hp : p.length ≤ 1000) : Spec Try.prog 40 [.v (.string (mkS s)), .v (.string (mkS p))] (.v (.bool (decide (p <+: s)))) := by
  have e1 : (mkS s).extract 0 p.length = mkS (s.take p.length) := by rw [mkS_ext]; simp
  have e2 : decide (mkS (s.take p.length) = mkS p) = decide (p = s.take p.length) := decide_eq_decide.2 (by rw [mkS_inj]; exact eq_comm)
  have hpre := @List.prefix_iff_eq_take _ p s
  rw [decide_eq_decide.2 hpre]
  by_cases hl : p.length ≤ s.length
  · have hd : decide (((p.length : Nat) : Int) ≤ ((s.length : Nat) : Int)) = true := decide_eq_true (by omega)
    refine hspec_fn Try.func40 rfl ok_stringslite_HasPrefix okr_stringslite_HasPrefix rfl (by kernel_rfl) ?_
    intro Γ hW0 hN0 hL0
    have hW := hW0 rfl
    clear hW0 hN0 hL0
    unfold x_stringslite_HasPrefix r_stringslite_HasPrefix
    with_reducible refine auC ?_
    repeat' (first
      | (with_reducible refine auS ?_)
      | (simp only [mkS_size, Int.toNat_natCast, hd, e1, e2])
      | (with_reducible refine auD ?_)
      | ((with_reducible refine auB ?_ ?_); all_goals first | (intro h; first | exact auH | simp only [h, runR_t, runR_f] | skip) | skip)
      | (first | (refine runR_n (by rw [mkS_size]; omega) ?_) | fail))
    (all_goals first | exact auP | skip)
    all_goals with_reducible refine auF ?_
    all_goals (try first | with_reducible refine auR ?_ | exact auR0)
    all_goals (try simp only [hsM] at *)
  · have hd : decide (((p.length : Nat) : Int) ≤ ((s.length : Nat) : Int)) = false := decide_eq_false (by omega)
    have hn : decide (p = s.take p.length) = false := decide_eq_false (fun h => by have := congrArg List.length h; simp at this; omega)
    rw [hn]
    refine hspec_fn Try.func40 rfl ok_stringslite_HasPrefix okr_stringslite_HasPrefix rfl (by kernel_rfl) ?_
    intro Γ hW0 hN0 hL0
    have hW := hW0 rfl
    clear hW0 hN0 hL0
    unfold x_stringslite_HasPrefix r_stringslite_HasPrefix
    with_reducible refine auC ?_
    repeat' (first
      | (with_reducible refine auS ?_)
      | (simp only [mkS_size, Int.toNat_natCast, hd, e1, e2])
      | (with_reducible refine auD ?_)
      | ((with_reducible refine auB ?_ ?_); all_goals first | (intro h; first | exact auH | simp only [h, runR_t, runR_f] | skip) | skip)
      | (first | (refine runR_n (by rw [mkS_size]; omega) ?_) | fail))
    (all_goals first | exact auP | skip)
    all_goals with_reducible refine auF ?_
    all_goals (try first | with_reducible refine auR ?_ | exact auR0)
    all_goals (try simp only [hsM] at *)
theorem hasPrefix_spec (s p : B8) (hs : s.length ≤ 1000) (hp : p.length ≤ 1000) : Spec Try.prog 22 [.v (.string (mkS s)), .v (.string (mkS p))] (.v (.bool (decide (p <+: s)))) := by
  have h := hasPre_spec s p hs hp
  generalize decide (p <+: s) = B at *
  refine hspec_fn Try.func22 rfl ok_strings_HasPrefix okr_strings_HasPrefix rfl (by kernel_rfl) ?_
  intro Γ hW0 hN0 hL0
  have hW := hW0 rfl
  clear hW0 hN0 hL0
  unfold x_strings_HasPrefix r_strings_HasPrefix
  with_reducible refine auC ?_
  repeat' (first
    | (with_reducible refine auS ?_)
    | (with_reducible refine runR_call h ?_)
    | (with_reducible refine auD ?_)
    | ((with_reducible refine auB ?_ ?_); all_goals first | (intro h; first | exact auH | simp only [h, runR_t, runR_f] | skip) | skip)
    | fail)
  (all_goals first | exact auP | skip)
  all_goals with_reducible refine auF ?_
  all_goals (try first | with_reducible refine auR ?_ | exact auR0)
  all_goals (try simp only [hsM] at *)
end Go.Proofs.Ytlfbjdafnappdaa
