/-
  Tries in the reference: is it a net? Rows without those of one beginning.
-/
import Derived.Test.YtlfbjdafnappdaaPutN
namespace Go.Proofs.Ytlfbjdafnappdaa
set_option linter.unusedVariables false
set_option linter.unusedSimpArgs false
theorem ib_mem (c : UInt8) : ∀ l : List UInt8, 0 ≤ Lib.indexByte l c ↔ c ∈ l
  | [] => by simp [Lib.indexByte]
  | b :: l => by
    have ih := ib_mem c l
    have hge := Lib.indexByte_ge l c
    unfold Lib.indexByte
    by_cases hb : b = c
    · simp [hb]
    · have hb' : (b == c) = false := by simpa using hb
      have hc : ¬ c = b := fun q => hb q.symm
      rw [hb', List.mem_cons]
      simp only [Bool.false_eq_true, if_false]
      by_cases hm : Lib.indexByte l c = -1
      · simp [hm, hc]
        rw [hm] at ih
        intro q
        have := ih.2 q
        omega
      · have : (Lib.indexByte l c == -1) = false := by simpa using hm
        rw [this]
        simp only [Bool.false_eq_true, if_false]
        constructor
        · intro q; exact .inr (ih.1 (by omega))
        · intro q
          rcases q with q | q
          · exact absurd q hc
          · have := ih.2 q; omega
theorem indexByte_spec (l : List UInt8) (c : UInt8) : Spec Try.prog 69 [.v (.string (mkS l)), .v (.int .u8 (c.toNat : Nat))] (.v (.int .i64 (Lib.indexByte l c))) := by
  have e1 : (mkS l).data.toList = l := by simp [mkS]
  have e2 : ((c.toNat : Nat) : Int).toNat.toUInt8 = c := by simp
  refine hspec_fn Try.func69 rfl ok_stringslite_IndexByte okr_stringslite_IndexByte rfl (by kernel_rfl) ?_
  intro Γ hW0 hN0 hL0
  have hW := hW0 rfl
  clear hW0 hN0 hL0
  unfold x_stringslite_IndexByte r_stringslite_IndexByte
  with_reducible refine auC ?_
  repeat' (first
    | (with_reducible refine auS ?_)
    | (simp only [e1, e2])
    | (with_reducible refine auD ?_)
    | ((with_reducible refine auB ?_ ?_); all_goals first | ((with_reducible intro h); first | exact auH | simp only [h, runR_t, runR_f] | skip) | skip)
    | fail)
  (all_goals first | exact auP | skip)
  all_goals with_reducible refine auF ?_
  all_goals (try first | with_reducible refine auR ?_ | exact auR0)
  all_goals (try simp only [hsM] at *)
theorem s49 : (ByteArray.mk #[49] : ByteArray) = mkS [49] := rfl
theorem index1_spec (l : List UInt8) : Spec Try.prog 63 [.v (.string (mkS l)), .v (.string (mkS [49]))] (.v (.int .i64 (Lib.indexByte l 49))) := by
  have h1 := indexByte_spec l 49
  have e1 : ((bN [49] 0 : Nat) : Int) = (((49 : UInt8).toNat : Nat) : Int) := rfl
  have e2 : (mkS [49]).size = 1 := rfl
  by_cases hq : [49] = l
  · subst hq
    refine hspec_fn Try.func63 rfl ok_stringslite_Index okr_stringslite_Index rfl (by kernel_rfl) ?_
    intro Γ hW0 hN0 hL0
    have hW := hW0 rfl
    clear hW0 hN0 hL0
    unfold x_stringslite_Index r_stringslite_Index
    with_reducible refine auC ?_
    repeat' (first
      | (with_reducible refine auS ?_)
      | (first | (simp only [e2, mkS_inj]) | (simp only [mkS_size, mkS_at]))
      | (with_reducible refine auD ?_)
      | ((with_reducible refine auB ?_ ?_); all_goals first | ((with_reducible intro h); first | exact auH | simp only [h, runR_t, runR_f] | skip) | skip)
      | fail)
    (all_goals first | exact auP | skip)
    all_goals first
      | (exfalso; simp at h; done)
      | skip
    all_goals with_reducible refine auF ?_
    all_goals (try first | with_reducible refine auR ?_ | exact auR0)
    all_goals (try simp only [hsM] at *)
    all_goals rfl
  · skip
    refine hspec_fn Try.func63 rfl ok_stringslite_Index okr_stringslite_Index rfl (by kernel_rfl) ?_
    intro Γ hW0 hN0 hL0
    have hW := hW0 rfl
    clear hW0 hN0 hL0
    unfold x_stringslite_Index r_stringslite_Index
    with_reducible refine auC ?_
    repeat' (first
      | (with_reducible refine auS ?_)
      | (first | (simp only [e2, mkS_inj, hq]) | (simp only [mkS_size, mkS_at, e1]) | (with_reducible refine runR_call h1 ?_))
      | (with_reducible refine auD ?_)
      | ((with_reducible refine auB ?_ ?_); all_goals first | ((with_reducible intro h); first | exact auH | simp only [h, runR_t, runR_f] | skip) | skip)
      | (first | (refine runR_n (by decide) ?_) | fail))
    (all_goals first | exact auP | skip)
    all_goals first
      | (exfalso; simp_all; done)
      | skip
    all_goals with_reducible refine auF ?_
    all_goals (try first | with_reducible refine auR ?_ | exact auR0)
    all_goals (try simp only [hsM] at *)
theorem index2_spec (l : List UInt8) : Spec Try.prog 51 [.v (.string (mkS l)), .v (.string (mkS [49]))] (.v (.int .i64 (Lib.indexByte l 49))) := by
  have h1 := index1_spec l
  refine hspec_fn Try.func51 rfl ok_strings_Index okr_strings_Index rfl (by kernel_rfl) ?_
  intro Γ hW0 hN0 hL0
  have hW := hW0 rfl
  clear hW0 hN0 hL0
  unfold x_strings_Index r_strings_Index
  with_reducible refine auC ?_
  repeat' (first
    | (with_reducible refine auS ?_)
    | (with_reducible refine runR_call h1 ?_)
    | (with_reducible refine auD ?_)
    | ((with_reducible refine auB ?_ ?_); all_goals first | ((with_reducible intro h); first | exact auH | simp only [h, runR_t, runR_f] | skip) | skip)
    | fail)
  (all_goals first | exact auP | skip)
  all_goals with_reducible refine auF ?_
  all_goals (try first | with_reducible refine auR ?_ | exact auR0)
  all_goals (try simp only [hsM] at *)
theorem contains_spec (l : List UInt8) : Spec Try.prog 45 [.v (.string (mkS l)), .v (.string (mkS [49]))] (.v (.bool (decide ((49 : UInt8) ∈ l)))) := by
  have h1 := index2_spec l
  have h2 := ib_mem 49 l
  refine hspec_fn Try.func45 rfl ok_strings_Contains okr_strings_Contains rfl (by kernel_rfl) ?_
  intro Γ hW0 hN0 hL0
  have hW := hW0 rfl
  clear hW0 hN0 hL0
  unfold x_strings_Contains r_strings_Contains
  with_reducible refine auC ?_
  repeat' (first
    | (with_reducible refine auS ?_)
    | (with_reducible refine runR_call h1 ?_)
    | (with_reducible refine auD ?_)
    | ((with_reducible refine auB ?_ ?_); all_goals first | ((with_reducible intro h); first | exact auH | simp only [h, runR_t, runR_f] | skip) | skip)
    | fail)
  (all_goals first | exact auP | skip)
  all_goals with_reducible refine auF ?_
  all_goals (try first | with_reducible refine auR ?_ | exact auR0)
  all_goals (try simp only [hsM] at *)
  all_goals exact dbool (decide_eq_decide.2 h2)
theorem bit_49 (a i : Nat) : UInt8.ofNat (48 + a / 2 ^ (31 - i) % 2) = 49 ↔ a.testBit (31 - i) = true := by
  rw [Nat.testBit_eq_decide_div_mod_eq]
  rcases Nat.mod_two_eq_zero_or_one (a / 2 ^ (31 - i)) with h | h
  · rw [h]; decide
  · rw [h]; decide
theorem ones (a l : Nat) (hl : l ≤ 32) : ((49 : UInt8) ∈ (bitsL a 32).drop l) ↔ ¬ a % 2 ^ (32 - l) = 0 := by
  constructor
  · intro hm h0
    obtain ⟨j, hj⟩ := List.mem_iff_getElem?.1 hm
    rw [List.getElem?_drop] at hj
    unfold bitsL at hj
    rw [List.getElem?_map] at hj
    cases hr : (List.range 32)[l + j]? with
    | none => rw [hr] at hj; cases hj
    | some q =>
      rw [hr] at hj
      have hq := List.getElem?_eq_some_iff.1 hr
      have h1 : q = l + j := by have := hq.2; simpa using this.symm
      have h2 : l + j < 32 := by have := hq.1; simpa using this
      subst h1
      have hb := (bit_49 a (l + j)).1 (Option.some.inj hj)
      have h3 := Nat.testBit_mod_two_pow a (32 - l) (31 - (l + j))
      rw [h0, hb, decide_eq_true (by omega : 31 - (l + j) < 32 - l)] at h3
      simp at h3
  · intro h0
    apply Decidable.byContradiction
    intro hm
    apply h0
    apply Nat.eq_of_testBit_eq
    intro j
    rw [Nat.testBit_mod_two_pow, Nat.zero_testBit]
    by_cases hj : j < 32 - l
    · rw [decide_eq_true hj, Bool.true_and]
      cases hb : a.testBit j with
      | false => rfl
      | true =>
        exfalso
        apply hm
        refine List.mem_iff_getElem?.2 ⟨31 - j - l, ?_⟩
        have h4 : l + (31 - j - l) = 31 - j := by omega
        rw [List.getElem?_drop, h4]
        unfold bitsL
        rw [List.getElem?_map, List.getElem?_range (by omega)]
        have h5 : 31 - (31 - j) = j := by omega
        have := (bit_49 a (31 - j)).2 (by rw [h5]; exact hb)
        simp only [Option.map_some]
        rw [this]
    · rw [decide_eq_false hj, Bool.false_and]
theorem isNet_spec (a l : Int) (ha : 0 ≤ a ∧ a < 4294967296) : Spec Try.prog 31 [dNi a l] (.v (.bool (isNet a l))) := by
  obtain ⟨A, rfl⟩ := Int.eq_ofNat_of_zero_le ha.1
  unfold isNet
  by_cases hl : 0 ≤ l ∧ l ≤ 32
  · obtain ⟨L, rfl⟩ := Int.eq_ofNat_of_zero_le hl.1
    have h1 := bitsOf_spec A (by omega)
    have h2 := contains_spec ((bitsL A 32).drop L)
    have h3 := ones A L (by omega)
    have hlen := bitsL_len A 32
    have x1 : (mkS (bitsL A 32)).extract L 32 = mkS ((bitsL A 32).drop L) := by rw [mkS_ext, List.take_of_length_le (by rw [List.length_drop, hlen]; omega)]
    have hd : decide ((49 : UInt8) ∈ (bitsL A 32).drop L) = !decide (A % 2 ^ (32 - L) = 0) := by
      rw [decide_eq_decide.2 h3, decide_not]
    rw [hd] at h2
    rw [decide_eq_true hl, Int.toNat_natCast, Int.toNat_natCast, Bool.true_and]
    refine hspec_fn Try.func31 rfl ok_custref_IsNet okr_custref_IsNet rfl (by kernel_rfl) ?_
    intro Γ hW0 hN0 hL0
    have hW := hW0 rfl
    clear hW0 hN0 hL0
    unfold x_custref_IsNet r_custref_IsNet
    with_reducible refine auC ?_
    repeat' (first
      | (with_reducible refine auS ?_)
      | (first | (simp only [mkS_size, hlen, s49, x1, Int.toNat_natCast]) | (with_reducible refine runR_call h1 ?_) | (with_reducible refine runR_call h2 ?_) | (with_reducible refine runR_call (between_spec _ _ _) ?_))
      | (with_reducible refine auD ?_)
      | ((with_reducible refine auB ?_ ?_); all_goals first | ((with_reducible intro h); first | exact auH | simp only [h, runR_t, runR_f] | skip) | skip)
      | (first | (refine runR_n (by simp only [mkS_size, hlen]; omega) ?_) | fail))
    (all_goals first | exact auP | skip)
    all_goals with_reducible refine auF ?_
    all_goals (try first | with_reducible refine auR ?_ | exact auR0)
    all_goals (try simp only [hsM] at *)
    all_goals (refine dbool ?_; first | simp | simp_all)
  · rw [decide_eq_false hl, Bool.false_and]
    refine hspec_fn Try.func31 rfl ok_custref_IsNet okr_custref_IsNet rfl (by kernel_rfl) ?_
    intro Γ hW0 hN0 hL0
    have hW := hW0 rfl
    clear hW0 hN0 hL0
    unfold x_custref_IsNet r_custref_IsNet
    with_reducible refine auC ?_
    repeat' (first
      | (with_reducible refine auS ?_)
      | (with_reducible refine runR_call (between_spec _ _ _) ?_)
      | (with_reducible refine auD ?_)
      | ((with_reducible refine auB ?_ ?_); all_goals first | ((with_reducible intro h); first | exact auH | simp only [h, runR_t, runR_f] | skip) | skip)
      | fail)
    (all_goals first | exact auP | skip)
    all_goals with_reducible refine auF ?_
    all_goals (try first | with_reducible refine auR ?_ | exact auR0)
    all_goals (try simp only [hsM] at *)
set_option maxHeartbeats 1000000 in
theorem rwclone1 (l : List Rw) (c : Bool) (hl : room l.length 24) : OSpec Try.prog 35 [.snap 2 (l.map rwE) c] [] (fun n d H => d = .sl 1 n 2 0 l.length false ∧ H = [some ⟨n, 2, l.map rwE⟩]) := by
  have hones : ∀ r : List Rw, allOnes (r.map rwE) = true := allOnes_map (fun x => rfl)
  cases l with
  | nil =>
    refine ospec_fn Try.func35 rfl ok_slices_Clone_custref_Row okr_slices_Clone_custref_Row rfl (by kernel_rfl) ?_
    intro Γ hW0 hN0 hL0
    have hW := hW0 rfl
    clear hW0 hN0 hL0
    unfold x_slices_Clone_custref_Row r_slices_Clone_custref_Row
    with_reducible refine auC ?_
    dsimp only [List.map]
    repeat' (first
      | (with_reducible refine auS ?_)
      | (with_reducible refine runR_l ?_)
      | (with_reducible refine auD ?_)
      | ((with_reducible refine auB ?_ ?_); all_goals first | ((with_reducible intro h); first | exact auH | simp only [h, runR_t, runR_f] | skip) | skip)
      | fail)
    · refine retqo_le (le_leG (le_row ⟨.d0, .d0, .d2⟩ 1 2 rfl rfl)) ?_
      exact ret_ospec 1 (fun n => .sl 1 n 2 0 0 false) trivial rfl (Nat.le_refl _) trivial (fun n => .inl ⟨rfl, rfl⟩) (fun n => ⟨rfl, rfl⟩)
    · exact ret_ospec 1 (fun n => .sl 1 n 2 0 0 false) trivial rfl (by show Γ.g0 ≤ Γ.g0 + 1; omega) trivial (fun n => .inl ⟨rfl, rfl⟩) (fun n => ⟨rfl, rfl⟩)
  | cons x r =>
    refine ospec_fn Try.func35 rfl ok_slices_Clone_custref_Row okr_slices_Clone_custref_Row rfl (by kernel_rfl) ?_
    intro Γ hW0 hN0 hL0
    have hW := hW0 rfl
    clear hW0 hN0 hL0
    unfold x_slices_Clone_custref_Row r_slices_Clone_custref_Row
    with_reducible refine auC ?_
    dsimp only [List.map]
    repeat' (first
      | (with_reducible refine auS ?_)
      | (with_reducible refine runR_l ?_)
      | (with_reducible refine auD ?_)
      | ((with_reducible refine auB ?_ ?_); all_goals first | ((with_reducible intro h); first | exact auH | simp only [h, runR_t, runR_f] | skip) | skip)
      | (refine runR_n ⟨Or.inl (by omega), rfl, hones _, by simp only [room, maxLen, List.length_map, List.length_cons] at hl ⊢; omega⟩ ?_))
    refine ret_ospec 1 (fun n => .sl 1 n 2 0 (x :: r).length false) trivial rfl (by show Γ.g0 ≤ Γ.g0 + 1; omega) ?_ (fun n => .inl ⟨rfl, ?_⟩) (fun n => ⟨rfl, rfl⟩)
    · exact (nfLL_map (fun x => by simp [nfL, nfD]) : nfLL Γ.g0 ((x :: r).map rwE))
    · simp [List.length_map]
theorem rwclone_spec (j : Nat) (l : List Rw) (c : Bool) (hl : room l.length 24) : OSpec Try.prog 35 [.snap 2 (l.map rwE) c] [] (fun n d H => d = .sl j n 2 0 l.length false ∧ H = [some ⟨n, 2, l.map rwE⟩]) :=
  ospec_as (rwclone1 l c hl) (fun K w n v h => sl_label h)
set_option maxHeartbeats 1000000 in
theorem rwindexl0 {g : FuncId} {caps : List DV} (p : Rw → Bool) (l : List Rw) (hl : l.length ≤ maxLen) (n : Nat) (hg : ∀ t ∈ l, Spec Try.prog g (.agg (rwE t) :: caps) (.v (.bool (p t)))) : HSpec Try.prog 46 [.sl 0 n 2 0 l.length false, .fn (.func g) [] caps] [some ⟨n, 2, l.map rwE⟩] (fun d H => d = .v (.int .i64 (firstI p l 0)) ∧ H = [some ⟨n, 2, l.map rwE⟩]) := by
  unfold maxLen at hl
  refine hspec_fn Try.func46 rfl ok_slices_IndexFunc_custref_Row okr_slices_IndexFunc_custref_Row rfl (by kernel_rfl) ?_
  intro Γ hW0 hN0 hL0
  clear hW0
  unfold x_slices_IndexFunc_custref_Row r_slices_IndexFunc_custref_Row
  with_reducible refine auC ?_
  have hn : n < Γ.g0 := hN0 0 _ rfl
  repeat' (first
    | (with_reducible refine auS ?_)
    | fail
    | (with_reducible refine auD ?_)
    | ((with_reducible refine auB ?_ ?_); all_goals first | ((with_reducible intro h); first | exact auH | simp only [h, runR_t, runR_f] | skip) | skip)
    | fail)
  refine go_loopH (α := Nat) (fun k => [(⟨.d0, .d1, .d0⟩, .v (.int .i64 (k : Nat)))]) (fun _ => []) (fun _ => Γ.g0) (fun k => l.length - k) (fun k => k ≤ l.length ∧ firstI p l 0 = firstI p (l.drop k) k) 0 ⟨Nat.zero_le _, rfl⟩ ?_ ?_
  · skip
    refine le_mk ?_ ?_ (Nat.le_refl _)
    all_goals first | with_reducible refine auE ?_ | exact auE0
    all_goals (repeat' (first | exact trivial | exact rfl | apply And.intro))
  · rintro k ⟨hk, hp⟩
    with_reducible refine auL ?_
    by_cases hlt : k < l.length
    · obtain ⟨t, ht⟩ : ∃ t, l[k]? = some t := ⟨_, List.getElem?_eq_getElem hlt⟩
      have ex := xget_map rwE l k t ht
      have hgt := hg t (List.mem_of_getElem? ht)
      rw [List.drop_eq_getElem_cons hlt, show l[k] = t from Option.some.inj ((List.getElem?_eq_getElem hlt).symm.trans ht)] at hp
      repeat' (first
        | (with_reducible refine auS ?_)
        | (with_reducible refine runR_call hgt ?_)
        | (with_reducible refine auD ?_)
        | ((with_reducible refine auB ?_ ?_); all_goals first | ((with_reducible intro h); first | exact auH | simp only [h, runR_t, runR_f] | skip) | skip)
        | (first | simp only [Int.toNat_natCast, ex, Nat.zero_add] | (refine runR_n ⟨by simpa using hlt, by trivial⟩ ?_) | fail))
      (all_goals first | exact auP | skip)
      · refine ret_h1 trivial trivial ?_ rfl hn (nfLL_map (fun x => by simp [nfL, nfD])) rfl
        rw [hp]
        simp [firstI, *]
        rfl
      · refine nx_loop ?_
        refine ⟨k + 1, ⟨Nat.succ_le_of_lt hlt, by rw [hp]; simp [firstI, *]⟩, Nat.sub_lt_sub_left hlt (Nat.lt_succ_self k), ?_⟩
        refine le_mk ?_ ?_ (Nat.le_refl _)
        all_goals first | with_reducible refine auE ?_ | exact auE0
        all_goals (repeat' (first | exact trivial | exact rfl | apply And.intro))
        exact dint ((IntWalk.i64_in _ (by omega)).trans (by omega))
    · skip
      repeat' (first
        | (with_reducible refine auS ?_)
        | fail
        | (with_reducible refine auD ?_)
        | ((with_reducible refine auB ?_ ?_); all_goals first | ((with_reducible intro h); first | exact auH | simp only [h, runR_t, runR_f] | skip) | skip)
        | fail)
      (all_goals first | exact auP | skip)
      refine ret_h1 trivial trivial ?_ rfl hn (nfLL_map (fun x => by simp [nfL, nfD])) rfl
      obtain rfl : k = l.length := by omega
      rw [hp, List.drop_length]
      rfl
theorem rwindexl_spec (k : Nat) {g : FuncId} {caps : List DV} (p : Rw → Bool) (l : List Rw) (hl : l.length ≤ maxLen) (n : Nat) (hg : ∀ t ∈ l, Spec Try.prog g (.agg (rwE t) :: caps) (.v (.bool (p t)))) : HSpec Try.prog 46 [.sl k n 2 0 l.length false, .fn (.func g) [] caps] [some ⟨n, 2, l.map rwE⟩] (fun d H => d = .v (.int .i64 (firstI p l 0)) ∧ H = [some ⟨n, 2, l.map rwE⟩]) :=
  hspec_sl k (rwindexl0 p l hl n hg)
set_option maxHeartbeats 2000000 in
theorem rwdeletef0 {g : FuncId} {caps : List DV} (p : Rw → Bool) (l : List Rw) (hl : l.length ≤ maxLen) (n : Nat) (hg : ∀ t ∈ l, Spec Try.prog g (.agg (rwE t) :: caps) (.v (.bool (p t)))) : HSpec Try.prog 32 [.sl 0 n 2 0 l.length false, .fn (.func g) [] caps] [some ⟨n, 2, l.map rwE⟩] (fun d H => d = .sl 0 n 2 0 (l.filter (fun t => !p t)).length false ∧ H = [some ⟨n, 2, (l.filter (fun t => !p t)).map rwE⟩]) := by
  have hidx := rwindexl0 (g := g) (caps := caps) p l hl n hg
  unfold maxLen at hl
  rcases firstI_cases p l 0 with ⟨h1, h2⟩ | ⟨i0, t0, h1, h2, h3, h4⟩
  · rw [h1] at hidx
    refine hspec_fn Try.func32 rfl ok_slices_DeleteFunc_custref_Row okr_slices_DeleteFunc_custref_Row rfl (by kernel_rfl) ?_
    intro Γ hW0 hN0 hL0
    clear hW0
    unfold x_slices_DeleteFunc_custref_Row r_slices_DeleteFunc_custref_Row
    with_reducible refine auC ?_
    have hn : n < Γ.g0 := hN0 0 _ rfl
    repeat' (first
      | (with_reducible refine auS ?_)
      | ((with_reducible refine runR_callH 0 ?_ hidx (fun _ _ _ h => h) ?_); (exact rfl))
      | (with_reducible refine auD ?_)
      | ((with_reducible refine auB ?_ ?_); all_goals first | ((with_reducible intro h); first | exact auH | simp only [h, runR_t, runR_f] | skip) | skip)
      | fail)
    rw [filter_none h2]
    exact ret_h1 trivial hn rfl rfl hn (nfLL_map (fun x => by simp [nfL, nfD])) rfl
  · rw [h4, Nat.zero_add] at hidx
    have hi0 : i0 < l.length := (List.getElem?_eq_some_iff.1 h1).1
    have hf0 : (l.take (i0 + 1)).filter (fun t => !p t) = l.take i0 := by
      rw [List.take_add_one, h1, List.filter_append, filter_none h3]
      simp [h2]
    refine hspec_fn Try.func32 rfl ok_slices_DeleteFunc_custref_Row okr_slices_DeleteFunc_custref_Row rfl (by kernel_rfl) ?_
    intro Γ hW0 hN0 hL0
    clear hW0
    unfold x_slices_DeleteFunc_custref_Row r_slices_DeleteFunc_custref_Row
    with_reducible refine auC ?_
    have hn : n < Γ.g0 := hN0 0 _ rfl
    repeat' (first
      | (with_reducible refine auS ?_)
      | ((with_reducible refine runR_callH 0 ?_ hidx (fun _ _ _ h => h) ?_); (exact rfl))
      | (with_reducible refine auD ?_)
      | ((with_reducible refine auB ?_ ?_); all_goals first | ((with_reducible intro h); first | exact auH | simp only [h, runR_t, runR_f] | skip) | skip)
      | fail)
    refine go_loopH (α := Nat × Nat × List (List DV)) (fun a => [(⟨.d0, .d0, .d5⟩, .v (.int .i64 (((l.take a.1).filter (fun t => !p t)).length : Nat))), (⟨.d0, .d0, .d6⟩, .v (.int .i64 (a.1 : Nat)))]) (fun a => [(0, some ⟨n, 2, ((l.take a.1).filter (fun t => !p t)).map rwE ++ (a.2.2 ++ (l.drop a.1).map rwE)⟩), (1, none)]) (fun a => a.2.1) (fun a => l.length - a.1)
      (fun a => a.1 ≤ l.length ∧ ((l.take a.1).filter (fun t => !p t)).length + a.2.2.length = a.1 ∧ 0 < a.2.2.length ∧ ∀ x ∈ a.2.2, ∃ t : Rw, x = rwE t) (i0 + 1, Γ.g0, [rwE t0]) ⟨hi0, by rw [hf0, List.length_take]; simp; omega, by simp, fun x hx => ⟨t0, by simpa using hx⟩⟩ ?_ ?_
    · skip
      refine le_mk ?_ ?_ (Nat.le_refl _)
      all_goals first | with_reducible refine auE ?_ | exact auE0
      all_goals (repeat' (first | exact trivial | exact rfl | apply And.intro))
      all_goals first
        | exact dint (by rw [hf0, List.length_take]; omega)
        | exact dint ((IntWalk.i64_in _ (by omega)).trans (by omega))
        | (refine congrArg some (congrArg (AObj.mk n 2) ?_)
           have : t0 :: l.drop (i0 + 1) = l.drop i0 := by rw [List.drop_eq_getElem_cons hi0, show l[i0] = t0 from Option.some.inj ((List.getElem?_eq_getElem hi0).symm.trans h1)]
           rw [hf0, show [rwE t0] ++ (l.drop (i0 + 1)).map rwE = (t0 :: l.drop (i0 + 1)).map rwE from rfl, this, ← List.map_append, List.take_append_drop])
    · rintro ⟨j, gn, G⟩ ⟨hj, hlen, hG0, hG⟩
      dsimp only at hj hlen hG0 hG ⊢
      with_reducible refine auL ?_
      by_cases hlt : j < l.length
      · obtain ⟨t, ht⟩ : ∃ t, l[j]? = some t := ⟨_, List.getElem?_eq_getElem hlt⟩
        have hgt := hg t (List.mem_of_getElem? ht)
        have ex := xget_app (f := rwE) (((l.take j).filter (fun t => !p t)).map rwE) G ht (by simpa using hlen)
        have hdrop : (l.drop j).map rwE = rwE t :: (l.drop (j + 1)).map rwE := by rw [List.drop_eq_getElem_cons hlt, show l[j] = t from Option.some.inj ((List.getElem?_eq_getElem hlt).symm.trans ht)]; rfl
        have htake : l.take (j + 1) = l.take j ++ [t] := by rw [List.take_add_one, ht]; rfl
        have hobl : (((l.take j).filter (fun t => !p t)).map rwE ++ (G ++ (l.drop j).map rwE)).length = l.length := by simp; omega
        repeat' (first
          | (with_reducible refine auS ?_)
          | (with_reducible refine runR_call hgt ?_)
          | (with_reducible refine auD ?_)
          | ((with_reducible refine auB ?_ ?_); all_goals first | ((with_reducible intro h); first | exact auH | simp only [h, runR_t, runR_f] | skip) | skip)
          | (first | simp only [Int.toNat_natCast, ex, Nat.zero_add] | (refine runR_n ⟨by (rw [hobl]; omega), by trivial⟩ ?_) | fail))
        (all_goals first | exact auP | skip)
        · obtain ⟨x, G', rfl⟩ : ∃ x G', G = x :: G' := by
            cases G with
            | nil => simp at hG0
            | cons x G' => exact ⟨x, G', rfl⟩
          obtain ⟨t', rfl⟩ := hG x (by simp)
          have hpt : p t = false := by simpa using h
          have hft : (l.take (j + 1)).filter (fun t => !p t) = (l.take j).filter (fun t => !p t) ++ [t] := by rw [htake, List.filter_append]; simp [hpt]
          have hxx := xset_app (rwE t') (rwE t) G' ((l.drop j).map rwE) (((l.take j).filter (fun t => !p t)).map rwE)
          rw [List.length_map] at hxx
          have hxg : xget (((l.take j).filter (fun t => !p t)).map rwE ++ (rwE t' :: G' ++ (l.drop j).map rwE)) ((l.take j).filter (fun t => !p t)).length = rwE t' := by
            rw [xget_get, List.getElem?_append_right (by simp)]
            simp
          refine nx_loop ⟨(j + 1, gn + 1, G' ++ [rwE t]), ⟨hlt, by rw [hft]; simp only [List.length_append, List.length_cons, List.length_nil] at hlen ⊢; omega, by simp, fun y hy => ?_⟩, Nat.sub_lt_sub_left hlt (Nat.lt_succ_self j), ?_⟩
          · rcases List.mem_append.1 hy with hy | hy
            · exact hG y (List.mem_cons_of_mem _ hy)
            · exact ⟨t, by simpa using hy⟩
          refine le_mk ?_ ?_ (Nat.le_refl _)
          all_goals first | with_reducible refine auE ?_ | exact auE0
          all_goals (repeat' (first | exact trivial | exact rfl | apply And.intro))
          all_goals first
            | exact dint ((IntWalk.i64_in _ (by omega)).trans (by rw [hft]; simp))
            | exact dint ((IntWalk.i64_in _ (by omega)).trans (by omega))
            | (refine congrArg some (congrArg (AObj.mk n 2) ?_)
               rw [hxg]
               refine hxx.trans ?_
               rw [hdrop, hft]
               simp)
        · have hpt : p t = true := by simpa using h
          have hft : (l.take (j + 1)).filter (fun t => !p t) = (l.take j).filter (fun t => !p t) := by rw [htake, List.filter_append]; simp [hpt]
          refine nx_loop ⟨(j + 1, gn + 1, G ++ [rwE t]), ⟨hlt, by rw [hft]; simp only [List.length_append, List.length_cons, List.length_nil] at hlen ⊢; omega, by simp, fun y hy => ?_⟩, Nat.sub_lt_sub_left hlt (Nat.lt_succ_self j), ?_⟩
          · rcases List.mem_append.1 hy with hy | hy
            · exact hG y hy
            · exact ⟨t, by simpa using hy⟩
          refine le_mk ?_ ?_ (Nat.le_refl _)
          all_goals first | with_reducible refine auE ?_ | exact auE0
          all_goals (repeat' (first | exact trivial | exact rfl | apply And.intro))
          all_goals first
            | exact dint (by rw [hft])
            | exact dint ((IntWalk.i64_in _ (by omega)).trans (by omega))
            | (refine congrArg some (congrArg (AObj.mk n 2) ?_)
               rw [hdrop, hft]
               simp)
      · obtain rfl : j = l.length := by omega
        rw [List.take_length] at hlen
        simp only [List.take_length, List.drop_length, List.map_nil, List.append_nil]
        have hobl : ((l.filter (fun t => !p t)).map rwE ++ G).length = l.length := by simp; omega
        repeat' (first
          | (with_reducible refine auS ?_)
          | fail
          | (with_reducible refine auD ?_)
          | ((with_reducible refine auB ?_ ?_); all_goals first | ((with_reducible intro h); first | exact auH | simp only [h, runR_t, runR_f] | skip) | skip)
          | (first | (refine runR_n ⟨by trivial, by trivial, by trivial, by (simp only [Int.toNat_natCast, Nat.zero_add]; rw [hobl]; omega), by trivial⟩ ?_) | fail))
        (all_goals first | exact auP | skip)
        refine retq_le (le_leG (le_trim 0 (l.filter (fun t => !p t)).length rfl)) (ret_h1 trivial hn ?_ rfl hn (nfLL_map (fun x => by simp [nfL, nfD])) ?_)
        · exact congrArg (fun q => DV.sl 0 n 2 0 q false) (by omega)
        · dsimp only
          rw [xtake_eq, xtake_eq, Int.toNat_natCast, Nat.zero_add, List.take_left' (by simp), List.take_left' (by simp)]
theorem rwdeletef_spec (k : Nat) {g : FuncId} {caps : List DV} (p : Rw → Bool) (l : List Rw) (hl : l.length ≤ maxLen) (n : Nat) (hg : ∀ t ∈ l, Spec Try.prog g (.agg (rwE t) :: caps) (.v (.bool (p t)))) : HSpec Try.prog 32 [.sl k n 2 0 l.length false, .fn (.func g) [] caps] [some ⟨n, 2, l.map rwE⟩] (fun d H => d = .sl k n 2 0 (l.filter (fun t => !p t)).length false ∧ H = [some ⟨n, 2, (l.filter (fun t => !p t)).map rwE⟩]) :=
  hspec_sl k (hspec_as (rwdeletef0 p l hl n hg) (fun _ _ _ => sl_label))
theorem put1_spec (q : B8) (t : Rw) : Spec Try.prog 33 [.agg (rwE t), .rptr [.v (.string (mkS q))]] (.v (.bool (decide (t.1 = q)))) := by
  have e : decide (mkS t.1 = mkS q) = decide (t.1 = q) := decide_eq_decide.2 mkS_inj
  refine hspec_fn Try.func33 rfl ok_custref_TriePut_1 okr_custref_TriePut_1 rfl (by kernel_rfl) ?_
  intro Γ hW0 hN0 hL0
  have hW := hW0 rfl
  clear hW0 hN0 hL0
  unfold x_custref_TriePut_1 r_custref_TriePut_1
  with_reducible refine auC ?_
  repeat' (first
    | (with_reducible refine auS ?_)
    | (simp only [e])
    | (with_reducible refine auD ?_)
    | ((with_reducible refine auB ?_ ?_); all_goals first | ((with_reducible intro h); first | exact auH | simp only [h, runR_t, runR_f] | skip) | skip)
    | fail)
  (all_goals first | exact auP | skip)
  all_goals with_reducible refine auF ?_
  all_goals (try first | with_reducible refine auR ?_ | exact auR0)
  all_goals (try simp only [hsM] at *)
theorem rem1_spec (q : B8) (t : Rw) : Spec Try.prog 36 [.agg (rwE t), .rptr [.v (.string (mkS q))]] (.v (.bool (decide (t.1 = q)))) := by
  have e : decide (mkS t.1 = mkS q) = decide (t.1 = q) := decide_eq_decide.2 mkS_inj
  refine hspec_fn Try.func36 rfl ok_custref_TrieRemove_1 okr_custref_TrieRemove_1 rfl (by kernel_rfl) ?_
  intro Γ hW0 hN0 hL0
  have hW := hW0 rfl
  clear hW0 hN0 hL0
  unfold x_custref_TrieRemove_1 r_custref_TrieRemove_1
  with_reducible refine auC ?_
  repeat' (first
    | (with_reducible refine auS ?_)
    | (simp only [e])
    | (with_reducible refine auD ?_)
    | ((with_reducible refine auB ?_ ?_); all_goals first | ((with_reducible intro h); first | exact auH | simp only [h, runR_t, runR_f] | skip) | skip)
    | fail)
  (all_goals first | exact auP | skip)
  all_goals with_reducible refine auF ?_
  all_goals (try first | with_reducible refine auR ?_ | exact auR0)
  all_goals (try simp only [hsM] at *)
theorem drop_spec {g : FuncId} (q : B8) (hg : ∀ t : Rw, Spec Try.prog g [.agg (rwE t), .rptr [.v (.string (mkS q))]] (.v (.bool (decide (t.1 = q))))) (k : Nat) (X : List Rw) (hl : X.length ≤ maxLen) (n : Nat) : HSpec Try.prog 32 [.sl k n 2 0 X.length false, .fn (.func g) [] [.rptr [.v (.string (mkS q))]]] [some ⟨n, 2, rwR X⟩] (fun d H => d = .sl k n 2 0 (dropR q X).length false ∧ H = [some ⟨n, 2, rwR (dropR q X)⟩]) :=
  rwdeletef_spec k (fun t : Rw => decide (t.1 = q)) X hl n (fun t _ => hg t)
end Go.Proofs.Ytlfbjdafnappdaa
