/-
  Wheels compared; a thing searched.
-/
import Derived.Test.YtecnjhmpipfldaaWheelY
namespace Go.Proofs.Ytecnjhmpipfldaa
set_option linter.unusedVariables false
set_option linter.unusedSimpArgs false
theorem between_spec (n lo hi : Int) : Spec Try.prog 20 [.v (.int .i64 n), .v (.int .i64 lo), .v (.int .i64 hi)] (.v (.bool (decide (lo ≤ n ∧ n ≤ hi)))) := by
  refine hspec_fn Try.func20 rfl ok_custref_Between okr_custref_Between rfl (by kernel_rfl) ?_
  intro Γ hW0 hN0 hL0
  have hW := hW0 rfl
  clear hW0 hN0 hL0
  unfold x_custref_Between r_custref_Between
  refine auC ?_
  repeat' (first
    | (refine auS ?_)
    | fail
    | (refine auD ?_)
    | (with_reducible refine runR_b (fun h => ?_) (fun h => ?_) <;> first | exact auH | simp only [h, runR_t, runR_f])
    | (with_reducible refine condK_bl ?_ ?_)
    | (with_reducible refine condK_b (fun h => ?_) (fun h => ?_) <;> first | exact auH | skip)
    | fail)
  all_goals refine auF ?_
  all_goals (try first | refine auR ?_ | exact auR0)
  all_goals (try simp only [hsM] at *)
  · exact dbool (by simp [h])
  · exact dbool (by simp [h])
theorem due_ne {x y : Du} : (x ≠ y) ↔ ¬ (x.id = y.id ∧ x.t = y.t) := by
  cases x
  cases y
  simp
set_option maxHeartbeats 400000 in
theorem eqd_spec (l1 l2 : List Du) (h1 : l1.length ≤ maxLen) : Spec Try.prog 14 [snapD l1, snapD l2] (.v (.bool (decide (l1 = l2)))) := by
  have n1 : (l1.map Du.enc).length = l1.length := List.length_map _
  have n2 : (l2.map Du.enc).length = l2.length := List.length_map _
  unfold maxLen at h1
  by_cases hl : l1.length = l2.length
  · have hl2 : decide (((l1.length : Nat) : Int) = (l2.length : Nat)) = true := decide_eq_true (by omega)
    refine hspec_fn Try.func14 rfl ok_slices_Equal_api_Due okr_slices_Equal_api_Due rfl (by kernel_rfl) ?_
    intro Γ hW0 hN0 hL0
    have hW := hW0 rfl
    clear hW0 hN0 hL0
    unfold x_slices_Equal_api_Due r_slices_Equal_api_Due
    refine auC ?_
    repeat' (first
      | (refine auS ?_)
      | (simp only [n1, n2, hl2])
      | (refine auD ?_)
      | (with_reducible refine runR_b (fun h => ?_) (fun h => ?_) <;> first | exact auH | simp only [h, runR_t, runR_f])
      | (with_reducible refine condK_bl ?_ ?_)
      | (with_reducible refine condK_b (fun h => ?_) (fun h => ?_) <;> first | exact auH | skip)
      | fail)
    refine go_loopH (α := Nat) (fun k => [(⟨.d0, .d1, .d5⟩, .v (.int .i64 (k : Nat)))]) (fun _ => []) (fun _ => Γ.g0) (fun k => l1.length - k) (fun k => k ≤ l1.length ∧ l1.take k = l2.take k) 0 ⟨Nat.zero_le _, rfl⟩ ?_ ?_
    · skip
      refine le_mk ?_ ?_ (Nat.le_refl _)
      all_goals first | refine auE ?_ | exact auE0
      all_goals (repeat' (first | exact trivial | exact rfl | apply And.intro))
    rintro k ⟨hk, hp⟩
    dsimp only at hk hp ⊢
    refine auL ?_
    by_cases hlt : k < l1.length
    · obtain ⟨x, hx⟩ : ∃ x, l1[k]? = some x := ⟨_, List.getElem?_eq_getElem hlt⟩
      obtain ⟨y, hy⟩ : ∃ y, l2[k]? = some y := ⟨_, List.getElem?_eq_getElem (by omega)⟩
      have ex := xget_du hx
      have ey := xget_du hy
      have w1 : IntKind.i64.wrap ((k : Int) + 1) = ((k + 1 : Nat) : Int) := by rw [IntWalk.i64_in _ (by omega)]; omega
      by_cases hxy : x = y
      · have e : (!(decide (x.id = y.id) && decide (x.t = y.t))) = false := by rw [hxy]; simp
        repeat' (first
          | (refine auS ?_)
          | (simp only [n1, n2, Int.toNat_natCast, ex, ey, w1, e])
          | (refine auD ?_)
          | (with_reducible refine runR_b (fun h => ?_) (fun h => ?_) <;> first | exact auH | simp only [h, runR_t, runR_f])
          | (with_reducible refine condK_bl ?_ ?_)
          | (with_reducible refine condK_b (fun h => ?_) (fun h => ?_) <;> first | exact auH | skip)
          | fail)
        (all_goals first | exact auP | skip)
        refine nx_loop ⟨k + 1, ⟨hlt, by rw [List.take_add_one, List.take_add_one, hp, hx, hy, hxy]⟩, Nat.sub_lt_sub_left hlt (Nat.lt_succ_self k), ?_⟩
        refine le_mk ?_ ?_ (Nat.le_refl _)
        all_goals first | refine auE ?_ | exact auE0
        all_goals (repeat' (first | exact trivial | exact rfl | apply And.intro))
      · have e : (!(decide (x.id = y.id) && decide (x.t = y.t))) = true := by
          have := due_ne.1 hxy
          simp only [Bool.not_eq_true', Bool.and_eq_false_iff, decide_eq_false_iff_not]
          by_cases q : x.id = y.id
          · exact .inr fun q2 => this ⟨q, q2⟩
          · exact .inl q
        have hne : decide (l1 = l2) = false := decide_eq_false fun q => hxy (by rw [q, hy] at hx; exact (Option.some.inj hx).symm)
        rw [hne]
        repeat' (first
          | (refine auS ?_)
          | (simp only [n1, n2, Int.toNat_natCast, ex, ey, w1, e])
          | (refine auD ?_)
          | (with_reducible refine runR_b (fun h => ?_) (fun h => ?_) <;> first | exact auH | simp only [h, runR_t, runR_f])
          | (with_reducible refine condK_bl ?_ ?_)
          | (with_reducible refine condK_b (fun h => ?_) (fun h => ?_) <;> first | exact auH | skip)
          | fail)
        (all_goals first | exact auP | skip)
        all_goals refine auF ?_
        all_goals (try first | refine auR ?_ | exact auR0)
        all_goals (try simp only [hsM] at *)
    · obtain rfl : k = l1.length := by omega
      rw [List.take_length, hl, List.take_length] at hp
      rw [decide_eq_true hp]
      repeat' (first
        | (refine auS ?_)
        | (simp only [n1, n2])
        | (refine auD ?_)
        | (with_reducible refine runR_b (fun h => ?_) (fun h => ?_) <;> first | exact auH | simp only [h, runR_t, runR_f])
        | (with_reducible refine condK_bl ?_ ?_)
        | (with_reducible refine condK_b (fun h => ?_) (fun h => ?_) <;> first | exact auH | skip)
        | fail)
      (all_goals first | exact auP | skip)
      all_goals refine auF ?_
      all_goals (try first | refine auR ?_ | exact auR0)
      all_goals (try simp only [hsM] at *)
  · have hl2 : decide (((l1.length : Nat) : Int) = (l2.length : Nat)) = false := decide_eq_false (by omega)
    have hne : decide (l1 = l2) = false := decide_eq_false fun q => hl (by rw [q])
    rw [hne]
    refine hspec_fn Try.func14 rfl ok_slices_Equal_api_Due okr_slices_Equal_api_Due rfl (by kernel_rfl) ?_
    intro Γ hW0 hN0 hL0
    have hW := hW0 rfl
    clear hW0 hN0 hL0
    unfold x_slices_Equal_api_Due r_slices_Equal_api_Due
    refine auC ?_
    repeat' (first
      | (refine auS ?_)
      | (simp only [n1, n2, hl2])
      | (refine auD ?_)
      | (with_reducible refine runR_b (fun h => ?_) (fun h => ?_) <;> first | exact auH | simp only [h, runR_t, runR_f])
      | (with_reducible refine condK_bl ?_ ?_)
      | (with_reducible refine condK_b (fun h => ?_) (fun h => ?_) <;> first | exact auH | skip)
      | fail)
    (all_goals first | exact auP | skip)
    all_goals refine auF ?_
    all_goals (try first | refine auR ?_ | exact auR0)
    all_goals (try simp only [hsM] at *)
set_option maxHeartbeats 1000000 in
theorem sameWheel_spec (na nb : Int) (La Lb : WL) (ha : La.length = 96) (hb : Lb.length = 96) (hz : ∀ l ∈ La, l.length ≤ maxLen) : Spec Try.prog 11 [.agg (wcs na La), .agg (wcs nb Lb)] (.v (.bool (decide (La = Lb) && decide (na = nb)))) := by
  obtain ⟨hA1, hB1, hL1, -, hG1⟩ := snaps ha
  obtain ⟨hA2, hB2, hL2, -, hG2⟩ := snaps hb
  unfold wcs
  generalize La.map snapD = X at *
  generalize Lb.map snapD = Y at *
  refine hspec_fn Try.func11 rfl ok_custref_SameWheel okr_custref_SameWheel rfl (by kernel_rfl) ?_
  intro Γ hW0 hN0 hL0
  have hW := hW0 rfl
  clear hW0 hN0 hL0
  unfold x_custref_SameWheel r_custref_SameWheel
  refine auC ?_
  repeat' (first
    | (refine auS ?_)
    | fail
    | (refine auD ?_)
    | (with_reducible refine runR_b (fun h => ?_) (fun h => ?_) <;> first | exact auH | simp only [h, runR_t, runR_f])
    | (with_reducible refine condK_bl ?_ ?_)
    | (with_reducible refine condK_b (fun h => ?_) (fun h => ?_) <;> first | exact auH | skip)
    | (first | (refine runR_n ⟨by simp only [hA1, hB1, allOne, lenB, oneD, oneV, andB], by decide⟩ ?_) | (refine runR_n ⟨by simp only [hA2, hB2, allOne, lenB, oneD, oneV, andB], by decide⟩ ?_) | fail))
  refine go_loopH (α := Nat) (fun i => [(⟨.d0, .d0, .d6⟩, .v (.int .i64 (i : Nat)))]) (fun _ => []) (fun _ => Γ.g0 + 2) (fun i => 96 - i) (fun i => i ≤ 96 ∧ La.take i = Lb.take i) 0 ⟨Nat.zero_le _, rfl⟩ ?_ ?_
  · skip
    refine le_mk ?_ ?_ (Nat.le_refl _)
    all_goals first | refine auE ?_ | exact auE0
    all_goals (repeat' (first | exact trivial | exact rfl | apply And.intro))
  rintro i ⟨hi, hp⟩
  dsimp only at hi hp ⊢
  refine auL ?_
  by_cases hlt : i < 96
  · obtain ⟨x, hx⟩ : ∃ x, La[i]? = some x := ⟨_, List.getElem?_eq_getElem (by omega)⟩
    obtain ⟨y, hy⟩ : ∃ y, Lb[i]? = some y := ⟨_, List.getElem?_eq_getElem (by omega)⟩
    have hg1 := hG1 i x hx
    have hg2 := hG2 i y hy
    have hdd : ∀ (Z : List DV), ddrop Z (1 + i) = ddrop (ddrop Z 1) i := fun Z => by
      cases Z with
      | nil => rw [show 1 + i = i + 1 by omega]; cases i <;> rfl
      | cons z r => rw [show 1 + i = i + 1 by omega]; show ddrop r i = ddrop (ddrop r 0) i; rw [ddrop0]
    have w1 : IntKind.i64.wrap ((i : Int) + 1) = ((i + 1 : Nat) : Int) := by rw [IntWalk.i64_in _ (by omega)]; omega
    have heq := eqd_spec x y (hz x (List.mem_of_getElem? hx))
    by_cases hxy : x = y
    · rw [decide_eq_true hxy] at heq
      repeat' (first
        | (refine auS ?_)
        | (first | (simp only [Int.toNat_natCast, Nat.mul_one, hdd, ddrop0, hg1, hg2, w1]) | (with_reducible refine runR_call heq ?_))
        | (refine auD ?_)
        | (with_reducible refine runR_b (fun h => ?_) (fun h => ?_) <;> first | exact auH | simp only [h, runR_t, runR_f])
        | (with_reducible refine condK_bl ?_ ?_)
        | (with_reducible refine condK_b (fun h => ?_) (fun h => ?_) <;> first | exact auH | skip)
        | (first | (refine runR_n (by omega) ?_) | fail))
      (all_goals first | exact auP | skip)
      refine nx_loop ⟨i + 1, ⟨hlt, by rw [List.take_add_one, List.take_add_one, hp, hx, hy, hxy]⟩, by omega, ?_⟩
      refine le_mk ?_ ?_ (Nat.le_refl _)
      all_goals first | refine auE ?_ | exact auE0
      all_goals (repeat' (first | exact trivial | exact rfl | apply And.intro))
    · have hne : decide (La = Lb) = false := decide_eq_false fun q => hxy (by rw [q, hy] at hx; exact (Option.some.inj hx).symm)
      rw [decide_eq_false hxy] at heq
      rw [hne, Bool.false_and]
      repeat' (first
        | (refine auS ?_)
        | (first | (simp only [Int.toNat_natCast, Nat.mul_one, hdd, ddrop0, hg1, hg2, w1]) | (with_reducible refine runR_call heq ?_))
        | (refine auD ?_)
        | (with_reducible refine runR_b (fun h => ?_) (fun h => ?_) <;> first | exact auH | simp only [h, runR_t, runR_f])
        | (with_reducible refine condK_bl ?_ ?_)
        | (with_reducible refine condK_b (fun h => ?_) (fun h => ?_) <;> first | exact auH | skip)
        | (first | (refine runR_n (by omega) ?_) | fail))
      (all_goals first | exact auP | skip)
      all_goals refine auF ?_
      all_goals (try first | refine auR ?_ | exact auR0)
      all_goals (try simp only [hsM] at *)
  · obtain rfl : i = 96 := by omega
    rw [List.take_of_length_le (by omega), List.take_of_length_le (by omega)] at hp
    rw [decide_eq_true hp, Bool.true_and]
    repeat' (first
      | (refine auS ?_)
      | fail
      | (refine auD ?_)
      | (with_reducible refine runR_b (fun h => ?_) (fun h => ?_) <;> first | exact auH | simp only [h, runR_t, runR_f])
      | (with_reducible refine condK_bl ?_ ?_)
      | (with_reducible refine condK_b (fun h => ?_) (fun h => ?_) <;> first | exact auH | skip)
      | fail)
    (all_goals first | exact auP | skip)
    all_goals refine auF ?_
    all_goals (try first | refine auR ?_ | exact auR0)
    all_goals (try simp only [hsM] at *)
/-! A thing searched. -/
theorem find1_spec (d : Du) (id : Int) : Spec Try.prog 34 [.agg d.enc, .rptr [.v (.int .i64 id)]] (.v (.bool (decide (d.id = id)))) := by
  refine hspec_fn Try.func34 rfl ok_wheel_find_1 okr_wheel_find_1 rfl (by kernel_rfl) ?_
  intro Γ hW0 hN0 hL0
  have hW := hW0 rfl
  clear hW0 hN0 hL0
  unfold x_wheel_find_1 r_wheel_find_1
  refine auC ?_
  dsimp only [Du.enc]
  repeat' (first
    | (refine auS ?_)
    | fail
    | (refine auD ?_)
    | (with_reducible refine runR_b (fun h => ?_) (fun h => ?_) <;> first | exact auH | simp only [h, runR_t, runR_f])
    | (with_reducible refine condK_bl ?_ ?_)
    | (with_reducible refine condK_b (fun h => ?_) (fun h => ?_) <;> first | exact auH | skip)
    | fail)
  all_goals refine auF ?_
  all_goals (try first | refine auR ?_ | exact auR0)
  all_goals (try simp only [hsM] at *)
set_option maxHeartbeats 1000000 in
theorem duindexf_spec {g : FuncId} {caps : List DV} (p : Du → Bool) (l : List Du) (c : Bool) (hl : l.length ≤ maxLen) (hg : ∀ t ∈ l, Spec Try.prog g (.agg (Du.enc t) :: caps) (.v (.bool (p t)))) : Spec Try.prog 33 [.snap 2 (l.map Du.enc) c, .fn (.func g) [] caps] (.v (.int .i64 (firstI p l 0))) := by
  unfold maxLen at hl
  refine hspec_fn Try.func33 rfl ok_slices_IndexFunc_api_Due okr_slices_IndexFunc_api_Due rfl (by kernel_rfl) ?_
  intro Γ hW0 hN0 hL0
  have hW := hW0 rfl
  clear hW0 hN0 hL0
  unfold x_slices_IndexFunc_api_Due r_slices_IndexFunc_api_Due
  refine auC ?_
  repeat' (first
    | (refine auS ?_)
    | fail
    | (refine auD ?_)
    | (with_reducible refine runR_b (fun h => ?_) (fun h => ?_) <;> first | exact auH | simp only [h, runR_t, runR_f])
    | (with_reducible refine condK_bl ?_ ?_)
    | (with_reducible refine condK_b (fun h => ?_) (fun h => ?_) <;> first | exact auH | skip)
    | fail)
  refine go_loopH (α := Nat) (fun k => [(⟨.d0, .d1, .d0⟩, .v (.int .i64 (k : Nat)))]) (fun _ => []) (fun _ => Γ.g0) (fun k => l.length - k) (fun k => k ≤ l.length ∧ firstI p l 0 = firstI p (l.drop k) k) 0 ⟨Nat.zero_le _, rfl⟩ ?_ ?_
  · skip
    refine le_mk ?_ ?_ (Nat.le_refl _)
    all_goals first | refine auE ?_ | exact auE0
    all_goals (repeat' (first | exact trivial | exact rfl | apply And.intro))
  · rintro k ⟨hk, hp⟩
    refine auL ?_
    by_cases hlt : k < l.length
    · obtain ⟨t, ht⟩ : ∃ t, l[k]? = some t := ⟨_, List.getElem?_eq_getElem hlt⟩
      have ex := xget_map Du.enc l k t ht
      have hgt := hg t (List.mem_of_getElem? ht)
      rw [List.drop_eq_getElem_cons hlt, show l[k] = t from Option.some.inj ((List.getElem?_eq_getElem hlt).symm.trans ht)] at hp
      repeat' (first
        | (refine auS ?_)
        | (with_reducible refine runR_call hgt ?_)
        | (refine auD ?_)
        | (with_reducible refine runR_b (fun h => ?_) (fun h => ?_) <;> first | exact auH | simp only [h, runR_t, runR_f])
        | (with_reducible refine condK_bl ?_ ?_)
        | (with_reducible refine condK_b (fun h => ?_) (fun h => ?_) <;> first | exact auH | skip)
        | (simp only [Int.toNat_natCast, ex]))
      (all_goals first | exact auP | skip)
      · skip
        all_goals refine auF ?_
        all_goals (try first | refine auR ?_ | exact auR0)
        all_goals (try simp only [hsM] at *)
        rw [hp]
        simp [firstI, *]
      · refine nx_loop ?_
        refine ⟨k + 1, ⟨Nat.succ_le_of_lt hlt, by rw [hp]; simp [firstI, *]⟩, Nat.sub_lt_sub_left hlt (Nat.lt_succ_self k), ?_⟩
        refine le_mk ?_ ?_ (Nat.le_refl _)
        all_goals first | refine auE ?_ | exact auE0
        all_goals (repeat' (first | exact trivial | exact rfl | apply And.intro))
        exact dint ((IntWalk.i64_in _ (by omega)).trans (by omega))
    · skip
      repeat' (first
        | (refine auS ?_)
        | fail
        | (refine auD ?_)
        | (with_reducible refine runR_b (fun h => ?_) (fun h => ?_) <;> first | exact auH | simp only [h, runR_t, runR_f])
        | (with_reducible refine condK_bl ?_ ?_)
        | (with_reducible refine condK_b (fun h => ?_) (fun h => ?_) <;> first | exact auH | skip)
        | fail)
      (all_goals first | exact auP | skip)
      all_goals refine auF ?_
      all_goals (try first | refine auR ?_ | exact auR0)
      all_goals (try simp only [hsM] at *)
      obtain rfl : k = l.length := by omega
      rw [hp, List.drop_length]
      rfl
set_option maxHeartbeats 1000000 in
theorem find_spec (now id : Int) (L : WL) (h96 : L.length = 96) (hz : ∀ l ∈ L, l.length ≤ maxLen) (i0 : Nat) (h0 : i0 ≤ 96) (a b : Int) (hno : ∀ (j : Nat) (l : List Du), j < i0 → L[j]? = some l → ∀ d ∈ l, d.id ≠ id)
    (hR : (i0 = 96 ∧ a = -1 ∧ b = 0) ∨ ∃ (l : List Du) (k : Nat), L[i0]? = some l ∧ firstI (fun d : Du => decide (d.id = id)) l 0 = (k : Nat) ∧ a = (i0 : Nat) ∧ b = (k : Nat)) : Spec Try.prog 15 [.agg (wcs now L), .v (.int .i64 id)] (.tup [.v (.int .i64 a), .v (.int .i64 b)]) := by
  obtain ⟨hA, hB, hL, hT, hG⟩ := snaps h96
  unfold wcs
  generalize L.map snapD = X at *
  refine hspec_fn Try.func15 rfl ok_wheel_find okr_wheel_find rfl (by kernel_rfl) ?_
  intro Γ hW0 hN0 hL0
  have hW := hW0 rfl
  clear hW0 hN0 hL0
  unfold x_wheel_find r_wheel_find
  refine auC ?_
  repeat' (first
    | (refine auS ?_)
    | (simp only [hT])
    | (refine auD ?_)
    | (with_reducible refine runR_b (fun h => ?_) (fun h => ?_) <;> first | exact auH | simp only [h, runR_t, runR_f])
    | (with_reducible refine condK_bl ?_ ?_)
    | (with_reducible refine condK_b (fun h => ?_) (fun h => ?_) <;> first | exact auH | skip)
    | (first | (refine runR_n ⟨by simp only [hA, hB, allOne, lenB, oneD, oneV, andB], by decide⟩ ?_) | fail))
  refine go_leG (leG_freezeP hW ⟨.d0, .d0, .d3⟩ rfl rfl ⟨rfl, rfl, Nat.succ_pos _⟩) ?_
  refine auL ?_
  refine go_loopH (α := Nat) (fun i => [(⟨.d0, .d1, .d3⟩, .v (.int .i64 (i : Nat)))]) (fun _ => []) (fun _ => Γ.g0 + 2) (fun i => 96 - i) (fun i => i ≤ i0) 0 (Nat.zero_le _) ?_ ?_
  · skip
    refine le_mk ?_ ?_ (Nat.le_refl _)
    all_goals first | refine auE ?_ | exact auE0
    all_goals (repeat' (first | exact trivial | exact rfl | apply And.intro))
  intro i hi
  dsimp only at hi ⊢
  refine auL ?_
  by_cases hlt : i < 96
  · obtain ⟨l, hl⟩ : ∃ l, L[i]? = some l := ⟨_, List.getElem?_eq_getElem (by omega)⟩
    have hg := hG i l hl
    have hn1 : i * 1 + 1 ≤ X.length := by omega
    have w1 : IntKind.i64.wrap ((i : Int) + 1) = ((i + 1 : Nat) : Int) := by rw [IntWalk.i64_in _ (by omega)]; omega
    have hix := duindexf_spec (g := 34) (caps := [.rptr [.v (.int .i64 id)]]) (fun d => decide (d.id = id)) l false (hz l (List.mem_of_getElem? hl)) (fun d _ => find1_spec d id)
    by_cases hi0 : i < i0
    · have hno' : firstI (fun d : Du => decide (d.id = id)) l 0 = -1 := firstI_shift _ l 0 (fun d hd => decide_eq_false (hno i l hi0 hl d hd))
      rw [hno'] at hix
      repeat' (first
        | (refine auS ?_)
        | (first | (simp only [hL, Int.toNat_natCast, Nat.mul_one, hg, w1]) | (with_reducible refine runR_call hix ?_))
        | (refine auD ?_)
        | (with_reducible refine runR_b (fun h => ?_) (fun h => ?_) <;> first | exact auH | simp only [h, runR_t, runR_f])
        | (with_reducible refine condK_bl ?_ ?_)
        | (with_reducible refine condK_b (fun h => ?_) (fun h => ?_) <;> first | exact auH | skip)
        | (first | (refine runR_n (by omega) ?_) | fail))
      (all_goals first | exact auP | skip)
      refine nx_loop ⟨i + 1, hi0, by omega, ?_⟩
      refine le_mk ?_ ?_ (Nat.le_refl _)
      all_goals first | refine auE ?_ | exact auE0
      all_goals (repeat' (first | exact trivial | exact rfl | apply And.intro))
    · obtain rfl : i = i0 := by omega
      rcases hR with ⟨h1, -⟩ | ⟨l', k, h1, h2, rfl, rfl⟩
      · omega
      obtain rfl := Option.some.inj (hl.symm.trans h1)
      rw [h2] at hix
      have hk : decide ((0 : Int) ≤ (k : Nat)) = true := decide_eq_true (by omega)
      repeat' (first
        | (refine auS ?_)
        | (first | (simp only [hL, Int.toNat_natCast, Nat.mul_one, hg, w1, hk]) | (with_reducible refine runR_call hix ?_))
        | (refine auD ?_)
        | (with_reducible refine runR_b (fun h => ?_) (fun h => ?_) <;> first | exact auH | simp only [h, runR_t, runR_f])
        | (with_reducible refine condK_bl ?_ ?_)
        | (with_reducible refine condK_b (fun h => ?_) (fun h => ?_) <;> first | exact auH | skip)
        | (first | (refine runR_n (by omega) ?_) | fail))
      (all_goals first | exact auP | skip)
      all_goals refine auF ?_
      all_goals (try first | refine auR ?_ | exact auR0)
      all_goals (try simp only [hsM] at *)
  · rcases hR with ⟨h1, rfl, rfl⟩ | ⟨l', k, h1, h2, rfl, rfl⟩
    · obtain rfl : i = 96 := by omega
      repeat' (first
        | (refine auS ?_)
        | fail
        | (refine auD ?_)
        | (with_reducible refine runR_b (fun h => ?_) (fun h => ?_) <;> first | exact auH | simp only [h, runR_t, runR_f])
        | (with_reducible refine condK_bl ?_ ?_)
        | (with_reducible refine condK_b (fun h => ?_) (fun h => ?_) <;> first | exact auH | skip)
        | fail)
      (all_goals first | exact auP | skip)
      all_goals refine auF ?_
      all_goals (try first | refine auR ?_ | exact auR0)
      all_goals (try simp only [hsM] at *)
    · have := (List.getElem?_eq_some_iff.1 h1).1
      omega
end Go.Proofs.Ytecnjhmpipfldaa
