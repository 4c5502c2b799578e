/-
  What is handed in is wrong; the reference's answer.
-/
import Derived.Test.YtecnjhmpipfldaaTickX
import Derived.Test.YtecnjhmpipfldaaSortW
namespace Go.Proofs.Ytecnjhmpipfldaa
set_option linter.unusedVariables false
set_option linter.unusedSimpArgs false
set_option maxHeartbeats 2000000 in
theorem tick_bad1 (now m : Int) (L : WL) (h96 : L.length = 96) (hz : ∀ l ∈ L, l.length ≤ 1407374) (h : wchk now L ≠ 0) : Spec Try.prog 12 [.agg (wcs now L), .v (.int .i64 m)] (dT 0 noW [] (wchk now L)) := by
  have hchk := wcheck_spec now L h96 hz
  obtain ⟨hA, hB, hL, hT, hG⟩ := snaps h96
  rw [ddrop0] at hT
  have hrep : (List.replicate 96 nilD).length = 96 := by simp
  have hra := rep_ones 96
  have hrb := lenB_of hrep
  have hzz := splice_len _ _ (Eq.refl (List.replicate 96 nilD).length)
  have hdz := dtake_of hrep
  refine bad_dT ?_
  generalize wchk now L = e at *
  have he : (!decide (e = 0)) = true := by simp [h]
  unfold wcs at *
  generalize L.map snapD = X at *
  refine hspec_fn Try.func12 rfl ok_wheel_Tick okr_wheel_Tick rfl (by kernel_rfl) ?_
  intro Γ hW0 hN0 hL0
  have hW := hW0 rfl
  clear hW0 hN0 hL0
  unfold x_wheel_Tick r_wheel_Tick
  refine auC ?_
  repeat' (first
    | fail
    | (refine auS ?_)
    | (first | (simp only [hT, ddrop0, zv_eq, zv_len, hzz, splice_nil, he]) | (with_reducible refine runR_call hchk ?_))
    | (refine auD ?_)
    | (with_reducible refine runR_b (fun h => ?_) (fun h => ?_) <;> first | exact auH | simp only [h, runR_t, runR_f])
    | (with_reducible refine condK_bl ?_ ?_)
    | (with_reducible refine condK_b (fun h => ?_) (fun h => ?_) <;> first | exact auH | skip)
    | (first | (refine runR_n ⟨by simp only [hA, hB, allOne, lenB, oneD, oneV, andB], by decide⟩ ?_) | (refine runR_n ⟨by decide, by decide, by simp only [hra, hrb, allOne, lenB, oneD, oneV, andB]⟩ ?_) | fail))
  (all_goals first | exact auP | skip)
  have hnf : nfL Γ.g0 (dtake (List.replicate 96 nilD) 96) := by rw [hdz]; exact rep_nf _ _
  all_goals with_reducible refine ret_spec2 (by (try first | refine auR ?_ | exact auR0); (repeat' (first | exact trivial | exact rfl | exact hnf | decide | apply And.intro))) ?_
  all_goals (try first | refine auR ?_ | exact auR0)
  rw [hdz]
set_option maxHeartbeats 2000000 in
theorem rtick_bad1 (now m : Int) (L : WL) (h96 : L.length = 96) (hz : ∀ l ∈ L, l.length ≤ 1407374) (h : wchk now L ≠ 0) : Spec Try.prog 13 [.agg (wcs now L), .v (.int .i64 m)] (dT 0 noW [] (wchk now L)) := by
  have hchk := wright_spec now L h96 hz
  obtain ⟨hA, hB, hL, hT, hG⟩ := snaps h96
  rw [ddrop0] at hT
  have hrep : (List.replicate 96 nilD).length = 96 := by simp
  have hra := rep_ones 96
  have hrb := lenB_of hrep
  have hzz := splice_len _ _ (Eq.refl (List.replicate 96 nilD).length)
  have hdz := dtake_of hrep
  refine bad_dT ?_
  generalize wchk now L = e at *
  have he : (!decide (e = 0)) = true := by simp [h]
  unfold wcs at *
  generalize L.map snapD = X at *
  refine hspec_fn Try.func13 rfl ok_custref_WheelTick okr_custref_WheelTick rfl (by kernel_rfl) ?_
  intro Γ hW0 hN0 hL0
  have hW := hW0 rfl
  clear hW0 hN0 hL0
  unfold x_custref_WheelTick r_custref_WheelTick
  refine auC ?_
  repeat' (first
    | fail
    | (refine auS ?_)
    | (first | (simp only [hT, ddrop0, zv_eq, zv_len, hzz, splice_nil, he]) | (with_reducible refine runR_call hchk ?_))
    | (refine auD ?_)
    | (with_reducible refine runR_b (fun h => ?_) (fun h => ?_) <;> first | exact auH | simp only [h, runR_t, runR_f])
    | (with_reducible refine condK_bl ?_ ?_)
    | (with_reducible refine condK_b (fun h => ?_) (fun h => ?_) <;> first | exact auH | skip)
    | (first | (refine runR_n ⟨by simp only [hA, hB, allOne, lenB, oneD, oneV, andB], by decide⟩ ?_) | (refine runR_n ⟨by decide, by decide, by simp only [hra, hrb, allOne, lenB, oneD, oneV, andB]⟩ ?_) | fail))
  (all_goals first | exact auP | skip)
  have hnf : nfL Γ.g0 (dtake (List.replicate 96 nilD) 96) := by rw [hdz]; exact rep_nf _ _
  all_goals with_reducible refine ret_spec2 (by (try first | refine auR ?_ | exact auR0); (repeat' (first | exact trivial | exact rfl | exact hnf | decide | apply And.intro))) ?_
  all_goals (try first | refine auR ?_ | exact auR0)
  rw [hdz]
set_option maxHeartbeats 4000000 in
theorem tick_bad2 (n : Nat) (m : Int) (L : WL) (h96 : L.length = 96) (hz : ∀ l ∈ L, l.length ≤ 1407374) (h0 : wchk n L = 0) (hm : ¬ (0 ≤ m ∧ m ≤ 10000 ∧ n + m ≤ 16777215)) : Spec Try.prog 12 [.agg (wcs n L), .v (.int .i64 m)] (dT 0 noW [] 1) := by
  have hchk := wcheck_spec n L h96 hz
  obtain ⟨c1, c2, c3, c4, c5⟩ := chk_zero h0
  rw [h0] at hchk
  obtain ⟨hA, hB, hL, hT, hG⟩ := snaps h96
  rw [ddrop0] at hT
  have hrep : (List.replicate 96 nilD).length = 96 := by simp
  have hra := rep_ones 96
  have hrb := lenB_of hrep
  have hzz := splice_len _ _ (Eq.refl (List.replicate 96 nilD).length)
  have hdz := dtake_of hrep
  refine bad_dT ?_
  by_cases a1 : m < 0
  · have q1 : decide (m < 0) = true := decide_eq_true a1
    unfold wcs at *
    generalize L.map snapD = X at *
    refine hspec_fn Try.func12 rfl ok_wheel_Tick okr_wheel_Tick rfl (by kernel_rfl) ?_
    intro Γ hW0 hN0 hL0
    have hW := hW0 rfl
    clear hW0 hN0 hL0
    unfold x_wheel_Tick r_wheel_Tick
    refine auC ?_
    repeat' (first
      | fail
      | (refine auS ?_)
      | (first | (simp only [hT, ddrop0, zv_eq, zv_len, hzz, splice_nil, q1]) | (with_reducible refine runR_call hchk ?_))
      | (refine auD ?_)
      | (with_reducible refine runR_b (fun h => ?_) (fun h => ?_) <;> first | exact auH | simp only [h, runR_t, runR_f])
      | (with_reducible refine condK_bl ?_ ?_)
      | (with_reducible refine condK_b (fun h => ?_) (fun h => ?_) <;> first | exact auH | skip)
      | (first | (refine runR_n ⟨by simp only [hA, hB, allOne, lenB, oneD, oneV, andB], by decide⟩ ?_) | (refine runR_n ⟨by decide, by decide, by simp only [hra, hrb, allOne, lenB, oneD, oneV, andB]⟩ ?_) | fail))
    (all_goals first | exact auP | skip)
    have hnf : nfL Γ.g0 (dtake (List.replicate 96 nilD) 96) := by rw [hdz]; exact rep_nf _ _
    all_goals with_reducible refine ret_spec2 (by (try first | refine auR ?_ | exact auR0); (repeat' (first | exact trivial | exact rfl | exact hnf | decide | apply And.intro))) ?_
    all_goals (try first | refine auR ?_ | exact auR0)
    rw [hdz]
  · have q1 : decide (m < 0) = false := decide_eq_false a1
    by_cases a2 : 10000 < m
    · have q2 : decide (10000 < m) = true := decide_eq_true a2
      unfold wcs at *
      generalize L.map snapD = X at *
      refine hspec_fn Try.func12 rfl ok_wheel_Tick okr_wheel_Tick rfl (by kernel_rfl) ?_
      intro Γ hW0 hN0 hL0
      have hW := hW0 rfl
      clear hW0 hN0 hL0
      unfold x_wheel_Tick r_wheel_Tick
      refine auC ?_
      repeat' (first
        | fail
        | (refine auS ?_)
        | (first | (simp only [hT, ddrop0, zv_eq, zv_len, hzz, splice_nil, q1, q2]) | (with_reducible refine runR_call hchk ?_))
        | (refine auD ?_)
        | (with_reducible refine runR_b (fun h => ?_) (fun h => ?_) <;> first | exact auH | simp only [h, runR_t, runR_f])
        | (with_reducible refine condK_bl ?_ ?_)
        | (with_reducible refine condK_b (fun h => ?_) (fun h => ?_) <;> first | exact auH | skip)
        | (first | (refine runR_n ⟨by simp only [hA, hB, allOne, lenB, oneD, oneV, andB], by decide⟩ ?_) | (refine runR_n ⟨by decide, by decide, by simp only [hra, hrb, allOne, lenB, oneD, oneV, andB]⟩ ?_) | fail))
      (all_goals first | exact auP | skip)
      have hnf : nfL Γ.g0 (dtake (List.replicate 96 nilD) 96) := by rw [hdz]; exact rep_nf _ _
      all_goals with_reducible refine ret_spec2 (by (try first | refine auR ?_ | exact auR0); (repeat' (first | exact trivial | exact rfl | exact hnf | decide | apply And.intro))) ?_
      all_goals (try first | refine auR ?_ | exact auR0)
      rw [hdz]
    · have q2 : decide (10000 < m) = false := decide_eq_false a2
      have w1 : IntKind.i64.wrap ((n : Int) + m) = n + m := IntWalk.i64_in _ (by omega)
      have q3 : decide (16777216 ≤ (n : Int) + m) = true := decide_eq_true (by omega)
      unfold wcs at *
      generalize L.map snapD = X at *
      refine hspec_fn Try.func12 rfl ok_wheel_Tick okr_wheel_Tick rfl (by kernel_rfl) ?_
      intro Γ hW0 hN0 hL0
      have hW := hW0 rfl
      clear hW0 hN0 hL0
      unfold x_wheel_Tick r_wheel_Tick
      refine auC ?_
      repeat' (first
        | fail
        | (refine auS ?_)
        | (first | (simp only [hT, ddrop0, zv_eq, zv_len, hzz, splice_nil, q1, q2, w1, q3]) | (with_reducible refine runR_call hchk ?_))
        | (refine auD ?_)
        | (with_reducible refine runR_b (fun h => ?_) (fun h => ?_) <;> first | exact auH | simp only [h, runR_t, runR_f])
        | (with_reducible refine condK_bl ?_ ?_)
        | (with_reducible refine condK_b (fun h => ?_) (fun h => ?_) <;> first | exact auH | skip)
        | (first | (refine runR_n ⟨by simp only [hA, hB, allOne, lenB, oneD, oneV, andB], by decide⟩ ?_) | (refine runR_n ⟨by decide, by decide, by simp only [hra, hrb, allOne, lenB, oneD, oneV, andB]⟩ ?_) | fail))
      (all_goals first | exact auP | skip)
      have hnf : nfL Γ.g0 (dtake (List.replicate 96 nilD) 96) := by rw [hdz]; exact rep_nf _ _
      all_goals with_reducible refine ret_spec2 (by (try first | refine auR ?_ | exact auR0); (repeat' (first | exact trivial | exact rfl | exact hnf | decide | apply And.intro))) ?_
      all_goals (try first | refine auR ?_ | exact auR0)
      rw [hdz]
set_option maxHeartbeats 4000000 in
theorem rtick_bad2 (n : Nat) (m : Int) (L : WL) (h96 : L.length = 96) (hz : ∀ l ∈ L, l.length ≤ 1407374) (h0 : wchk n L = 0) (hm : ¬ (0 ≤ m ∧ m ≤ 10000 ∧ n + m ≤ 16777215)) : Spec Try.prog 13 [.agg (wcs n L), .v (.int .i64 m)] (dT 0 noW [] 1) := by
  have hchk := wright_spec n L h96 hz
  obtain ⟨c1, c2, c3, c4, c5⟩ := chk_zero h0
  rw [h0] at hchk
  have hbt := between_spec m 0 10000
  obtain ⟨hA, hB, hL, hT, hG⟩ := snaps h96
  rw [ddrop0] at hT
  have hrep : (List.replicate 96 nilD).length = 96 := by simp
  have hra := rep_ones 96
  have hrb := lenB_of hrep
  have hzz := splice_len _ _ (Eq.refl (List.replicate 96 nilD).length)
  have hdz := dtake_of hrep
  refine bad_dT ?_
  by_cases a1 : 0 ≤ m ∧ m ≤ 10000
  · rw [decide_eq_true a1] at hbt
    have w1 : IntKind.i64.wrap ((n : Int) + m) = n + m := IntWalk.i64_in _ (by omega)
    have q3 : decide (16777215 < (n : Int) + m) = true := decide_eq_true (by omega)
    unfold wcs at *
    generalize L.map snapD = X at *
    refine hspec_fn Try.func13 rfl ok_custref_WheelTick okr_custref_WheelTick rfl (by kernel_rfl) ?_
    intro Γ hW0 hN0 hL0
    have hW := hW0 rfl
    clear hW0 hN0 hL0
    unfold x_custref_WheelTick r_custref_WheelTick
    refine auC ?_
    repeat' (first
      | fail
      | (refine auS ?_)
      | (first | (simp only [hT, ddrop0, zv_eq, zv_len, hzz, splice_nil, w1, q3]) | (with_reducible refine runR_call hchk ?_) | (with_reducible refine runR_call hbt ?_))
      | (refine auD ?_)
      | (with_reducible refine runR_b (fun h => ?_) (fun h => ?_) <;> first | exact auH | simp only [h, runR_t, runR_f])
      | (with_reducible refine condK_bl ?_ ?_)
      | (with_reducible refine condK_b (fun h => ?_) (fun h => ?_) <;> first | exact auH | skip)
      | (first | (refine runR_n ⟨by simp only [hA, hB, allOne, lenB, oneD, oneV, andB], by decide⟩ ?_) | (refine runR_n ⟨by decide, by decide, by simp only [hra, hrb, allOne, lenB, oneD, oneV, andB]⟩ ?_) | fail))
    (all_goals first | exact auP | skip)
    have hnf : nfL Γ.g0 (dtake (List.replicate 96 nilD) 96) := by rw [hdz]; exact rep_nf _ _
    all_goals with_reducible refine ret_spec2 (by (try first | refine auR ?_ | exact auR0); (repeat' (first | exact trivial | exact rfl | exact hnf | decide | apply And.intro))) ?_
    all_goals (try first | refine auR ?_ | exact auR0)
    rw [hdz]
  · rw [decide_eq_false a1] at hbt
    unfold wcs at *
    generalize L.map snapD = X at *
    refine hspec_fn Try.func13 rfl ok_custref_WheelTick okr_custref_WheelTick rfl (by kernel_rfl) ?_
    intro Γ hW0 hN0 hL0
    have hW := hW0 rfl
    clear hW0 hN0 hL0
    unfold x_custref_WheelTick r_custref_WheelTick
    refine auC ?_
    repeat' (first
      | fail
      | (refine auS ?_)
      | (first | (simp only [hT, ddrop0, zv_eq, zv_len, hzz, splice_nil]) | (with_reducible refine runR_call hchk ?_) | (with_reducible refine runR_call hbt ?_))
      | (refine auD ?_)
      | (with_reducible refine runR_b (fun h => ?_) (fun h => ?_) <;> first | exact auH | simp only [h, runR_t, runR_f])
      | (with_reducible refine condK_bl ?_ ?_)
      | (with_reducible refine condK_b (fun h => ?_) (fun h => ?_) <;> first | exact auH | skip)
      | (first | (refine runR_n ⟨by simp only [hA, hB, allOne, lenB, oneD, oneV, andB], by decide⟩ ?_) | (refine runR_n ⟨by decide, by decide, by simp only [hra, hrb, allOne, lenB, oneD, oneV, andB]⟩ ?_) | fail))
    (all_goals first | exact auP | skip)
    have hnf : nfL Γ.g0 (dtake (List.replicate 96 nilD) 96) := by rw [hdz]; exact rep_nf _ _
    all_goals with_reducible refine ret_spec2 (by (try first | refine auR ?_ | exact auR0); (repeat' (first | exact trivial | exact rfl | exact hnf | decide | apply And.intro))) ?_
    all_goals (try first | refine auR ?_ | exact auR0)
    rw [hdz]
end Go.Proofs.Ytecnjhmpipfldaa
