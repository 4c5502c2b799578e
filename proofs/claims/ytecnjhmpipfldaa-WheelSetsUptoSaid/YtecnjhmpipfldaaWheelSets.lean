/-
  WheelSets, where what it reads is of bulk at most 1048576: whatever is handed in, the law's function returns true.
-/
import Derived.Test.YtecnjhmpipfldaaWheelQ
import Derived.Test.YtecnjhmpipfldaaWheelN
namespace Go.Proofs.Ytecnjhmpipfldaa
open Go.ChangeShapes Go.WideShapes Go.ChangeAt Go.RowKit
set_option linter.unusedVariables false
set_option linter.unusedSimpArgs false
def shsWheelSets : List Sh := [.cons (.int .i64) (.cons (.cons (.slice 16 2 (.cons (.int .i64) (.cons (.int .i64) (.nil)))) (.cons (.slice 16 2 (.cons (.int .i64) (.cons (.int .i64) (.nil)))) (.cons (.slice 16 2 (.cons (.int .i64) (.cons (.int .i64) (.nil)))) (.cons (.slice 16 2 (.cons (.int .i64) (.cons (.int .i64) (.nil)))) (.cons (.slice 16 2 (.cons (.int .i64) (.cons (.int .i64) (.nil)))) (.cons (.slice 16 2 (.cons (.int .i64) (.cons (.int .i64) (.nil)))) (.cons (.slice 16 2 (.cons (.int .i64) (.cons (.int .i64) (.nil)))) (.cons (.slice 16 2 (.cons (.int .i64) (.cons (.int .i64) (.nil)))) (.cons (.slice 16 2 (.cons (.int .i64) (.cons (.int .i64) (.nil)))) (.cons (.slice 16 2 (.cons (.int .i64) (.cons (.int .i64) (.nil)))) (.cons (.slice 16 2 (.cons (.int .i64) (.cons (.int .i64) (.nil)))) (.cons (.slice 16 2 (.cons (.int .i64) (.cons (.int .i64) (.nil)))) (.cons (.slice 16 2 (.cons (.int .i64) (.cons (.int .i64) (.nil)))) (.cons (.slice 16 2 (.cons (.int .i64) (.cons (.int .i64) (.nil)))) (.cons (.slice 16 2 (.cons (.int .i64) (.cons (.int .i64) (.nil)))) (.cons (.slice 16 2 (.cons (.int .i64) (.cons (.int .i64) (.nil)))) (.cons (.slice 16 2 (.cons (.int .i64) (.cons (.int .i64) (.nil)))) (.cons (.slice 16 2 (.cons (.int .i64) (.cons (.int .i64) (.nil)))) (.cons (.slice 16 2 (.cons (.int .i64) (.cons (.int .i64) (.nil)))) (.cons (.slice 16 2 (.cons (.int .i64) (.cons (.int .i64) (.nil)))) (.cons (.slice 16 2 (.cons (.int .i64) (.cons (.int .i64) (.nil)))) (.cons (.slice 16 2 (.cons (.int .i64) (.cons (.int .i64) (.nil)))) (.cons (.slice 16 2 (.cons (.int .i64) (.cons (.int .i64) (.nil)))) (.cons (.slice 16 2 (.cons (.int .i64) (.cons (.int .i64) (.nil)))) (.cons (.slice 16 2 (.cons (.int .i64) (.cons (.int .i64) (.nil)))) (.cons (.slice 16 2 (.cons (.int .i64) (.cons (.int .i64) (.nil)))) (.cons (.slice 16 2 (.cons (.int .i64) (.cons (.int .i64) (.nil)))) (.cons (.slice 16 2 (.cons (.int .i64) (.cons (.int .i64) (.nil)))) (.cons (.slice 16 2 (.cons (.int .i64) (.cons (.int .i64) (.nil)))) (.cons (.slice 16 2 (.cons (.int .i64) (.cons (.int .i64) (.nil)))) (.cons (.slice 16 2 (.cons (.int .i64) (.cons (.int .i64) (.nil)))) (.cons (.slice 16 2 (.cons (.int .i64) (.cons (.int .i64) (.nil)))) (.cons (.slice 16 2 (.cons (.int .i64) (.cons (.int .i64) (.nil)))) (.cons (.slice 16 2 (.cons (.int .i64) (.cons (.int .i64) (.nil)))) (.cons (.slice 16 2 (.cons (.int .i64) (.cons (.int .i64) (.nil)))) (.cons (.slice 16 2 (.cons (.int .i64) (.cons (.int .i64) (.nil)))) (.cons (.slice 16 2 (.cons (.int .i64) (.cons (.int .i64) (.nil)))) (.cons (.slice 16 2 (.cons (.int .i64) (.cons (.int .i64) (.nil)))) (.cons (.slice 16 2 (.cons (.int .i64) (.cons (.int .i64) (.nil)))) (.cons (.slice 16 2 (.cons (.int .i64) (.cons (.int .i64) (.nil)))) (.cons (.slice 16 2 (.cons (.int .i64) (.cons (.int .i64) (.nil)))) (.cons (.slice 16 2 (.cons (.int .i64) (.cons (.int .i64) (.nil)))) (.cons (.slice 16 2 (.cons (.int .i64) (.cons (.int .i64) (.nil)))) (.cons (.slice 16 2 (.cons (.int .i64) (.cons (.int .i64) (.nil)))) (.cons (.slice 16 2 (.cons (.int .i64) (.cons (.int .i64) (.nil)))) (.cons (.slice 16 2 (.cons (.int .i64) (.cons (.int .i64) (.nil)))) (.cons (.slice 16 2 (.cons (.int .i64) (.cons (.int .i64) (.nil)))) (.cons (.slice 16 2 (.cons (.int .i64) (.cons (.int .i64) (.nil)))) (.cons (.slice 16 2 (.cons (.int .i64) (.cons (.int .i64) (.nil)))) (.cons (.slice 16 2 (.cons (.int .i64) (.cons (.int .i64) (.nil)))) (.cons (.slice 16 2 (.cons (.int .i64) (.cons (.int .i64) (.nil)))) (.cons (.slice 16 2 (.cons (.int .i64) (.cons (.int .i64) (.nil)))) (.cons (.slice 16 2 (.cons (.int .i64) (.cons (.int .i64) (.nil)))) (.cons (.slice 16 2 (.cons (.int .i64) (.cons (.int .i64) (.nil)))) (.cons (.slice 16 2 (.cons (.int .i64) (.cons (.int .i64) (.nil)))) (.cons (.slice 16 2 (.cons (.int .i64) (.cons (.int .i64) (.nil)))) (.cons (.slice 16 2 (.cons (.int .i64) (.cons (.int .i64) (.nil)))) (.cons (.slice 16 2 (.cons (.int .i64) (.cons (.int .i64) (.nil)))) (.cons (.slice 16 2 (.cons (.int .i64) (.cons (.int .i64) (.nil)))) (.cons (.slice 16 2 (.cons (.int .i64) (.cons (.int .i64) (.nil)))) (.cons (.slice 16 2 (.cons (.int .i64) (.cons (.int .i64) (.nil)))) (.cons (.slice 16 2 (.cons (.int .i64) (.cons (.int .i64) (.nil)))) (.cons (.slice 16 2 (.cons (.int .i64) (.cons (.int .i64) (.nil)))) (.cons (.slice 16 2 (.cons (.int .i64) (.cons (.int .i64) (.nil)))) (.cons (.slice 16 2 (.cons (.int .i64) (.cons (.int .i64) (.nil)))) (.cons (.slice 16 2 (.cons (.int .i64) (.cons (.int .i64) (.nil)))) (.cons (.slice 16 2 (.cons (.int .i64) (.cons (.int .i64) (.nil)))) (.cons (.slice 16 2 (.cons (.int .i64) (.cons (.int .i64) (.nil)))) (.cons (.slice 16 2 (.cons (.int .i64) (.cons (.int .i64) (.nil)))) (.cons (.slice 16 2 (.cons (.int .i64) (.cons (.int .i64) (.nil)))) (.cons (.slice 16 2 (.cons (.int .i64) (.cons (.int .i64) (.nil)))) (.cons (.slice 16 2 (.cons (.int .i64) (.cons (.int .i64) (.nil)))) (.cons (.slice 16 2 (.cons (.int .i64) (.cons (.int .i64) (.nil)))) (.cons (.slice 16 2 (.cons (.int .i64) (.cons (.int .i64) (.nil)))) (.cons (.slice 16 2 (.cons (.int .i64) (.cons (.int .i64) (.nil)))) (.cons (.slice 16 2 (.cons (.int .i64) (.cons (.int .i64) (.nil)))) (.cons (.slice 16 2 (.cons (.int .i64) (.cons (.int .i64) (.nil)))) (.cons (.slice 16 2 (.cons (.int .i64) (.cons (.int .i64) (.nil)))) (.cons (.slice 16 2 (.cons (.int .i64) (.cons (.int .i64) (.nil)))) (.cons (.slice 16 2 (.cons (.int .i64) (.cons (.int .i64) (.nil)))) (.cons (.slice 16 2 (.cons (.int .i64) (.cons (.int .i64) (.nil)))) (.cons (.slice 16 2 (.cons (.int .i64) (.cons (.int .i64) (.nil)))) (.cons (.slice 16 2 (.cons (.int .i64) (.cons (.int .i64) (.nil)))) (.cons (.slice 16 2 (.cons (.int .i64) (.cons (.int .i64) (.nil)))) (.cons (.slice 16 2 (.cons (.int .i64) (.cons (.int .i64) (.nil)))) (.cons (.slice 16 2 (.cons (.int .i64) (.cons (.int .i64) (.nil)))) (.cons (.slice 16 2 (.cons (.int .i64) (.cons (.int .i64) (.nil)))) (.cons (.slice 16 2 (.cons (.int .i64) (.cons (.int .i64) (.nil)))) (.cons (.slice 16 2 (.cons (.int .i64) (.cons (.int .i64) (.nil)))) (.cons (.slice 16 2 (.cons (.int .i64) (.cons (.int .i64) (.nil)))) (.cons (.slice 16 2 (.cons (.int .i64) (.cons (.int .i64) (.nil)))) (.cons (.slice 16 2 (.cons (.int .i64) (.cons (.int .i64) (.nil)))) (.cons (.slice 16 2 (.cons (.int .i64) (.cons (.int .i64) (.nil)))) (.cons (.slice 16 2 (.cons (.int .i64) (.cons (.int .i64) (.nil)))) (.cons (.slice 16 2 (.cons (.int .i64) (.cons (.int .i64) (.nil)))) (.cons (.slice 16 2 (.cons (.int .i64) (.cons (.int .i64) (.nil)))) (.nil))))))))))))))))))))))))))))))))))))))))))))))))))))))))))))))))))))))))))))))))))))))))))))))))) (.nil)), .int .i64, .int .i64]
def shwWheelSets : List Sh := [.cons (.int .i64) (.cons (.cons (.slice 100000000 2 (.cons (.int .i64) (.cons (.int .i64) (.nil)))) (.cons (.slice 100000000 2 (.cons (.int .i64) (.cons (.int .i64) (.nil)))) (.cons (.slice 100000000 2 (.cons (.int .i64) (.cons (.int .i64) (.nil)))) (.cons (.slice 100000000 2 (.cons (.int .i64) (.cons (.int .i64) (.nil)))) (.cons (.slice 100000000 2 (.cons (.int .i64) (.cons (.int .i64) (.nil)))) (.cons (.slice 100000000 2 (.cons (.int .i64) (.cons (.int .i64) (.nil)))) (.cons (.slice 100000000 2 (.cons (.int .i64) (.cons (.int .i64) (.nil)))) (.cons (.slice 100000000 2 (.cons (.int .i64) (.cons (.int .i64) (.nil)))) (.cons (.slice 100000000 2 (.cons (.int .i64) (.cons (.int .i64) (.nil)))) (.cons (.slice 100000000 2 (.cons (.int .i64) (.cons (.int .i64) (.nil)))) (.cons (.slice 100000000 2 (.cons (.int .i64) (.cons (.int .i64) (.nil)))) (.cons (.slice 100000000 2 (.cons (.int .i64) (.cons (.int .i64) (.nil)))) (.cons (.slice 100000000 2 (.cons (.int .i64) (.cons (.int .i64) (.nil)))) (.cons (.slice 100000000 2 (.cons (.int .i64) (.cons (.int .i64) (.nil)))) (.cons (.slice 100000000 2 (.cons (.int .i64) (.cons (.int .i64) (.nil)))) (.cons (.slice 100000000 2 (.cons (.int .i64) (.cons (.int .i64) (.nil)))) (.cons (.slice 100000000 2 (.cons (.int .i64) (.cons (.int .i64) (.nil)))) (.cons (.slice 100000000 2 (.cons (.int .i64) (.cons (.int .i64) (.nil)))) (.cons (.slice 100000000 2 (.cons (.int .i64) (.cons (.int .i64) (.nil)))) (.cons (.slice 100000000 2 (.cons (.int .i64) (.cons (.int .i64) (.nil)))) (.cons (.slice 100000000 2 (.cons (.int .i64) (.cons (.int .i64) (.nil)))) (.cons (.slice 100000000 2 (.cons (.int .i64) (.cons (.int .i64) (.nil)))) (.cons (.slice 100000000 2 (.cons (.int .i64) (.cons (.int .i64) (.nil)))) (.cons (.slice 100000000 2 (.cons (.int .i64) (.cons (.int .i64) (.nil)))) (.cons (.slice 100000000 2 (.cons (.int .i64) (.cons (.int .i64) (.nil)))) (.cons (.slice 100000000 2 (.cons (.int .i64) (.cons (.int .i64) (.nil)))) (.cons (.slice 100000000 2 (.cons (.int .i64) (.cons (.int .i64) (.nil)))) (.cons (.slice 100000000 2 (.cons (.int .i64) (.cons (.int .i64) (.nil)))) (.cons (.slice 100000000 2 (.cons (.int .i64) (.cons (.int .i64) (.nil)))) (.cons (.slice 100000000 2 (.cons (.int .i64) (.cons (.int .i64) (.nil)))) (.cons (.slice 100000000 2 (.cons (.int .i64) (.cons (.int .i64) (.nil)))) (.cons (.slice 100000000 2 (.cons (.int .i64) (.cons (.int .i64) (.nil)))) (.cons (.slice 100000000 2 (.cons (.int .i64) (.cons (.int .i64) (.nil)))) (.cons (.slice 100000000 2 (.cons (.int .i64) (.cons (.int .i64) (.nil)))) (.cons (.slice 100000000 2 (.cons (.int .i64) (.cons (.int .i64) (.nil)))) (.cons (.slice 100000000 2 (.cons (.int .i64) (.cons (.int .i64) (.nil)))) (.cons (.slice 100000000 2 (.cons (.int .i64) (.cons (.int .i64) (.nil)))) (.cons (.slice 100000000 2 (.cons (.int .i64) (.cons (.int .i64) (.nil)))) (.cons (.slice 100000000 2 (.cons (.int .i64) (.cons (.int .i64) (.nil)))) (.cons (.slice 100000000 2 (.cons (.int .i64) (.cons (.int .i64) (.nil)))) (.cons (.slice 100000000 2 (.cons (.int .i64) (.cons (.int .i64) (.nil)))) (.cons (.slice 100000000 2 (.cons (.int .i64) (.cons (.int .i64) (.nil)))) (.cons (.slice 100000000 2 (.cons (.int .i64) (.cons (.int .i64) (.nil)))) (.cons (.slice 100000000 2 (.cons (.int .i64) (.cons (.int .i64) (.nil)))) (.cons (.slice 100000000 2 (.cons (.int .i64) (.cons (.int .i64) (.nil)))) (.cons (.slice 100000000 2 (.cons (.int .i64) (.cons (.int .i64) (.nil)))) (.cons (.slice 100000000 2 (.cons (.int .i64) (.cons (.int .i64) (.nil)))) (.cons (.slice 100000000 2 (.cons (.int .i64) (.cons (.int .i64) (.nil)))) (.cons (.slice 100000000 2 (.cons (.int .i64) (.cons (.int .i64) (.nil)))) (.cons (.slice 100000000 2 (.cons (.int .i64) (.cons (.int .i64) (.nil)))) (.cons (.slice 100000000 2 (.cons (.int .i64) (.cons (.int .i64) (.nil)))) (.cons (.slice 100000000 2 (.cons (.int .i64) (.cons (.int .i64) (.nil)))) (.cons (.slice 100000000 2 (.cons (.int .i64) (.cons (.int .i64) (.nil)))) (.cons (.slice 100000000 2 (.cons (.int .i64) (.cons (.int .i64) (.nil)))) (.cons (.slice 100000000 2 (.cons (.int .i64) (.cons (.int .i64) (.nil)))) (.cons (.slice 100000000 2 (.cons (.int .i64) (.cons (.int .i64) (.nil)))) (.cons (.slice 100000000 2 (.cons (.int .i64) (.cons (.int .i64) (.nil)))) (.cons (.slice 100000000 2 (.cons (.int .i64) (.cons (.int .i64) (.nil)))) (.cons (.slice 100000000 2 (.cons (.int .i64) (.cons (.int .i64) (.nil)))) (.cons (.slice 100000000 2 (.cons (.int .i64) (.cons (.int .i64) (.nil)))) (.cons (.slice 100000000 2 (.cons (.int .i64) (.cons (.int .i64) (.nil)))) (.cons (.slice 100000000 2 (.cons (.int .i64) (.cons (.int .i64) (.nil)))) (.cons (.slice 100000000 2 (.cons (.int .i64) (.cons (.int .i64) (.nil)))) (.cons (.slice 100000000 2 (.cons (.int .i64) (.cons (.int .i64) (.nil)))) (.cons (.slice 100000000 2 (.cons (.int .i64) (.cons (.int .i64) (.nil)))) (.cons (.slice 100000000 2 (.cons (.int .i64) (.cons (.int .i64) (.nil)))) (.cons (.slice 100000000 2 (.cons (.int .i64) (.cons (.int .i64) (.nil)))) (.cons (.slice 100000000 2 (.cons (.int .i64) (.cons (.int .i64) (.nil)))) (.cons (.slice 100000000 2 (.cons (.int .i64) (.cons (.int .i64) (.nil)))) (.cons (.slice 100000000 2 (.cons (.int .i64) (.cons (.int .i64) (.nil)))) (.cons (.slice 100000000 2 (.cons (.int .i64) (.cons (.int .i64) (.nil)))) (.cons (.slice 100000000 2 (.cons (.int .i64) (.cons (.int .i64) (.nil)))) (.cons (.slice 100000000 2 (.cons (.int .i64) (.cons (.int .i64) (.nil)))) (.cons (.slice 100000000 2 (.cons (.int .i64) (.cons (.int .i64) (.nil)))) (.cons (.slice 100000000 2 (.cons (.int .i64) (.cons (.int .i64) (.nil)))) (.cons (.slice 100000000 2 (.cons (.int .i64) (.cons (.int .i64) (.nil)))) (.cons (.slice 100000000 2 (.cons (.int .i64) (.cons (.int .i64) (.nil)))) (.cons (.slice 100000000 2 (.cons (.int .i64) (.cons (.int .i64) (.nil)))) (.cons (.slice 100000000 2 (.cons (.int .i64) (.cons (.int .i64) (.nil)))) (.cons (.slice 100000000 2 (.cons (.int .i64) (.cons (.int .i64) (.nil)))) (.cons (.slice 100000000 2 (.cons (.int .i64) (.cons (.int .i64) (.nil)))) (.cons (.slice 100000000 2 (.cons (.int .i64) (.cons (.int .i64) (.nil)))) (.cons (.slice 100000000 2 (.cons (.int .i64) (.cons (.int .i64) (.nil)))) (.cons (.slice 100000000 2 (.cons (.int .i64) (.cons (.int .i64) (.nil)))) (.cons (.slice 100000000 2 (.cons (.int .i64) (.cons (.int .i64) (.nil)))) (.cons (.slice 100000000 2 (.cons (.int .i64) (.cons (.int .i64) (.nil)))) (.cons (.slice 100000000 2 (.cons (.int .i64) (.cons (.int .i64) (.nil)))) (.cons (.slice 100000000 2 (.cons (.int .i64) (.cons (.int .i64) (.nil)))) (.cons (.slice 100000000 2 (.cons (.int .i64) (.cons (.int .i64) (.nil)))) (.cons (.slice 100000000 2 (.cons (.int .i64) (.cons (.int .i64) (.nil)))) (.cons (.slice 100000000 2 (.cons (.int .i64) (.cons (.int .i64) (.nil)))) (.cons (.slice 100000000 2 (.cons (.int .i64) (.cons (.int .i64) (.nil)))) (.cons (.slice 100000000 2 (.cons (.int .i64) (.cons (.int .i64) (.nil)))) (.cons (.slice 100000000 2 (.cons (.int .i64) (.cons (.int .i64) (.nil)))) (.cons (.slice 100000000 2 (.cons (.int .i64) (.cons (.int .i64) (.nil)))) (.cons (.slice 100000000 2 (.cons (.int .i64) (.cons (.int .i64) (.nil)))) (.nil))))))))))))))))))))))))))))))))))))))))))))))))))))))))))))))))))))))))))))))))))))))))))))))))) (.nil)), .int .i64, .int .i64]
theorem noW_ok : noW.length = 96 ∧ ∀ l ∈ noW, l.length ≤ maxLen := ⟨by simp [noW], fun l hl => by
  rw [(List.mem_replicate.1 hl).2]
  exact Nat.zero_le _⟩
theorem wof_ok (now : Int) (F : List Du) (h : F.length ≤ maxLen) : (wof now F).length = 96 ∧ ∀ l ∈ wof now F, l.length ≤ maxLen := ⟨wof_len _ _, fun l hl => by
  obtain ⟨i, -, rfl⟩ := List.mem_map.1 hl
  exact Nat.le_trans (fil_le _ _ _) h⟩
theorem setR_ok (now : Int) (L : WL) (id t : Int) : (setR now L id t).2.1.length = 96 ∧ ∀ l ∈ (setR now L id t).2.1, l.length ≤ maxLen := by
  unfold setR
  split
  · exact noW_ok
  · rename_i h0
    have h1 := (chk_zero (Decidable.not_not.1 h0)).1
    split
    · exact noW_ok
    · split
      · exact noW_ok
      · split
        · exact noW_ok
        · exact wof_ok _ _ (by unfold maxLen; simp only [List.length_append, List.length_singleton]; omega)
theorem stopR_ok (now : Int) (L : WL) (id : Int) : (stopR now L id).2.1.length = 96 ∧ ∀ l ∈ (stopR now L id).2.1, l.length ≤ maxLen := by
  unfold stopR
  split
  · exact noW_ok
  · rename_i h0
    have h1 := (chk_zero (Decidable.not_not.1 h0)).1
    split
    · exact noW_ok
    · exact wof_ok _ _ (by
        have := List.length_filter_le (fun x : Du => !decide (x.id = id)) L.flatten
        unfold maxLen
        omega)
set_option maxHeartbeats 4000000 in
theorem sets_law (now id t : Int) (L : WL) (h96 : L.length = 96) (hz : ∀ l ∈ L, l.length ≤ 1407374) : Spec Try.prog 3 [.agg (wcs now L), .v (.int .i64 id), .v (.int .i64 t)] (.v (.bool true)) := by
  have h1 := set_spec now id t L h96 hz
  have h2 := rset_spec now id t L h96 hz
  have h3 := stop_spec now id L h96 hz
  have h4 := rstop_spec now id L h96 hz
  have h5 := wcheck_spec now L h96 hz
  have h6 := wright_spec now L h96 hz
  have hSa := setR_ok now L id t
  have hSb := stopR_ok now L id
  obtain ⟨hA, hB, hL, hT, hG⟩ := snaps h96
  rw [ddrop0] at hT
  have hrep : (List.replicate 96 nilD).length = 96 := by simp
  have hra := rep_ones 96
  have hrb := lenB_of hrep
  have hzz := splice_len _ _ (Eq.refl (List.replicate 96 nilD).length)
  have hdz := dtake_of hrep
  generalize setR now L id t = a at *
  generalize stopR now L id = b at *
  generalize wchk now L = e at *
  have qal := hSa.1
  obtain ⟨qaA, qaB, -, -, -⟩ := snaps qal
  have qaX : (a.2.1.map snapD).length = 96 := by rw [List.length_map]; exact qal
  have qad := dtake_of qaX
  have qas := splice_len (List.replicate 96 nilD) (a.2.1.map snapD) (by rw [hrep, qaX])
  have qae := sameWheel_spec a.1 a.1 a.2.1 a.2.1 qal qal hSa.2
  simp only [decide_true, Bool.and_self] at qae
  have qbl := hSb.1
  obtain ⟨qbA, qbB, -, -, -⟩ := snaps qbl
  have qbX : (b.2.1.map snapD).length = 96 := by rw [List.length_map]; exact qbl
  have qbd := dtake_of qbX
  have qbs := splice_len (List.replicate 96 nilD) (b.2.1.map snapD) (by rw [hrep, qbX])
  have qbe := sameWheel_spec b.1 b.1 b.2.1 b.2.1 qbl qbl hSb.2
  simp only [decide_true, Bool.and_self] at qbe
  unfold dR dW wcs at *
  generalize L.map snapD = X at *
  generalize a.2.1.map snapD = Y at *
  generalize b.2.1.map snapD = Z at *
  generalize a.2.2 = ea at *
  generalize b.2.2 = eb at *
  generalize a.1 = an at *
  generalize b.1 = bn at *
  refine hspec_fn Try.func3 rfl ok_custlaw_WheelSets okr_custlaw_WheelSets rfl (by kernel_rfl) ?_
  intro Γ hW0 hN0 hL0
  have hW := hW0 rfl
  clear hW0 hN0 hL0
  unfold x_custlaw_WheelSets r_custlaw_WheelSets
  refine auC ?_
  repeat' (first
    | (refine auS ?_)
    | (first | (simp only [hT, ddrop0, zv_eq, zv_len, qas, qbs, qad, qbd, eq_self, decide_true, Bool.and_self, Bool.and_true, beq_self_eq_true]) | (with_reducible refine runR_call h1 ?_) | (with_reducible refine runR_call h2 ?_) | (with_reducible refine runR_call h3 ?_) | (with_reducible refine runR_call h4 ?_) | (with_reducible refine runR_call h5 ?_) | (with_reducible refine runR_call h6 ?_) | (with_reducible refine runR_call qae ?_) | (with_reducible refine runR_call qbe ?_))
    | (refine auD ?_)
    | (with_reducible refine runR_b (fun h => ?_) (fun h => ?_) <;> first | exact auH | simp only [h, runR_t, runR_f])
    | (with_reducible refine condK_bl ?_ ?_)
    | (with_reducible refine condK_b (fun h => ?_) (fun h => ?_) <;> first | exact auH | skip)
    | (first | (refine runR_n ⟨by simp only [hA, hB, allOne, lenB, oneD, oneV, andB], by decide⟩ ?_) | (refine runR_n ⟨by decide, by decide, by simp only [qaA, qaB, allOne, lenB, oneD, oneV, andB]⟩ ?_) | (refine runR_n ⟨by decide, by decide, by simp only [qbA, qbB, allOne, lenB, oneD, oneV, andB]⟩ ?_) | fail))
  (all_goals first | exact auP | skip)
  all_goals first
    | (exfalso; simp at h; done)
    | skip
  all_goals refine auF ?_
  all_goals (try first | refine auR ?_ | exact auR0)
  all_goals (try simp only [hsM] at *)
  all_goals first
    | rfl
    | exact dbool (by simp)
theorem coreWheelSets (W : World) (args : Array Value) (h : opnAll W W.heap.size (shsWheelSets.map Sh.wide) args.toList) :
    Calls Try.prog 3 args W fun e W' => e = .returned (.bool true) ∧ Below W.heap.size W W' := by
  have h' : opnAll W W.heap.size [wheelSh, .int .i64, .int .i64] args.toList := h
  refine law_core rfl h' (fun x hx => ?_)
  obtain ⟨⟨now, y, u⟩, id, t, u2⟩ := x
  obtain ⟨⟨-, hy, -⟩, -, -, -⟩ := hx
  have e : valSs [wheelSh, .int .i64, .int .i64] ((now, y, u), id, t, u2) = [.agg (wcs now (toL 96 y)), .v (.int .i64 id), .v (.int .i64 t)] := by
    exact congrArg (fun q => [q, DV.v (.int .i64 id), DV.v (.int .i64 t)]) (wheel_val now y u)
  exact Eq.mpr (congrArg (fun l => Spec Try.prog 3 l (.v (.bool true))) e) (sets_law now id t (toL 96 y) (toL_len 96 y) (toL_wf 96 y hy))
/-! THE ROW: the frame round 'core', where the arguments are small -/
theorem ownWheelSets : ownKnob Try.prog.godebug = none := by kernel_rfl
theorem fitWheelSets : (List.range shsWheelSets.length).all (fun i => match shsWheelSets[i]?, Try.f3.params.toList[i]? with | some s, some t => s.fit Try.prog none t | _, _ => false) = true := by kernel_rfl
theorem laidWheelSets : laidOutB Try.prog = true := by kernel_rfl
theorem readWheelSets : Try.f3.params.toList.all (fun t => Try.prog.readableRec t && decide (t < Try.prog.types.size)) = true := by kernel_rfl
set_option maxRecDepth 100000 in
theorem liftedWheelSets (os : Os) (started : os.Started) (H : Type) (enc : TypeId × Value → H) (F : Stop.Interp) :
    ReturnsInHanded {} Try.checked os 3 .any ((Rows.OpenSpec.upto Rows.wheelSetsSpec).pre6 enc Try.prog Try.f3 Rows.wheelSetsUptoRow.domain false) (((Rows.OpenSpec.upto Rows.wheelSetsSpec).at F).post enc Try.prog Try.f3 false true false false) :=
  law_lifted_upto (C := Try.checked) (enc := enc) ownWheelSets started (by kernel_rfl) Try.func3
    (OpenSpec.witness (enc := enc) (C := Try.checked) (s := Rows.OpenSpec.upto Rows.wheelSetsSpec) (k := Rows.uptoSmall) rfl false ⟨#[], #[.agg #[.int .i64 0, .slice none 0 0, .slice none 0 0, .slice none 0 0, .slice none 0 0, .slice none 0 0, .slice none 0 0, .slice none 0 0, .slice none 0 0, .slice none 0 0, .slice none 0 0, .slice none 0 0, .slice none 0 0, .slice none 0 0, .slice none 0 0, .slice none 0 0, .slice none 0 0, .slice none 0 0, .slice none 0 0, .slice none 0 0, .slice none 0 0, .slice none 0 0, .slice none 0 0, .slice none 0 0, .slice none 0 0, .slice none 0 0, .slice none 0 0, .slice none 0 0, .slice none 0 0, .slice none 0 0, .slice none 0 0, .slice none 0 0, .slice none 0 0, .slice none 0 0, .slice none 0 0, .slice none 0 0, .slice none 0 0, .slice none 0 0, .slice none 0 0, .slice none 0 0, .slice none 0 0, .slice none 0 0, .slice none 0 0, .slice none 0 0, .slice none 0 0, .slice none 0 0, .slice none 0 0, .slice none 0 0, .slice none 0 0, .slice none 0 0, .slice none 0 0, .slice none 0 0, .slice none 0 0, .slice none 0 0, .slice none 0 0, .slice none 0 0, .slice none 0 0, .slice none 0 0, .slice none 0 0, .slice none 0 0, .slice none 0 0, .slice none 0 0, .slice none 0 0, .slice none 0 0, .slice none 0 0, .slice none 0 0, .slice none 0 0, .slice none 0 0, .slice none 0 0, .slice none 0 0, .slice none 0 0, .slice none 0 0, .slice none 0 0, .slice none 0 0, .slice none 0 0, .slice none 0 0, .slice none 0 0, .slice none 0 0, .slice none 0 0, .slice none 0 0, .slice none 0 0, .slice none 0 0, .slice none 0 0, .slice none 0 0, .slice none 0 0, .slice none 0 0, .slice none 0 0, .slice none 0 0, .slice none 0 0, .slice none 0 0, .slice none 0 0, .slice none 0 0, .slice none 0 0, .slice none 0 0, .slice none 0 0, .slice none 0 0, .slice none 0 0], .int .i64 0, .int .i64 0], []⟩ 8 (by kernel_rfl) (by kernel_rfl) (by kernel_rfl)
      (x := ([.agg [.lit (.int .i64 0), .agg [.nil, .nil, .nil, .nil, .nil, .nil, .nil, .nil, .nil, .nil, .nil, .nil, .nil, .nil, .nil, .nil, .nil, .nil, .nil, .nil, .nil, .nil, .nil, .nil, .nil, .nil, .nil, .nil, .nil, .nil, .nil, .nil, .nil, .nil, .nil, .nil, .nil, .nil, .nil, .nil, .nil, .nil, .nil, .nil, .nil, .nil, .nil, .nil, .nil, .nil, .nil, .nil, .nil, .nil, .nil, .nil, .nil, .nil, .nil, .nil, .nil, .nil, .nil, .nil, .nil, .nil, .nil, .nil, .nil, .nil, .nil, .nil, .nil, .nil, .nil, .nil, .nil, .nil, .nil, .nil, .nil, .nil, .nil, .nil, .nil, .nil, .nil, .nil, .nil, .nil, .nil, .nil, .nil, .nil, .nil, .nil]], .lit (.int .i64 0), .lit (.int .i64 0)], [], [])) (by kernel_rfl) rfl (by kernel_rfl))
    shsWheelSets (by kernel_rfl) fitWheelSets rfl (fun ds h => by
      match ds, h with
      | [d0, d1, d2], _ => exact ⟨rfl, rfl, rfl⟩) 4 (by kernel_rfl) Try.underlying4 laidWheelSets readWheelSets coreWheelSets
theorem overWheelSets : Rows.wheelSetsUptoRow.holds Try.pinned (Rows.OpenSpec.upto Rows.wheelSetsSpec) :=
  OpenClaim.holds_of_cond 3 Try.f3 rfl rfl rfl rfl rfl rfl rfl ⟨rfl, rfl, rfl, rfl, rfl⟩ rfl rfl rfl rfl rfl (by kernel_rfl) Try.func3 (by kernel_rfl)
    (of_decide_eq_true (by kernel_rfl)) (by unfold Func.isWrapper; rw [if_neg (of_decide_eq_false (by kernel_rfl))]; exact ⟨rfl, rfl⟩)
    (fun os started H enc _ F => liftedWheelSets os started H enc F)
/-- THE STATEMENT -/
theorem provedWheelSetsUpto : Rows.WheelSetsUptoSaid := overWheelSets
#print axioms provedWheelSetsUpto
end Go.Proofs.Ytecnjhmpipfldaa
