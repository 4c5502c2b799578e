/-
  Tries in plain words: all beginnings of rows in order, each once; where one stands.
-/
import Derived.Test.YtlfbjdafnappdaaTriT
import Derived.Lib.SlicesCompact
import Derived.Sort.Walk0
namespace Go.Proofs.Ytlfbjdafnappdaa
set_option linter.unusedVariables false
set_option linter.unusedSimpArgs false
theorem lt_of_ne {a b : B8} (h : a ≤ b) (hn : a ≠ b) : a < b := by
  rcases List.le_iff_lt_or_eq.1 h with q | q
  · exact q
  · exact absurd q hn
theorem getB (zs : List B8) (j : Nat) (h : j < zs.length) : zs.toArray[j]! = zs[j] := by
  rw [getElem!_pos zs.toArray j (by simpa using h)]
  rfl
theorem compact_sorted (zs : List B8) (h : zs.Pairwise (· ≤ ·)) : (Lib.compact zs).Pairwise (· < ·) := by
  unfold Lib.compact Lib.compactUpTo
  rw [List.pairwise_map]
  have hle : ∀ i j (hi : i < zs.length) (hj : j < zs.length), i ≤ j → zs[i] ≤ zs[j] := fun i j hi hj hij => by
    rcases Nat.lt_or_eq_of_le hij with q | q
    · exact List.pairwise_iff_getElem.1 h i j hi hj q
    · subst q; exact List.le_refl _
  refine List.Pairwise.imp_of_mem (fun {i j} hi hj hij => ?_) (List.pairwise_lt_range.filter _)
  obtain ⟨hi1, -⟩ := List.mem_filter.1 hi
  obtain ⟨hj1, hj2⟩ := List.mem_filter.1 hj
  have hi1 : i < zs.length := List.mem_range.1 hi1
  have hj1 : j < zs.length := List.mem_range.1 hj1
  unfold Lib.keeps at hj2
  have hj2 := of_decide_eq_true hj2
  rcases hj2 with q | q
  · omega
  · rw [getB zs j hj1, getB zs (j - 1) (by omega)] at q
    rw [getB zs i hi1, getB zs j hj1]
    exact List.lt_of_le_of_lt (hle i (j - 1) hi1 (by omega) (by omega)) (lt_of_ne (hle (j - 1) j (by omega) hj1 (by omega)) (Ne.symm q))
theorem mem_compact (zs : List B8) (p : B8) : p ∈ Lib.compact zs ↔ p ∈ zs := by
  have hm : p ∈ Lib.compact zs ↔ ∃ j, j < zs.length ∧ Lib.keeps zs.toArray j = true ∧ zs.toArray[j]! = p := by
    unfold Lib.compact Lib.compactUpTo
    simp only [List.mem_map, List.mem_filter, List.mem_range, and_assoc]
  rw [hm]
  constructor
  · rintro ⟨j, h1, -, h3⟩
    rw [getB zs j h1] at h3
    rw [← h3]
    exact List.getElem_mem h1
  · intro hp
    obtain ⟨j, hj, rfl⟩ := List.getElem_of_mem hp
    have : ∀ k (hk : k < zs.length), zs[k] = zs[j] → ∃ j', j' < zs.length ∧ Lib.keeps zs.toArray j' = true ∧ zs.toArray[j']! = zs[j] := by
      intro k
      induction k with
      | zero => exact fun hk e => ⟨0, hk, by simp [Lib.keeps], by rw [getB zs 0 hk, e]⟩
      | succ k ih =>
        intro hk e
        by_cases hq : Lib.keeps zs.toArray (k + 1) = true
        · exact ⟨k + 1, hk, hq, by rw [getB zs _ hk, e]⟩
        · have hq2 : zs.toArray[k + 1]! = zs.toArray[k]! := by
            unfold Lib.keeps at hq
            simpa using hq
          rw [getB zs _ hk, getB zs k (by omega)] at hq2
          exact ih (by omega) (hq2.symm.trans e)
    exact this j hj rfl
/-- All beginnings of rows in order, each once. -/
def sortB (zs : List B8) : List B8 := zs.mergeSort fun x y => decide (x ≤ y)
def begB (rows : List Rw) : List B8 := Lib.compact (sortB (prefs rows))
theorem sortB_len (zs : List B8) : (sortB zs).length = zs.length := List.length_mergeSort _
theorem sortB_le (zs : List B8) : (sortB zs).Pairwise (· ≤ ·) := by
  have h := List.pairwise_mergeSort (le := fun x y : B8 => decide (x ≤ y)) (fun a b c h1 h2 => decide_eq_true (List.le_trans (of_decide_eq_true h1) (of_decide_eq_true h2))) (fun a b => by
    rcases List.le_total a b with q | q
    · simp [q]
    · simp [q]) zs
  exact h.imp (fun h => of_decide_eq_true h)
theorem begB_sorted (rows : List Rw) : (begB rows).Pairwise (· < ·) := compact_sorted _ (sortB_le _)
theorem begB_mem (rows : List Rw) (p : B8) : p ∈ begB rows ↔ p ∈ prefs rows := by
  unfold begB
  rw [mem_compact]
  exact List.mem_mergeSort
/-- Where a text stands in a sorted list. -/
theorem split_at : ∀ (A : List B8), A.Pairwise (· < ·) → ∀ p : B8, ∃ k, k ≤ A.length ∧ (∀ t x, t < k → A[t]? = some x → x < p) ∧ (∀ t x, k ≤ t → A[t]? = some x → ¬ x < p) ∧ (p ∈ A ↔ A[k]? = some p)
  | [], _, p => ⟨0, Nat.le_refl _, fun t x h => absurd h (Nat.not_lt_zero _), fun t x _ h => by simp at h, by simp⟩
  | a :: A, h, p => by
    obtain ⟨h1, h2⟩ := List.pairwise_cons.1 h
    by_cases ha : a < p
    · obtain ⟨k, k1, k2, k3, k4⟩ := split_at A h2 p
      refine ⟨k + 1, Nat.succ_le_succ k1, fun t x ht hx => ?_, fun t x ht hx => ?_, ?_⟩
      · cases t with
        | zero => rw [← Option.some.inj (show some a = some x by simpa using hx)]; exact ha
        | succ t => exact k2 t x (by omega) (by simpa using hx)
      · cases t with
        | zero => omega
        | succ t => exact k3 t x (by omega) (by simpa using hx)
      · rw [List.mem_cons, List.getElem?_cons_succ, ← k4]
        exact ⟨fun q => q.elim (fun e => by subst e; exact absurd ha (lt_irr _)) id, .inr⟩
    · refine ⟨0, Nat.zero_le _, fun t x ht => absurd ht (Nat.not_lt_zero _), fun t x _ hx hp => ?_, ?_⟩
      · cases t with
        | zero => rw [← Option.some.inj (show some a = some x by simpa using hx)] at hp; exact ha hp
        | succ t => exact ha (List.lt_trans (h1 x (List.mem_of_getElem? (show A[t]? = some x by simpa using hx))) hp)
      · rw [List.mem_cons]
        constructor
        · rintro (rfl | hm)
          · rfl
          · exact absurd (h1 p hm) ha
        · intro e
          exact .inl (Option.some.inj (show some a = some p by simpa using e)).symm
end Go.Proofs.Ytlfbjdafnappdaa
