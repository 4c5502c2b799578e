/-
  What many turns do, in plain.
-/
import Derived.Test.YtecnjhmpipfldaaTickQ
import Derived.Test.YtecnjhmpipfldaaTickZ
namespace Go.Proofs.Ytecnjhmpipfldaa
set_option linter.unusedVariables false
set_option linter.unusedSimpArgs false
theorem later_later {F : List Du} {a b : Int} (h : a ≤ b) : (F.filter (laterP a)).filter (laterP b) = F.filter (laterP b) := by
  rw [List.filter_filter]
  apply List.filter_congr
  intro d _
  unfold laterP
  by_cases q : b < d.t
  · rw [decide_eq_true q, decide_eq_true (by omega)]
    rfl
  · rw [decide_eq_false q]
    rfl
theorem out_sort (F : List Du) (a : Int) : ssort (F.filter (dueP a)) ++ (F.filter (laterP a)).filter (atP (a + 1)) = ssort (F.filter (dueP (a + 1))) := by
  refine ssort_uniq ?_ (fun k => ?_)
  · unfold SortedD
    rw [List.pairwise_append]
    refine ⟨ssort_r _, ?_, fun x hx y hy => ?_⟩
    · rw [List.pairwise_iff_forall_sublist]
      intro x y hxy
      have h1 := (List.mem_filter.1 (hxy.subset (by simp : x ∈ [x, y]))).2
      have h2 := (List.mem_filter.1 (hxy.subset (by simp : y ∈ [x, y]))).2
      have h1 := of_decide_eq_true h1
      have h2 := of_decide_eq_true h2
      omega
    · have h1 := of_decide_eq_true (List.mem_filter.1 (ssort_mem hx)).2
      have h2 := of_decide_eq_true (List.mem_filter.1 hy).2
      omega
  · have hs := (ssort_ok (F.filter (dueP a))).2 k
    unfold atT at hs ⊢
    rw [List.filter_append, hs, List.filter_filter, List.filter_filter, List.filter_filter, List.filter_filter]
    unfold dueP laterP atP
    by_cases h1 : k ≤ a
    · have e : F.filter (fun d => decide (d.t = k) && decide (d.t = a + 1) && decide (a < d.t)) = [] := List.filter_eq_nil_iff.2 fun d _ => by simp; omega
      rw [e, List.append_nil]
      apply List.filter_congr
      intro d _
      by_cases q : d.t = k
      · rw [decide_eq_true q, decide_eq_true (by omega), decide_eq_true (by omega)]
      · rw [decide_eq_false q]
        rfl
    · have e : F.filter (fun d => decide (d.t = k) && decide (d.t ≤ a)) = [] := List.filter_eq_nil_iff.2 fun d _ => by simp; omega
      rw [e, List.nil_append]
      apply List.filter_congr
      intro d _
      by_cases q : d.t = k
      · rw [decide_eq_true q]
        by_cases q2 : k = a + 1
        · rw [decide_eq_true (by omega), decide_eq_true (by omega), decide_eq_true (by omega)]
          rfl
        · rw [decide_eq_false (by omega : ¬ d.t = a + 1), decide_eq_false (by omega : ¬ d.t ≤ a + 1)]
          rfl
      · rw [decide_eq_false q]
        rfl
theorem tick_law (n : Nat) (F : List Du) (hF : ∀ d ∈ F, (n : Int) < d.t ∧ d.t ≤ 16777215) : ∀ i, n + i < 16777216 → tickS n (wof (n : Nat) F) i = (wof ((n + i : Nat) : Int) (F.filter (laterP ((n + i : Nat) : Int))), ssort (F.filter (dueP ((n + i : Nat) : Int))))
  | 0, _ => by
    have e1 : F.filter (laterP ((n + 0 : Nat) : Int)) = F := List.filter_eq_self.2 fun d hd => decide_eq_true (by have := hF d hd; omega)
    have e2 : F.filter (dueP ((n + 0 : Nat) : Int)) = [] := List.filter_eq_nil_iff.2 fun d hd h => by
      have := hF d hd
      have := of_decide_eq_true h
      omega
    rw [e1, e2]
    rfl
  | i + 1, h => by
    have ih := tick_law n F hF i (by omega)
    have hG : ∀ d ∈ F.filter (laterP ((n + i : Nat) : Int)), ((n + i : Nat) : Int) < d.t ∧ d.t ≤ 16777215 := fun d hd => by
      have h5 := List.mem_filter.1 hd
      exact ⟨of_decide_eq_true h5.2, (hF d h5.1).2⟩
    have ht := turn_law (n + i) (F.filter (laterP ((n + i : Nat) : Int))) h hG
    show ((levs (n + i + 1) 6 ((tickS n _ i).1, [])).1, (tickS n _ i).2 ++ (levs (n + i + 1) 6 ((tickS n _ i).1, [])).2) = _
    rw [ih]
    dsimp only
    rw [ht]
    dsimp only
    rw [later_later (by omega)]
    refine Prod.ext rfl ?_
    exact out_sort F ((n + i : Nat) : Int)
open Classical in
/-- What Tick answers. -/
noncomputable def tickR (now : Int) (L : WL) (m : Int) : Int × WL × List Du × Int :=
  if wchk now L ≠ 0 then (0, noW, [], wchk now L) else if ¬ (0 ≤ m ∧ m ≤ 10000 ∧ now + m ≤ 16777215) then (0, noW, [], 1) else (now + m, wof (now + m) (L.flatten.filter fun d => !dueP (now + m) d), ssort (L.flatten.filter (dueP (now + m))), 0)
abbrev dTR (r : Int × WL × List Du × Int) : DV := dT r.1 r.2.1 r.2.2.1 r.2.2.2
theorem later_not (F : List Du) (a : Int) : F.filter (laterP a) = F.filter fun d => !dueP a d := by
  apply List.filter_congr
  intro d _
  unfold laterP dueP
  by_cases q : a < d.t
  · rw [decide_eq_true q, decide_eq_false (by omega)]
    rfl
  · rw [decide_eq_false q, decide_eq_true (by omega)]
    rfl
theorem tick_spec (now m : Int) (L : WL) (h96 : L.length = 96) (hz : ∀ l ∈ L, l.length ≤ 1407374) : Spec Try.prog 12 [.agg (wcs now L), .v (.int .i64 m)] (dTR (tickR now L m)) := by
  unfold tickR
  by_cases h0 : wchk now L ≠ 0
  · rw [if_pos h0]
    exact tick_bad1 now m L h96 hz h0
  · rw [if_neg h0]
    have h0 := Decidable.not_not.1 h0
    obtain ⟨c1, c2, c3, c4, c5⟩ := chk_zero h0
    obtain ⟨n, rfl⟩ : ∃ n : Nat, now = n := ⟨now.toNat, by omega⟩
    by_cases hm : ¬ (0 ≤ m ∧ m ≤ 10000 ∧ (n : Int) + m ≤ 16777215)
    · rw [if_pos hm]
      exact tick_bad2 n m L h96 hz h0 hm
    · rw [if_neg hm]
      have hm := Decidable.not_not.1 hm
      obtain ⟨k, rfl⟩ : ∃ k : Nat, m = k := ⟨m.toNat, by omega⟩
      have hL := (wof_eq n L h96).2 c5
      have hlaw := fun i hi => tick_law n L.flatten c4.1 i hi
      rw [hL] at hlaw
      have hg := tick_good n k L h96 hz h0 (by omega) (by omega) (fun i hi => by
          rw [hlaw i (by omega)]
          refine ⟨wof_len _ _, fun l hl => ?_, Nat.zero_le _⟩
          obtain ⟨j, -, rfl⟩ := List.mem_map.1 hl
          refine ⟨?_, fun d hd => ?_⟩
          · have b1 := fil_le ((n + i : Nat) : Int) (j : Nat) (L.flatten.filter (laterP ((n + i : Nat) : Int)))
            have b2 := List.length_filter_le (laterP ((n + i : Nat) : Int)) L.flatten
            omega
          · have h5 := List.mem_filter.1 (List.mem_filter.1 hd).1
            have h6 := of_decide_eq_true h5.2
            have := c4.1 d h5.1
            omega) (fun i hi => by rw [hlaw i (by omega)]; exact wof_len _ _) (fun i hi => by
          rw [hlaw i (by omega)]
          dsimp only
          rw [ssort_len]
          have b2 := List.length_filter_le (dueP ((n + i : Nat) : Int)) L.flatten
          omega)
      rw [hlaw k (by omega), later_not] at hg
      exact hg
theorem rtick_spec (now m : Int) (L : WL) (h96 : L.length = 96) (hz : ∀ l ∈ L, l.length ≤ 1407374) : Spec Try.prog 13 [.agg (wcs now L), .v (.int .i64 m)] (dTR (tickR now L m)) := by
  unfold tickR
  by_cases h0 : wchk now L ≠ 0
  · rw [if_pos h0]
    exact rtick_bad1 now m L h96 hz h0
  · rw [if_neg h0]
    have h0 := Decidable.not_not.1 h0
    obtain ⟨c1, c2, c3, c4, c5⟩ := chk_zero h0
    obtain ⟨n, rfl⟩ : ∃ n : Nat, now = n := ⟨now.toNat, by omega⟩
    by_cases hm : ¬ (0 ≤ m ∧ m ≤ 10000 ∧ (n : Int) + m ≤ 16777215)
    · rw [if_pos hm]
      exact rtick_bad2 n m L h96 hz h0 hm
    · rw [if_neg hm]
      have hm := Decidable.not_not.1 hm
      obtain ⟨k, rfl⟩ : ∃ k : Nat, m = k := ⟨m.toNat, by omega⟩
      exact rtick_good n k L h96 hz h0 (by omega) (by omega)
end Go.Proofs.Ytecnjhmpipfldaa
