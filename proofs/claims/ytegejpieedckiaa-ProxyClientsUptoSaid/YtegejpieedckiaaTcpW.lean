/-
  Segments: options written.
-/
import Derived.Test.YtegejpieedckiaaTcpP
import Derived.Test.YtegejpieedckiaaRw8
namespace Go.Proofs.Ytegejpieedckiaa
set_option linter.unusedVariables false
set_option linter.unusedSimpArgs false
def optB (o : Op2) : Bool := decide ((1 ≤ o.k ∧ o.k ≤ 255) ∧ o.d.length ≤ 38 ∧ (o.k = 1 → o.d = []))
def optT (o : Op2) : List UInt8 := if o.k = 1 then [u8 1] else [u8 o.k, u8 ((o.d.length : Int) + 2)] ++ o.d
abbrev dOT (o : Op2) : DV := .tup [.v (.string (mkS (if optB o = true then optT o else []))), .v (.bool (optB o))]
theorem optT_len {o : Op2} (h : optB o = true) : (optT o).length ≤ 40 := by
  unfold optB at h
  have h := of_decide_eq_true h
  unfold optT
  split
  · decide
  · simp; omega
set_option maxHeartbeats 2000000 in
theorem optionText_spec (o : Op2) (hd : o.d.length ≤ 140737488351232) : Spec Try.prog 75 [.agg [.v (.int .i64 o.k), .v (.string (mkS o.d))]] (dOT o) := by
  have e1 : IntKind.i64.wrap ((o.d.length : Int) + 2) = (o.d.length : Int) + 2 := IntWalk.i64_in _ (by omega)
  by_cases h1 : o.k = 1
  · by_cases h2 : o.d = []
    · have hB : optB o = true := by unfold optB; rw [h1, h2]; decide
      have hT : optT o = [u8 1] := if_pos h1
      unfold dOT
      rw [hB, if_pos rfl, hT]
      refine hspec_fn Try.func75 rfl ok_custref_OptionText okr_custref_OptionText rfl (by kernel_rfl) ?_
      intro Γ hW0 hN0 hL0
      have hW := hW0 rfl
      clear hW0 hN0 hL0
      unfold x_custref_OptionText r_custref_OptionText
      refine auC ?_
      repeat' (first
        | (refine auS ?_)
        | (first | (simp only [mkS_size, mkS_app, emR, mkS_inj]) | (simp only [e1]) | (with_reducible refine runR_call (between_spec _ _ _) ?_) | (with_reducible refine runR_callS rfl (bytes1 1 _ _ _) ?_) | (with_reducible refine runR_callS rfl (bytes2 o.k ((o.d.length : Int) + 2) _ _ _) ?_))
        | (refine auD ?_)
        | (with_reducible refine runR_b (fun h => ?_) (fun h => ?_) <;> first | exact auH | simp only [h, runR_t, runR_f])
        | (with_reducible refine condK_bl ?_ ?_)
        | (with_reducible refine condK_b (fun h => ?_) (fun h => ?_) <;> first | exact auH | skip)
        | (refine runR_n (by simp only [mkS_size, List.length_append, List.length_cons, List.length_nil]; omega) ?_))
      (all_goals first | exact auP | skip)
      all_goals first
        | (exfalso; simp_all; done)
        | (exfalso; simp_all; omega)
        | skip
      all_goals refine auF ?_
      all_goals (try first | refine auR ?_ | exact auR0)
      all_goals (try simp only [hsM] at *)
      all_goals rfl
    · have hB : optB o = false := decide_eq_false (fun h => h2 (h.2.2 h1))
      unfold dOT
      rw [hB, if_neg (by simp)]
      refine hspec_fn Try.func75 rfl ok_custref_OptionText okr_custref_OptionText rfl (by kernel_rfl) ?_
      intro Γ hW0 hN0 hL0
      have hW := hW0 rfl
      clear hW0 hN0 hL0
      unfold x_custref_OptionText r_custref_OptionText
      refine auC ?_
      repeat' (first
        | (refine auS ?_)
        | (first | (simp only [mkS_size, mkS_app, emR, mkS_inj]) | (simp only [e1]) | (with_reducible refine runR_call (between_spec _ _ _) ?_) | (with_reducible refine runR_callS rfl (bytes1 1 _ _ _) ?_) | (with_reducible refine runR_callS rfl (bytes2 o.k ((o.d.length : Int) + 2) _ _ _) ?_))
        | (refine auD ?_)
        | (with_reducible refine runR_b (fun h => ?_) (fun h => ?_) <;> first | exact auH | simp only [h, runR_t, runR_f])
        | (with_reducible refine condK_bl ?_ ?_)
        | (with_reducible refine condK_b (fun h => ?_) (fun h => ?_) <;> first | exact auH | skip)
        | (refine runR_n (by simp only [mkS_size, List.length_append, List.length_cons, List.length_nil]; omega) ?_))
      (all_goals first | exact auP | skip)
      all_goals first
        | (exfalso; simp_all; done)
        | (exfalso; simp_all; omega)
        | skip
      all_goals refine auF ?_
      all_goals (try first | refine auR ?_ | exact auR0)
      all_goals (try simp only [hsM] at *)
      all_goals rfl
  · by_cases h2 : (2 ≤ o.k ∧ o.k ≤ 255) ∧ o.d.length ≤ 38
    · have hB : optB o = true := decide_eq_true ⟨by omega, h2.2, fun h => absurd h h1⟩
      have hT : optT o = [u8 o.k, u8 ((o.d.length : Int) + 2)] ++ o.d := if_neg h1
      obtain ⟨h3, h4⟩ := h2
      unfold dOT
      rw [hB, if_pos rfl, hT]
      refine hspec_fn Try.func75 rfl ok_custref_OptionText okr_custref_OptionText rfl (by kernel_rfl) ?_
      intro Γ hW0 hN0 hL0
      have hW := hW0 rfl
      clear hW0 hN0 hL0
      unfold x_custref_OptionText r_custref_OptionText
      refine auC ?_
      repeat' (first
        | (refine auS ?_)
        | (first | (simp only [mkS_size, mkS_app, emR, mkS_inj]) | (simp only [e1]) | (with_reducible refine runR_call (between_spec _ _ _) ?_) | (with_reducible refine runR_callS rfl (bytes1 1 _ _ _) ?_) | (with_reducible refine runR_callS rfl (bytes2 o.k ((o.d.length : Int) + 2) _ _ _) ?_))
        | (refine auD ?_)
        | (with_reducible refine runR_b (fun h => ?_) (fun h => ?_) <;> first | exact auH | simp only [h, runR_t, runR_f])
        | (with_reducible refine condK_bl ?_ ?_)
        | (with_reducible refine condK_b (fun h => ?_) (fun h => ?_) <;> first | exact auH | skip)
        | (refine runR_n (by simp only [mkS_size, List.length_append, List.length_cons, List.length_nil]; omega) ?_))
      (all_goals first | exact auP | skip)
      all_goals first
        | (exfalso; simp_all; done)
        | (exfalso; simp_all; omega)
        | skip
      all_goals refine auF ?_
      all_goals (try first | refine auR ?_ | exact auR0)
      all_goals (try simp only [hsM] at *)
      all_goals rfl
    · have hB : optB o = false := decide_eq_false (fun h => h2 ⟨by omega, h.2.1⟩)
      unfold dOT
      rw [hB, if_neg (by simp)]
      by_cases h3 : 2 ≤ o.k ∧ o.k ≤ 255
      · have h4 : ¬ o.d.length ≤ 38 := fun h => h2 ⟨h3, h⟩
        refine hspec_fn Try.func75 rfl ok_custref_OptionText okr_custref_OptionText rfl (by kernel_rfl) ?_
        intro Γ hW0 hN0 hL0
        have hW := hW0 rfl
        clear hW0 hN0 hL0
        unfold x_custref_OptionText r_custref_OptionText
        refine auC ?_
        repeat' (first
          | (refine auS ?_)
          | (first | (simp only [mkS_size, mkS_app, emR, mkS_inj]) | (simp only [e1]) | (with_reducible refine runR_call (between_spec _ _ _) ?_) | (with_reducible refine runR_callS rfl (bytes1 1 _ _ _) ?_) | (with_reducible refine runR_callS rfl (bytes2 o.k ((o.d.length : Int) + 2) _ _ _) ?_))
          | (refine auD ?_)
          | (with_reducible refine runR_b (fun h => ?_) (fun h => ?_) <;> first | exact auH | simp only [h, runR_t, runR_f])
          | (with_reducible refine condK_bl ?_ ?_)
          | (with_reducible refine condK_b (fun h => ?_) (fun h => ?_) <;> first | exact auH | skip)
          | (refine runR_n (by simp only [mkS_size, List.length_append, List.length_cons, List.length_nil]; omega) ?_))
        (all_goals first | exact auP | skip)
        all_goals first
          | (exfalso; simp_all; done)
          | (exfalso; simp_all; omega)
          | skip
        all_goals refine auF ?_
        all_goals (try first | refine auR ?_ | exact auR0)
        all_goals (try simp only [hsM] at *)
        all_goals rfl
      · skip
        refine hspec_fn Try.func75 rfl ok_custref_OptionText okr_custref_OptionText rfl (by kernel_rfl) ?_
        intro Γ hW0 hN0 hL0
        have hW := hW0 rfl
        clear hW0 hN0 hL0
        unfold x_custref_OptionText r_custref_OptionText
        refine auC ?_
        repeat' (first
          | (refine auS ?_)
          | (first | (simp only [mkS_size, mkS_app, emR, mkS_inj]) | (simp only [e1]) | (with_reducible refine runR_call (between_spec _ _ _) ?_) | (with_reducible refine runR_callS rfl (bytes1 1 _ _ _) ?_) | (with_reducible refine runR_callS rfl (bytes2 o.k ((o.d.length : Int) + 2) _ _ _) ?_))
          | (refine auD ?_)
          | (with_reducible refine runR_b (fun h => ?_) (fun h => ?_) <;> first | exact auH | simp only [h, runR_t, runR_f])
          | (with_reducible refine condK_bl ?_ ?_)
          | (with_reducible refine condK_b (fun h => ?_) (fun h => ?_) <;> first | exact auH | skip)
          | (refine runR_n (by simp only [mkS_size, List.length_append, List.length_cons, List.length_nil]; omega) ?_))
        (all_goals first | exact auP | skip)
        all_goals first
          | (exfalso; simp_all; done)
          | (exfalso; simp_all; omega)
          | skip
        all_goals refine auF ?_
        all_goals (try first | refine auR ?_ | exact auR0)
        all_goals (try simp only [hsM] at *)
        all_goals rfl
/-! THE PROGRAM'S -/
def optsT : List Op2 → List UInt8
  | [] => []
  | o :: r => optT o ++ optsT r
theorem optsT_snoc (o : Op2) : ∀ l : List Op2, optsT (l ++ [o]) = optsT l ++ optT o
  | [] => by simp [optsT]
  | x :: r => by simp [optsT, optsT_snoc o r]
theorem optsT_len : ∀ l : List Op2, l.all optB = true → (optsT l).length ≤ 40 * l.length
  | [], _ => by simp [optsT]
  | x :: r, h => by
    rw [List.all_cons, Bool.and_eq_true] at h
    have h1 := optT_len h.1
    have h2 := optsT_len r h.2
    simp [optsT]; omega
end Go.Proofs.Ytegejpieedckiaa
