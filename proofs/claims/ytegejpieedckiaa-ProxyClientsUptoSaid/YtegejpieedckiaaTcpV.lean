/-
  Segments: the program's options written, walked.
-/
import Derived.Test.YtegejpieedckiaaTcpW
namespace Go.Proofs.Ytegejpieedckiaa
set_option linter.unusedVariables false
set_option linter.unusedSimpArgs false
def optsR (l : List Op2) : List UInt8 × Bool := if l.all optB = true then (optsT l, true) else ([], false)
abbrev dOs (r : List UInt8 × Bool) : DV := .tup [.v (.string (mkS r.1)), .v (.bool r.2)]
theorem optsR_no {l : List Op2} {k : Nat} {o : Op2} (ho : l[k]? = some o) (hb : optB o = false) : optsR l = ([], false) := by
  unfold optsR
  rw [if_neg (fun h => ?_)]
  have := List.all_eq_true.1 h o (List.mem_of_getElem? ho)
  rw [hb] at this; cases this
set_option maxHeartbeats 4000000 in
theorem options_spec (l : List Op2) (hl : 40 * l.length ≤ 140737488355000) (hd : ∀ o ∈ l, o.d.length ≤ 140737488351232) : Spec Try.prog 67 [.snap 2 (l.map Op2.enc) false] (dOs (optsR l)) := by
  refine hspec_fn Try.func67 rfl ok_tcp_options okr_tcp_options rfl (by kernel_rfl) ?_
  intro Γ hW0 hN0 hL0
  have hW := hW0 rfl
  clear hW0 hN0 hL0
  unfold x_tcp_options r_tcp_options
  refine auC ?_
  repeat' (first
    | (refine auS ?_)
    | (simp only [List.length_map])
    | (refine auD ?_)
    | (with_reducible refine runR_b (fun h => ?_) (fun h => ?_) <;> first | exact auH | simp only [h, runR_t, runR_f])
    | (with_reducible refine condK_bl ?_ ?_)
    | (with_reducible refine condK_b (fun h => ?_) (fun h => ?_) <;> first | exact auH | skip)
    | fail)
  apply go_le
  · exact le_row ⟨.d0, .d0, .d4⟩ 2 1 rfl rfl
  refine auL ?_
  refine go_loopH (α := Nat × Nat × Nat) (fun x => [(⟨.d0, .d0, .d4⟩, .sl 2 x.2.1 1 0 (optsT (l.take x.1)).length false), (⟨.d0, .d1, .d1⟩, .v (.int .i64 (x.1 : Nat)))]) (fun x => [(0, none), (1, none), (2, some ⟨x.2.1, 1, rw8 (optsT (l.take x.1))⟩), (3, none)]) (fun x => x.2.2) (fun x => l.length - x.1) (fun x => x.1 ≤ l.length ∧ (l.take x.1).all optB = true) (0, Γ.g0, Γ.g0 + 1) ⟨Nat.zero_le _, rfl⟩ ?_ ?_
  · skip
    refine le_mk ?_ ?_ (Nat.le_refl _)
    all_goals first | refine auE ?_ | exact auE0
    all_goals (repeat' (first | exact trivial | exact rfl | apply And.intro))
  rintro ⟨k, nm, gn⟩ ⟨hk, hall⟩
  dsimp only at hk hall ⊢
  refine auL ?_
  have hol := optsT_len _ hall
  have htk : (l.take k).length = k := by simp; omega
  rw [htk] at hol
  by_cases hlt : k < l.length
  · obtain ⟨o, ho⟩ : ∃ o, l[k]? = some o := ⟨_, List.getElem?_eq_getElem hlt⟩
    have ex := xget_op ho
    have hdo := hd o (List.mem_of_getElem? ho)
    have htn := take_snoc ho
    have e1 : IntKind.i64.wrap ((o.d.length : Int) + 2) = (o.d.length : Int) + 2 := IntWalk.i64_in _ (by omega)
    cases hB : optB o with
    | false =>
      rw [optsR_no ho hB]
      have hnb : ¬ ((1 ≤ o.k ∧ o.k ≤ 255) ∧ o.d.length ≤ 38 ∧ (o.k = 1 → o.d = [])) := of_decide_eq_false hB
      generalize optsT (l.take k) = out at *
      by_cases q1 : 1 ≤ o.k ∧ o.k ≤ 255
      · by_cases q2 : o.d.length ≤ 38
        · have q3 : o.k = 1 := by
            refine Decidable.byContradiction fun q => hnb ⟨q1, q2, fun e => absurd e q⟩
          have q4 : ¬ o.d = [] := fun e => hnb ⟨q1, q2, fun _ => e⟩
          have hc1 : o.k = 1 := q3
          repeat' (first
            | (refine auS ?_)
            | (first | (simp only [Int.toNat_natCast, ex, List.length_map, mkS_size, emR, mkS_inj, u8_w, e1, strRows_mk]) | (simp only [hc1]) | (simp only [rw8_len]))
            | (refine auD ?_)
            | (with_reducible refine runR_b (fun h => ?_) (fun h => ?_) <;> first | exact auH | simp only [h, runR_t, runR_f])
            | (with_reducible refine condK_bl ?_ ?_)
            | (with_reducible refine condK_b (fun h => ?_) (fun h => ?_) <;> first | exact auH | skip)
            | (first | (refine runR_n ⟨by trivial, by trivial, by trivial, by trivial, by rw [rw8_len]⟩ ?_) | (refine runR_n ⟨by trivial, by trivial, by trivial, by trivial, by simp [rw8_len]⟩ ?_) | (refine runR_n ⟨by trivial, by unfold room maxLen; simp [rw8_len]; omega⟩ ?_) | (refine runR_n ⟨allOnes_rw8 _, by unfold room maxLen; simp [rw8_len]; omega⟩ ?_) | fail))
          (all_goals first | exact auP | skip)
          all_goals first
            | (exfalso; simp_all; done)
            | skip
          all_goals refine auF ?_
          all_goals (try first | refine auR ?_ | exact auR0)
          all_goals (try simp only [hsM] at *)
        · have hc1 := q1
          repeat' (first
            | (refine auS ?_)
            | (first | (simp only [Int.toNat_natCast, ex, List.length_map, mkS_size, emR, mkS_inj, u8_w, e1, strRows_mk]) | (simp only [hc1]) | (simp only [rw8_len]))
            | (refine auD ?_)
            | (with_reducible refine runR_b (fun h => ?_) (fun h => ?_) <;> first | exact auH | simp only [h, runR_t, runR_f])
            | (with_reducible refine condK_bl ?_ ?_)
            | (with_reducible refine condK_b (fun h => ?_) (fun h => ?_) <;> first | exact auH | skip)
            | (first | (refine runR_n ⟨by trivial, by trivial, by trivial, by trivial, by rw [rw8_len]⟩ ?_) | (refine runR_n ⟨by trivial, by trivial, by trivial, by trivial, by simp [rw8_len]⟩ ?_) | (refine runR_n ⟨by trivial, by unfold room maxLen; simp [rw8_len]; omega⟩ ?_) | (refine runR_n ⟨allOnes_rw8 _, by unfold room maxLen; simp [rw8_len]; omega⟩ ?_) | fail))
          (all_goals first | exact auP | skip)
          all_goals first
            | (exfalso; simp_all; done)
            | skip
          all_goals refine auF ?_
          all_goals (try first | refine auR ?_ | exact auR0)
          all_goals (try simp only [hsM] at *)
      · have hc1 := q1
        repeat' (first
          | (refine auS ?_)
          | (first | (simp only [Int.toNat_natCast, ex, List.length_map, mkS_size, emR, mkS_inj, u8_w, e1, strRows_mk]) | (simp only [hc1]) | (simp only [rw8_len]))
          | (refine auD ?_)
          | (with_reducible refine runR_b (fun h => ?_) (fun h => ?_) <;> first | exact auH | simp only [h, runR_t, runR_f])
          | (with_reducible refine condK_bl ?_ ?_)
          | (with_reducible refine condK_b (fun h => ?_) (fun h => ?_) <;> first | exact auH | skip)
          | (first | (refine runR_n ⟨by trivial, by trivial, by trivial, by trivial, by rw [rw8_len]⟩ ?_) | (refine runR_n ⟨by trivial, by trivial, by trivial, by trivial, by simp [rw8_len]⟩ ?_) | (refine runR_n ⟨by trivial, by unfold room maxLen; simp [rw8_len]; omega⟩ ?_) | (refine runR_n ⟨allOnes_rw8 _, by unfold room maxLen; simp [rw8_len]; omega⟩ ?_) | fail))
        (all_goals first | exact auP | skip)
        all_goals first
          | (exfalso; simp_all; done)
          | skip
        all_goals refine auF ?_
        all_goals (try first | refine auR ?_ | exact auR0)
        all_goals (try simp only [hsM] at *)
    | true =>
      have hb3 : (1 ≤ o.k ∧ o.k ≤ 255) ∧ o.d.length ≤ 38 ∧ (o.k = 1 → o.d = []) := of_decide_eq_true hB
      obtain ⟨q1, q2, q3⟩ := hb3
      have hall2 : (l.take (k + 1)).all optB = true := by rw [htn, List.all_append, hall]; simp [hB]
      have hsn : optsT (l.take (k + 1)) = optsT (l.take k) ++ optT o := by rw [htn, optsT_snoc]
      have hot := optT_len hB
      by_cases h1 : o.k = 1
      · have q4 := q3 h1
        have hT : optT o = [u8 1] := if_pos h1
        have hc1 := h1
        generalize optsT (l.take k) = out at *
        repeat' (first
          | (refine auS ?_)
          | (first | (simp only [Int.toNat_natCast, ex, List.length_map, mkS_size, emR, mkS_inj, u8_w, e1, strRows_mk]) | (simp only [hc1]) | (simp only [rw8_len]))
          | (refine auD ?_)
          | (with_reducible refine runR_b (fun h => ?_) (fun h => ?_) <;> first | exact auH | simp only [h, runR_t, runR_f])
          | (with_reducible refine condK_bl ?_ ?_)
          | (with_reducible refine condK_b (fun h => ?_) (fun h => ?_) <;> first | exact auH | skip)
          | (first | (refine runR_n ⟨by trivial, by trivial, by trivial, by trivial, by rw [rw8_len]⟩ ?_) | (refine runR_n ⟨by trivial, by trivial, by trivial, by trivial, by simp [rw8_len]⟩ ?_) | (refine runR_n ⟨by trivial, by unfold room maxLen; simp [rw8_len]; omega⟩ ?_) | (refine runR_n ⟨allOnes_rw8 _, by unfold room maxLen; simp [rw8_len]; omega⟩ ?_) | fail))
        (all_goals first | exact auP | skip)
        all_goals first
          | (exfalso; simp_all; done)
          | skip
        refine nx_loop ⟨(k + 1, gn + 1 + 1, gn + 3), ⟨hlt, hall2⟩, Nat.sub_lt_sub_left hlt (Nat.lt_succ_self k), ?_⟩
        dsimp only
        rw [hsn, hT]
        refine le_mk ?_ ?_ (Nat.le_refl _)
        all_goals first | refine auE ?_ | exact auE0
        all_goals (repeat' (first | exact trivial | exact rfl | apply And.intro))
        all_goals first
          | exact dint ((IntWalk.i64_in _ (by omega)).trans (by omega))
          | (simp; done)
          | (refine congrArg some (congrArg (AObj.mk _ 1) ?_); simp [rw8]; done)
      · have hT : optT o = [u8 o.k, u8 ((o.d.length : Int) + 2)] ++ o.d := if_neg h1
        have hc1 := h1
        generalize optsT (l.take k) = out at *
        repeat' (first
          | (refine auS ?_)
          | (first | (simp only [Int.toNat_natCast, ex, List.length_map, mkS_size, emR, mkS_inj, u8_w, e1, strRows_mk]) | (simp only [hc1]) | (simp only [rw8_len]))
          | (refine auD ?_)
          | (with_reducible refine runR_b (fun h => ?_) (fun h => ?_) <;> first | exact auH | simp only [h, runR_t, runR_f])
          | (with_reducible refine condK_bl ?_ ?_)
          | (with_reducible refine condK_b (fun h => ?_) (fun h => ?_) <;> first | exact auH | skip)
          | (first | (refine runR_n ⟨by trivial, by trivial, by trivial, by trivial, by rw [rw8_len]⟩ ?_) | (refine runR_n ⟨by trivial, by trivial, by trivial, by trivial, by simp [rw8_len]⟩ ?_) | (refine runR_n ⟨by trivial, by unfold room maxLen; simp [rw8_len]; omega⟩ ?_) | (refine runR_n ⟨allOnes_rw8 _, by unfold room maxLen; simp [rw8_len]; omega⟩ ?_) | fail))
        (all_goals first | exact auP | skip)
        all_goals first
          | (exfalso; simp_all; done)
          | skip
        refine nx_loop ⟨(k + 1, gn + 3 + 1 + 1, gn + 3 + 1 + 1 + 1), ⟨hlt, hall2⟩, Nat.sub_lt_sub_left hlt (Nat.lt_succ_self k), ?_⟩
        dsimp only
        rw [hsn, hT]
        refine le_mk ?_ ?_ (Nat.le_refl _)
        all_goals first | refine auE ?_ | exact auE0
        all_goals (repeat' (first | exact trivial | exact rfl | apply And.intro))
        all_goals first
          | exact dint ((IntWalk.i64_in _ (by omega)).trans (by omega))
          | (simp [rw8_len]; done)
          | (simp [rw8_len]; omega)
          | (refine congrArg some (congrArg (AObj.mk _ 1) ?_); simp [rw8]; done)
  · obtain rfl : k = l.length := by omega
    rw [List.take_length] at hall
    have hR : optsR l = (optsT l, true) := if_pos hall
    rw [hR, List.take_length]
    have hob := okBytes_rw8 (optsT l)
    have hso := strOf_rw8 (optsT l)
    have hln := rw8_len (optsT l)
    repeat' (first
      | (refine auS ?_)
      | fail
      | (refine auD ?_)
      | (with_reducible refine runR_b (fun h => ?_) (fun h => ?_) <;> first | exact auH | simp only [h, runR_t, runR_f])
      | (with_reducible refine condK_bl ?_ ?_)
      | (with_reducible refine condK_b (fun h => ?_) (fun h => ?_) <;> first | exact auH | skip)
      | (first | (simp only [List.length_map, xall hln.symm, hso]) | (refine runR_n ⟨⟨by trivial, by trivial, by trivial, by omega⟩, by simpa [xall hln.symm] using hob⟩ ?_) | fail))
    (all_goals first | exact auP | skip)
    all_goals refine auF ?_
    all_goals (try first | refine auR ?_ | exact auR0)
    all_goals (try simp only [hsM] at *)
end Go.Proofs.Ytegejpieedckiaa
