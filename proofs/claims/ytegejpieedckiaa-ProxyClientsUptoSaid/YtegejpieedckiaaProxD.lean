/-
  A guard: is it right, in the reference.
-/
import Derived.Test.YtegejpieedckiaaProxC
namespace Go.Proofs.Ytegejpieedckiaa
set_option linter.unusedVariables false
set_option linter.unusedSimpArgs false
set_option maxRecDepth 8000 in
set_option maxHeartbeats 4000000 in
theorem pright_spec (k0 k1 sz : Int) (ms : List Gd) (hl : ms.length ≤ maxLen) : Spec Try.prog 12 [dPx k0 k1 sz ms] (.v (.int .i64 (proxErr sz ms))) := by
  have hl' := hl
  unfold maxLen at hl'
  by_cases hs : 0 ≤ sz ∧ sz ≤ 65535
  · by_cases hn : 64 < ms.length
    · have e : proxErr sz ms = 2 := by unfold proxErr; rw [if_pos hs, if_pos hn]
      rw [e]
      clear e
      refine hspec_fn Try.func12 rfl ok_custref_ProxyRight okr_custref_ProxyRight rfl (by kernel_rfl) ?_
      intro Γ hW0 hN0 hL0
      have hW := hW0 rfl
      clear hW0 hN0 hL0
      unfold x_custref_ProxyRight r_custref_ProxyRight
      refine auC ?_
      repeat' (first
        | (refine auS ?_)
        | (first | (with_reducible refine runR_call (between_spec _ _ _) ?_) | (simp only [List.length_map]))
        | (refine auD ?_)
        | (with_reducible refine runR_b (fun h => ?_) (fun h => ?_) <;> first | exact auH | simp only [h, runR_t, runR_f])
        | (with_reducible refine condK_bl ?_ ?_)
        | (with_reducible refine condK_b (fun h => ?_) (fun h => ?_) <;> first | exact auH | skip)
        | fail)
      (all_goals first | exact auP | skip)
      all_goals refine auF ?_
      all_goals (try first | refine auR ?_ | exact auR0)
      all_goals (try simp only [hsM] at *)
    · have e : proxErr sz ms = if goodG refP [] ms then 0 else 4 := by unfold proxErr; rw [if_pos hs, if_neg hn]
      rw [e]
      clear e
      refine hspec_fn Try.func12 rfl ok_custref_ProxyRight okr_custref_ProxyRight rfl (by kernel_rfl) ?_
      intro Γ hW0 hN0 hL0
      have hW := hW0 rfl
      clear hW0 hN0 hL0
      unfold x_custref_ProxyRight r_custref_ProxyRight
      refine auC ?_
      repeat' (first
        | (refine auS ?_)
        | (first | (with_reducible refine runR_call (between_spec _ _ _) ?_) | (simp only [List.length_map]))
        | (refine auD ?_)
        | (with_reducible refine runR_b (fun h => ?_) (fun h => ?_) <;> first | exact auH | simp only [h, runR_t, runR_f])
        | (with_reducible refine condK_bl ?_ ?_)
        | (with_reducible refine condK_b (fun h => ?_) (fun h => ?_) <;> first | exact auH | skip)
        | fail)
      (all_goals first | exact auP | skip)
      refine go_loopH (α := Nat × Nat) (fun p => [(⟨.d0, .d2, .d2⟩, .v (.int .i64 (p.1 : Nat)))]) (fun p => [(1, none), (2, none)]) (fun p => p.2) (fun p => ms.length - p.1) (fun p => p.1 ≤ ms.length ∧ goodG refP [] ms = goodG refP (ms.take p.1) (ms.drop p.1)) (0, Γ.g0 + 1) ⟨Nat.zero_le _, rfl⟩ ?_ ?_
      · skip
        refine le_mk ?_ ?_ (Nat.le_refl _)
        all_goals first | refine auE ?_ | exact auE0
        all_goals (repeat' (first | exact trivial | exact rfl | apply And.intro))
      rintro ⟨k, gn⟩ ⟨hk, hgd⟩
      dsimp only at hk hgd ⊢
      refine auL ?_
      by_cases hlt : k < ms.length
      · obtain ⟨m, hm⟩ : ∃ m, ms[k]? = some m := ⟨_, List.getElem?_eq_getElem hlt⟩
        have ex := xget_gd hm
        have hrr := roadRight_spec m.rd
        have hcut : xtake (xdrop (ms.map Gd.enc) 0) ((k : Int) - 0).toNat = (ms.take k).map Gd.enc := by rw [xtake_eq, xdrop_eq]; simp
        have hlk : ((ms.take k).map Gd.enc).length = k := by simp; omega
        by_cases hb : rdOk m.rd = true ∧ (0 ≤ m.at' ∧ m.at' ≤ 1099511627776) ∧ (m.op = true ∨ ¬ 0 < m.dl)
        · obtain ⟨q1, q2, q3⟩ := hb
          rw [q1] at hrr
          repeat' (first
            | (refine auS ?_)
            | (first | (with_reducible refine runR_call (between_spec _ _ _) ?_) | (with_reducible refine runR_call hrr ?_) | (simp only [List.length_map]))
            | (refine auD ?_)
            | (with_reducible refine runR_b (fun h => ?_) (fun h => ?_) <;> first | exact auH | simp only [h, runR_t, runR_f])
            | (with_reducible refine condK_bl ?_ ?_)
            | (with_reducible refine condK_b (fun h => ?_) (fun h => ?_) <;> first | exact auH | skip)
            | (first | (simp only [Int.toNat_natCast, ex])))
          (all_goals first | exact auP | skip)
          all_goals first
            | (exfalso; simp_all; done)
            | (exfalso; simp_all; omega)
            | skip
          all_goals simp only [hcut, hlk]
          all_goals refine go_loopH (α := Nat × Nat) (fun p => [(⟨.d0, .d6, .d0⟩, .v (.int .i64 (p.1 : Nat)))]) (fun p => [(2, none)]) (fun p => p.2) (fun p => k - p.1) (fun p => p.1 ≤ k ∧ ∀ y ∈ ms.take p.1, (onR m.rd y || decide (m.at' < y.at')) = false) (0, gn + 1) ⟨Nat.zero_le _, fun y hy => by simp at hy⟩ ?_ ?_
          · skip
            refine le_mk ?_ ?_ (Nat.le_refl _)
            all_goals first | refine auE ?_ | exact auE0
            all_goals (repeat' (first | exact trivial | exact rfl | apply And.intro))
          rotate_left
          · skip
            refine le_mk ?_ ?_ (Nat.le_refl _)
            all_goals first | refine auE ?_ | exact auE0
            all_goals (repeat' (first | exact trivial | exact rfl | apply And.intro))
          all_goals
            rintro ⟨j, g2⟩ ⟨hj, hpre⟩
            dsimp only at hj hpre ⊢
            refine auL ?_
            by_cases hjk : j < k
            · obtain ⟨y, hy⟩ : ∃ y, ms[j]? = some y := ⟨_, List.getElem?_eq_getElem (by omega)⟩
              have ey := xget_gd (l := ms.take k) (k := j) (t := y) (by rw [List.getElem?_take, if_pos hjk]; exact hy)
              have hym : y ∈ ms.take k := List.mem_iff_getElem?.2 ⟨j, by rw [List.getElem?_take, if_pos hjk]; exact hy⟩
              cases hcl : (onR m.rd y || decide (m.at' < y.at')) with
              | true =>
                have hbad : goodG refP [] ms = false := goodG_bad hm hgd (by unfold refP; rw [List.all_eq_false.2 ⟨y, hym, by simp [hcl]⟩, Bool.and_false])
                rw [hbad, if_neg Bool.false_ne_true]
                unfold onR at hcl
                repeat' (first
                  | (refine auS ?_)
                  | fail
                  | (refine auD ?_)
                  | (with_reducible refine runR_b (fun h => ?_) (fun h => ?_) <;> first | exact auH | simp only [h, runR_t, runR_f])
                  | (with_reducible refine condK_bl ?_ ?_)
                  | (with_reducible refine condK_b (fun h => ?_) (fun h => ?_) <;> first | exact auH | skip)
                  | (first | (simp only [Int.toNat_natCast, ey])))
                (all_goals first | exact auP | skip)
                all_goals first
                  | (exfalso; simp_all; done)
                  | (exfalso; simp_all; omega)
                  | skip
                all_goals refine auF ?_
                all_goals (try first | refine auR ?_ | exact auR0)
                all_goals (try simp only [hsM] at *)
              | false =>
                have hpre' : ∀ z ∈ ms.take (j + 1), (onR m.rd z || decide (m.at' < z.at')) = false := fun z hz => by
                  rw [List.take_add_one, hy] at hz
                  rcases List.mem_append.1 hz with hz | hz
                  · exact hpre z hz
                  · rw [List.mem_singleton.1 hz]; exact hcl
                unfold onR at hcl
                have hwj : IntKind.i64.wrap ((j : Int) + 1) = ((j + 1 : Nat) : Int) := (IntWalk.i64_in _ (by omega)).trans (by omega)
                repeat' (first
                  | (refine auS ?_)
                  | fail
                  | (refine auD ?_)
                  | (with_reducible refine runR_b (fun h => ?_) (fun h => ?_) <;> first | exact auH | simp only [h, runR_t, runR_f])
                  | (with_reducible refine condK_bl ?_ ?_)
                  | (with_reducible refine condK_b (fun h => ?_) (fun h => ?_) <;> first | exact auH | skip)
                  | (first | (simp only [Int.toNat_natCast, ey])))
                (all_goals first | exact auP | skip)
                all_goals first
                  | (exfalso; simp_all; done)
                  | (exfalso; simp_all; omega)
                  | skip
                all_goals (simp only [hwj]; refine nx_loop ⟨(j + 1, g2 + 1), ⟨hjk, hpre'⟩, Nat.sub_lt_sub_left hjk (Nat.lt_succ_self j), ?_⟩; (refine le_mk ?_ ?_ (Nat.le_refl _)); (all_goals first | refine auE ?_ | exact auE0); (all_goals (repeat' (first | exact trivial | exact rfl | apply And.intro))))
            · obtain rfl : j = k := by omega
              have hrf : refP (ms.take j) m = true := by
                unfold refP
                rw [List.all_eq_true.2 (fun y hy => by rw [hpre y hy]; rfl), q1]
                simp only [Bool.and_true, Bool.true_and, Bool.and_eq_true, Bool.or_eq_true, decide_eq_true_eq]
                exact ⟨q2, q3⟩
              repeat' (first
                | (refine auS ?_)
                | fail
                | (refine auD ?_)
                | (with_reducible refine runR_b (fun h => ?_) (fun h => ?_) <;> first | exact auH | simp only [h, runR_t, runR_f])
                | (with_reducible refine condK_bl ?_ ?_)
                | (with_reducible refine condK_b (fun h => ?_) (fun h => ?_) <;> first | exact auH | skip)
                | fail)
              (all_goals first | exact auP | skip)
              refine nx_loop ⟨(j + 1, g2), ⟨hlt, goodG_next hm hgd hrf⟩, Nat.sub_lt_sub_left hlt (Nat.lt_succ_self j), ?_⟩
              dsimp only
              refine le_mk ?_ ?_ (Nat.le_refl _)
              all_goals first | refine auE ?_ | exact auE0
              all_goals (repeat' (first | exact trivial | exact rfl | apply And.intro))
              all_goals exact dint ((IntWalk.i64_in _ (by omega)).trans (by omega))
        · have hbad : goodG refP [] ms = false := goodG_bad hm hgd (by
            cases hq : refP (ms.take k) m with
            | false => rfl
            | true =>
              unfold refP at hq
              simp only [Bool.and_eq_true, Bool.or_eq_true, decide_eq_true_eq] at hq
              exact (hb ⟨hq.1.1.1, hq.1.1.2, hq.1.2⟩).elim)
          rw [hbad, if_neg Bool.false_ne_true]
          clear hbad hgd
          generalize rdOk m.rd = rr at hrr hb
          repeat' (first
            | (refine auS ?_)
            | (first | (with_reducible refine runR_call (between_spec _ _ _) ?_) | (with_reducible refine runR_call hrr ?_) | (simp only [List.length_map]))
            | (refine auD ?_)
            | (with_reducible refine runR_b (fun h => ?_) (fun h => ?_) <;> first | exact auH | simp only [h, runR_t, runR_f])
            | (with_reducible refine condK_bl ?_ ?_)
            | (with_reducible refine condK_b (fun h => ?_) (fun h => ?_) <;> first | exact auH | skip)
            | (first | (simp only [Int.toNat_natCast, ex])))
          (all_goals first | exact auP | skip)
          all_goals first
            | (exfalso; apply hb; simp_all; done)
            | (exfalso; apply hb; simp_all; omega)
            | skip
          all_goals refine auF ?_
          all_goals (try first | refine auR ?_ | exact auR0)
          all_goals (try simp only [hsM] at *)
      · obtain rfl : k = ms.length := by omega
        have hg1 : goodG refP [] ms = true := by rw [hgd, List.drop_length]; rfl
        rw [hg1, if_pos rfl]
        repeat' (first
          | (refine auS ?_)
          | fail
          | (refine auD ?_)
          | (with_reducible refine runR_b (fun h => ?_) (fun h => ?_) <;> first | exact auH | simp only [h, runR_t, runR_f])
          | (with_reducible refine condK_bl ?_ ?_)
          | (with_reducible refine condK_b (fun h => ?_) (fun h => ?_) <;> first | exact auH | skip)
          | fail)
        (all_goals first | exact auP | skip)
        all_goals refine auF ?_
        all_goals (try first | refine auR ?_ | exact auR0)
        all_goals (try simp only [hsM] at *)
  · have e : proxErr sz ms = 1 := by unfold proxErr; rw [if_neg hs]
    rw [e]
    clear e
    refine hspec_fn Try.func12 rfl ok_custref_ProxyRight okr_custref_ProxyRight rfl (by kernel_rfl) ?_
    intro Γ hW0 hN0 hL0
    have hW := hW0 rfl
    clear hW0 hN0 hL0
    unfold x_custref_ProxyRight r_custref_ProxyRight
    refine auC ?_
    repeat' (first
      | (refine auS ?_)
      | (with_reducible refine runR_call (between_spec _ _ _) ?_)
      | (refine auD ?_)
      | (with_reducible refine runR_b (fun h => ?_) (fun h => ?_) <;> first | exact auH | simp only [h, runR_t, runR_f])
      | (with_reducible refine condK_bl ?_ ?_)
      | (with_reducible refine condK_b (fun h => ?_) (fun h => ?_) <;> first | exact auH | skip)
      | fail)
    (all_goals first | exact auP | skip)
    all_goals refine auF ?_
    all_goals (try first | refine auR ?_ | exact auR0)
    all_goals (try simp only [hsM] at *)
end Go.Proofs.Ytegejpieedckiaa
