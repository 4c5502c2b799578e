/-
  A guard: is it right, in the program and in the reference: the whole.
-/
import Derived.Test.YtegejpieedckiaaProxX
namespace Go.Proofs.Ytegejpieedckiaa
set_option linter.unusedVariables false
set_option linter.unusedSimpArgs false
def latestP (pre : List Gd) (a : Int) : Prop := 0 ≤ a ∧ (a = 0 ∨ ∃ o ∈ pre, o.at' = a) ∧ ∀ o ∈ pre, o.at' ≤ a
theorem latestP_next {ms : List Gd} {k : Nat} {a : Int} {m : Gd} (hm : ms[k]? = some m) (h : latestP (ms.take k) a) (ha : a ≤ m.at') : latestP (ms.take (k + 1)) m.at' := by
  obtain ⟨h0, h1, h2⟩ := h
  rw [List.take_add_one, hm]
  refine ⟨by omega, .inr ⟨m, by simp, rfl⟩, fun o ho => ?_⟩
  rcases List.mem_append.1 ho with ho | ho
  · have := h2 o ho; omega
  · obtain rfl := List.mem_singleton.1 ho
    exact Int.le_refl _
theorem onR_refl (t : Gd) : onR t.rd t = true := by unfold onR; simp
theorem refP_iff {ms : List Gd} {k : Nat} {a : Int} {m : Gd} (hm : ms[k]? = some m) (h : latestP (ms.take k) a) : refP (ms.take k) m = true ↔ (0 ≤ m.fp ∧ m.fp ≤ 65535) ∧ (0 ≤ m.tp ∧ m.tp ≤ 65535) ∧ a ≤ m.at' ∧ m.at' ≤ 1099511627776 ∧ (m.op = true ∨ ¬ 0 < m.dl) ∧ firstI (onR m.rd) ms 0 = (k : Int) := by
  have hk : k < ms.length := (List.getElem?_eq_some_iff.1 hm).1
  have e : ms = ms.take k ++ m :: ms.drop (k + 1) := by
    conv => lhs; rw [← List.take_append_drop k ms, List.drop_eq_getElem_cons hk, show ms[k] = m from Option.some.inj ((List.getElem?_eq_getElem hk).symm.trans hm)]
  have hf := firstI_here (onR m.rd) m (onR_refl m) (ms.drop (k + 1)) (ms.take k) 0
  rw [← e] at hf
  rw [show ((0 + (ms.take k).length : Nat) : Int) = (k : Int) by simp; omega] at hf
  rw [hf]
  obtain ⟨h0, h1, h2⟩ := h
  unfold refP rdOk
  simp only [Bool.and_eq_true, Bool.or_eq_true, decide_eq_true_eq, List.all_eq_true, Bool.not_eq_true', Bool.or_eq_false_iff, decide_eq_false_iff_not]
  constructor
  · rintro ⟨⟨⟨⟨q1, q2⟩, q3, q4⟩, q5⟩, q6⟩
    refine ⟨q1, q2, ?_, q4, q5, fun y hy => (q6 y hy).1⟩
    rcases h1 with rfl | ⟨o, ho, rfl⟩
    · exact q3
    · have := (q6 o ho).2; omega
  · rintro ⟨q1, q2, q3, q4, q5, q6⟩
    exact ⟨⟨⟨⟨q1, q2⟩, by omega, q4⟩, q5⟩, fun y hy => ⟨q6 y hy, by have := h2 y hy; omega⟩⟩
set_option maxRecDepth 8000 in
set_option maxHeartbeats 4000000 in
theorem pcheck_spec (k0 k1 sz : Int) (ms : List Gd) (hl : ms.length ≤ maxLen) (hd : ∀ t ∈ ms, 0 ≤ t.dl) : Spec Try.prog 11 [dPx k0 k1 sz ms] (.v (.int .i64 (proxErr sz ms))) := by
  have hl' := hl
  unfold maxLen at hl'
  by_cases hs : 0 ≤ sz ∧ sz ≤ 65535
  · by_cases hn : 64 < ms.length
    · have e : proxErr sz ms = 2 := by unfold proxErr; rw [if_pos hs, if_pos hn]
      rw [e]
      clear e
      refine hspec_fn Try.func11 rfl ok_proxy_Check okr_proxy_Check rfl (by kernel_rfl) ?_
      intro Γ hW0 hN0 hL0
      have hW := hW0 rfl
      clear hW0 hN0 hL0
      unfold x_proxy_Check r_proxy_Check
      refine auC ?_
      repeat' (first
        | (refine auS ?_)
        | (first | (with_reducible refine runR_call (port_spec _) ?_) | (simp only [List.length_map]))
        | (refine auD ?_)
        | (with_reducible refine runR_b (fun h => ?_) (fun h => ?_) <;> first | exact auH | simp only [h, runR_t, runR_f])
        | (with_reducible refine condK_bl ?_ ?_)
        | (with_reducible refine condK_b (fun h => ?_) (fun h => ?_) <;> first | exact auH | skip)
        | fail)
      (all_goals first | exact auP | skip)
      all_goals refine auF ?_
      all_goals (try first | refine auR ?_ | exact auR0)
      all_goals (try simp only [hsM] at *)
    · have e : proxErr sz ms = if goodG refP [] ms then 0 else 4 := by unfold proxErr; rw [if_pos hs, if_neg hn]
      rw [e]
      clear e
      refine hspec_fn Try.func11 rfl ok_proxy_Check okr_proxy_Check rfl (by kernel_rfl) ?_
      intro Γ hW0 hN0 hL0
      have hW := hW0 rfl
      clear hW0 hN0 hL0
      unfold x_proxy_Check r_proxy_Check
      refine auC ?_
      repeat' (first
        | (refine auS ?_)
        | (first | (with_reducible refine runR_call (port_spec _) ?_) | (simp only [List.length_map]))
        | (refine auD ?_)
        | (with_reducible refine runR_b (fun h => ?_) (fun h => ?_) <;> first | exact auH | simp only [h, runR_t, runR_f])
        | (with_reducible refine condK_bl ?_ ?_)
        | (with_reducible refine condK_b (fun h => ?_) (fun h => ?_) <;> first | exact auH | skip)
        | fail)
      (all_goals first | exact auP | skip)
      refine go_loopH (α := Nat × Int × Nat) (fun p => [(⟨.d0, .d0, .d3⟩, .v (.int .i64 p.2.1)), (⟨.d0, .d2, .d1⟩, .v (.int .i64 (p.1 : Nat)))]) (fun p => [(1, none)]) (fun p => p.2.2) (fun p => ms.length - p.1) (fun p => p.1 ≤ ms.length ∧ latestP (ms.take p.1) p.2.1 ∧ goodG refP [] ms = goodG refP (ms.take p.1) (ms.drop p.1)) (0, 0, Γ.g0 + 1) ⟨Nat.zero_le _, ⟨Int.le_refl _, .inl rfl, fun o ho => by simp at ho⟩, rfl⟩ ?_ ?_
      · skip
        refine le_mk ?_ ?_ (Nat.le_refl _)
        all_goals first | refine auE ?_ | exact auE0
        all_goals (repeat' (first | exact trivial | exact rfl | apply And.intro))
      rintro ⟨k, a, gn⟩ ⟨hk, hla, hgd⟩
      dsimp only at hk hla hgd ⊢
      refine auL ?_
      by_cases hlt : k < ms.length
      · obtain ⟨m, hm⟩ : ∃ m, ms[k]? = some m := ⟨_, List.getElem?_eq_getElem hlt⟩
        have ex := xget_gd hm
        have hok := refP_iff hm hla
        have hdl := hd m (List.mem_of_getElem? hm)
        have hpl := place_spec k0 k1 sz ms m.rd hl
        generalize firstI (onR m.rd) ms 0 = fi at hpl hok
        cases hq : refP (ms.take k) m with
        | true =>
          obtain ⟨⟨q1, q2⟩, ⟨q3, q4⟩, q5, q6, q7, q8⟩ := hok.1 hq
          have hnx := goodG_next hm hgd hq
          have hln := latestP_next hm hla q5
          subst q8
          repeat' (first
            | (refine auS ?_)
            | (first | (with_reducible refine runR_call (port_spec _) ?_) | (with_reducible refine runR_call hpl ?_))
            | (refine auD ?_)
            | (with_reducible refine runR_b (fun h => ?_) (fun h => ?_) <;> first | exact auH | simp only [h, runR_t, runR_f])
            | (with_reducible refine condK_bl ?_ ?_)
            | (with_reducible refine condK_b (fun h => ?_) (fun h => ?_) <;> first | exact auH | skip)
            | (first | (simp only [Int.toNat_natCast, ex])))
          (all_goals first | exact auP | skip)
          all_goals first
            | (exfalso; rename_i hA; have hB := q7.resolve_left (by simpa using hA); simp at h; omega)
            | (refine nx_loop ⟨(k + 1, m.at', gn + 1), ⟨hlt, hln, hnx⟩, Nat.sub_lt_sub_left hlt (Nat.lt_succ_self k), ?_⟩; (refine le_mk ?_ ?_ (Nat.le_refl _)); (all_goals first | refine auE ?_ | exact auE0); (all_goals (repeat' (first | exact trivial | exact rfl | apply And.intro))))
          all_goals exact dint ((IntWalk.i64_in _ (by omega)).trans (by omega))
        | false =>
          have hbad := goodG_bad hm hgd hq
          rw [hbad, if_neg Bool.false_ne_true]
          rw [hq] at hok
          have hno : ¬ ((0 ≤ m.fp ∧ m.fp ≤ 65535) ∧ (0 ≤ m.tp ∧ m.tp ≤ 65535) ∧ a ≤ m.at' ∧ m.at' ≤ 1099511627776 ∧ (m.op = true ∨ ¬ 0 < m.dl) ∧ fi = (k : Int)) := fun q => by cases hok.2 q
          clear hok hbad hgd hq
          repeat' (first
            | (refine auS ?_)
            | (first | (with_reducible refine runR_call (port_spec _) ?_) | (with_reducible refine runR_call hpl ?_))
            | (refine auD ?_)
            | (with_reducible refine runR_b (fun h => ?_) (fun h => ?_) <;> first | exact auH | simp only [h, runR_t, runR_f])
            | (with_reducible refine condK_bl ?_ ?_)
            | (with_reducible refine condK_b (fun h => ?_) (fun h => ?_) <;> first | exact auH | skip)
            | (first | (simp only [Int.toNat_natCast, ex])))
          (all_goals first | exact auP | skip)
          all_goals first
            | (exfalso; apply hno; simp_all; done)
            | (exfalso; apply hno; simp_all; omega)
            | skip
          all_goals refine auF ?_
          all_goals (try first | refine auR ?_ | exact auR0)
          all_goals (try simp only [hsM] at *)
      · obtain rfl : k = ms.length := by omega
        have hg1 : goodG refP [] ms = true := by rw [hgd, List.drop_length]; rfl
        rw [hg1, if_pos rfl]
        repeat' (first
          | (refine auS ?_)
          | fail
          | (refine auD ?_)
          | (with_reducible refine runR_b (fun h => ?_) (fun h => ?_) <;> first | exact auH | simp only [h, runR_t, runR_f])
          | (with_reducible refine condK_bl ?_ ?_)
          | (with_reducible refine condK_b (fun h => ?_) (fun h => ?_) <;> first | exact auH | skip)
          | fail)
        (all_goals first | exact auP | skip)
        all_goals refine auF ?_
        all_goals (try first | refine auR ?_ | exact auR0)
        all_goals (try simp only [hsM] at *)
  · have e : proxErr sz ms = 1 := by unfold proxErr; rw [if_neg hs]
    rw [e]
    clear e
    refine hspec_fn Try.func11 rfl ok_proxy_Check okr_proxy_Check rfl (by kernel_rfl) ?_
    intro Γ hW0 hN0 hL0
    have hW := hW0 rfl
    clear hW0 hN0 hL0
    unfold x_proxy_Check r_proxy_Check
    refine auC ?_
    repeat' (first
      | (refine auS ?_)
      | (with_reducible refine runR_call (port_spec _) ?_)
      | (refine auD ?_)
      | (with_reducible refine runR_b (fun h => ?_) (fun h => ?_) <;> first | exact auH | simp only [h, runR_t, runR_f])
      | (with_reducible refine condK_bl ?_ ?_)
      | (with_reducible refine condK_b (fun h => ?_) (fun h => ?_) <;> first | exact auH | skip)
      | fail)
    (all_goals first | exact auP | skip)
    all_goals refine auF ?_
    all_goals (try first | refine auR ?_ | exact auR0)
    all_goals (try simp only [hsM] at *)
end Go.Proofs.Ytegejpieedckiaa
