/-
  The greatest segment: what Mss and MssOf answer.
-/
import Derived.Test.YtegejpieedckiaaTcpK
namespace Go.Proofs.Ytegejpieedckiaa
set_option linter.unusedVariables false
set_option linter.unusedSimpArgs false
set_option maxHeartbeats 1000000 in
theorem mss_spec (g : Sg) (hl : g.opts.length ≤ maxLen) : Spec Try.prog 56 [dG g] (dMs (mssR g.opts)) := by
  unfold maxLen at hl
  obtain ⟨fr, to, seq, ack, flags, win, urg, l, data⟩ := g
  dsimp only at hl ⊢
  refine hspec_fn Try.func56 rfl ok_tcp_Mss okr_tcp_Mss rfl (by kernel_rfl) ?_
  intro Γ hW0 hN0 hL0
  have hW := hW0 rfl
  clear hW0 hN0 hL0
  unfold x_tcp_Mss r_tcp_Mss
  refine auC ?_
  repeat' (first
    | (refine auS ?_)
    | (simp only [List.length_map])
    | (refine auD ?_)
    | (with_reducible refine runR_b (fun h => ?_) (fun h => ?_) <;> first | exact auH | simp only [h, runR_t, runR_f])
    | (with_reducible refine condK_bl ?_ ?_)
    | (with_reducible refine condK_b (fun h => ?_) (fun h => ?_) <;> first | exact auH | skip)
    | fail)
  refine go_loopH (α := Nat × Nat) (fun x => [(⟨.d0, .d1, .d1⟩, .v (.int .i64 (x.1 : Nat)))]) (fun _ => [(1, none)]) (fun x => x.2) (fun x => l.length - x.1) (fun x => x.1 ≤ l.length ∧ ∀ y ∈ l.take x.1, isMss y = false) (0, Γ.g0 + 1) ⟨Nat.zero_le _, fun y hy => by simp at hy⟩ ?_ ?_
  · skip
    refine le_mk ?_ ?_ (Nat.le_refl _)
    all_goals first | refine auE ?_ | exact auE0
    all_goals (repeat' (first | exact trivial | exact rfl | apply And.intro))
  rintro ⟨k, gn⟩ ⟨hk, hp⟩
  dsimp only at hk hp ⊢
  refine auL ?_
  by_cases hlt : k < l.length
  · obtain ⟨t, ht⟩ : ∃ t, l[k]? = some t := ⟨_, List.getElem?_eq_getElem hlt⟩
    have ex := xget_op ht
    cases hm : isMss t with
    | true =>
      rw [mss_at ht hm hp]
      unfold isMss at hm
      obtain ⟨hk2, hd2⟩ : t.k = 2 ∧ t.d.length = 2 := by simpa using hm
      have hw := tcpwordAt_spec t.d 0 (by omega) (by omega) 0 rfl
      repeat' (first
        | (refine auS ?_)
        | (first | (simp only [mkS_size, hk2, hd2]) | (with_reducible refine runR_call hw ?_))
        | (refine auD ?_)
        | (with_reducible refine runR_b (fun h => ?_) (fun h => ?_) <;> first | exact auH | simp only [h, runR_t, runR_f])
        | (with_reducible refine condK_bl ?_ ?_)
        | (with_reducible refine condK_b (fun h => ?_) (fun h => ?_) <;> first | exact auH | skip)
        | (simp only [Int.toNat_natCast, ex, List.length_map]))
      (all_goals first | exact auP | skip)
      all_goals first
        | (exfalso; simp_all; done)
        | skip
      all_goals refine auF ?_
      all_goals (try first | refine auR ?_ | exact auR0)
      all_goals (try simp only [hsM] at *)
    | false =>
      have hq : ¬ (t.k = 2 ∧ t.d.length = 2) := fun q => by unfold isMss at hm; rw [q.1, q.2] at hm; simp at hm
      repeat' (first
        | (refine auS ?_)
        | (first | (simp only [mkS_size]))
        | (refine auD ?_)
        | (with_reducible refine runR_b (fun h => ?_) (fun h => ?_) <;> first | exact auH | simp only [h, runR_t, runR_f])
        | (with_reducible refine condK_bl ?_ ?_)
        | (with_reducible refine condK_b (fun h => ?_) (fun h => ?_) <;> first | exact auH | skip)
        | (simp only [Int.toNat_natCast, ex, List.length_map]))
      (all_goals first | exact auP | skip)
      all_goals
      refine nx_loop ⟨(k + 1, gn + 1), ⟨hlt, fun y hy => ?_⟩, Nat.sub_lt_sub_left hlt (Nat.lt_succ_self k), ?_⟩
      all_goals first
        | (rw [take_snoc ht] at hy
           rcases List.mem_append.1 hy with hy | hy
           · exact hp y hy
           · simp at hy; rw [hy]; exact hm)
        | skip
      refine le_mk ?_ ?_ (Nat.le_refl _)
      all_goals first | refine auE ?_ | exact auE0
      all_goals (repeat' (first | exact trivial | exact rfl | apply And.intro))
      all_goals exact dint ((IntWalk.i64_in _ (by omega)).trans (by omega))
  · obtain rfl : k = l.length := by omega
    rw [List.take_length] at hp
    rw [mss_none hp]
    repeat' (first
      | (refine auS ?_)
      | fail
      | (refine auD ?_)
      | (with_reducible refine runR_b (fun h => ?_) (fun h => ?_) <;> first | exact auH | simp only [h, runR_t, runR_f])
      | (with_reducible refine condK_bl ?_ ?_)
      | (with_reducible refine condK_b (fun h => ?_) (fun h => ?_) <;> first | exact auH | skip)
      | (simp only [List.length_map]))
    (all_goals first | exact auP | skip)
    all_goals refine auF ?_
    all_goals (try first | refine auR ?_ | exact auR0)
    all_goals (try simp only [hsM] at *)
theorem isMss_spec (t : Op2) : Spec Try.prog 62 [.agg t.enc] (.v (.bool (isMss t))) := by
  refine hspec_fn Try.func62 rfl ok_custref_MssOf_1 okr_custref_MssOf_1 rfl (by kernel_rfl) ?_
  intro Γ hW0 hN0 hL0
  have hW := hW0 rfl
  clear hW0 hN0 hL0
  unfold x_custref_MssOf_1 r_custref_MssOf_1
  refine auC ?_
  repeat' (first
    | (refine auS ?_)
    | (simp only [mkS_size])
    | (refine auD ?_)
    | (with_reducible refine runR_b (fun h => ?_) (fun h => ?_) <;> first | exact auH | simp only [h, runR_t, runR_f])
    | (with_reducible refine condK_bl ?_ ?_)
    | (with_reducible refine condK_b (fun h => ?_) (fun h => ?_) <;> first | exact auH | skip)
    | fail)
  (all_goals first | exact auP | skip)
  all_goals refine auF ?_
  all_goals (try first | refine auR ?_ | exact auR0)
  all_goals (try simp only [hsM] at *)
  all_goals (refine dbool ?_; unfold isMss; first | (simp_all; done) | (simp_all; omega))
set_option maxHeartbeats 1000000 in
theorem mssOf_spec (g : Sg) (hl : g.opts.length ≤ maxLen) : Spec Try.prog 32 [dG g] (dMs (mssR g.opts)) := by
  have hi := opindexf_spec isMss g.opts false hl (fun t _ => isMss_spec t)
  unfold maxLen at hl
  obtain ⟨fr, to, seq, ack, flags, win, urg, l, data⟩ := g
  dsimp only at hl hi ⊢
  rcases firstI_cases isMss l 0 with ⟨h1, h2⟩ | ⟨i, t, h1, h2, h3, h4⟩
  · rw [mss_none h2]
    rw [h1] at hi
    refine hspec_fn Try.func32 rfl ok_custref_MssOf okr_custref_MssOf rfl (by kernel_rfl) ?_
    intro Γ hW0 hN0 hL0
    have hW := hW0 rfl
    clear hW0 hN0 hL0
    unfold x_custref_MssOf r_custref_MssOf
    refine auC ?_
    repeat' (first
      | (refine auS ?_)
      | (with_reducible refine runR_call hi ?_)
      | (refine auD ?_)
      | (with_reducible refine runR_b (fun h => ?_) (fun h => ?_) <;> first | exact auH | simp only [h, runR_t, runR_f])
      | (with_reducible refine condK_bl ?_ ?_)
      | (with_reducible refine condK_b (fun h => ?_) (fun h => ?_) <;> first | exact auH | skip)
      | fail)
    (all_goals first | exact auP | skip)
    all_goals refine auF ?_
    all_goals (try first | refine auR ?_ | exact auR0)
    all_goals (try simp only [hsM] at *)
  · rw [mss_at h1 h2 h3]
    rw [h4, Nat.zero_add] at hi
    have ex := xget_op h1
    have hlt := (List.getElem?_eq_some_iff.1 h1).1
    unfold isMss at h2
    obtain ⟨hk2, hd2⟩ : t.k = 2 ∧ t.d.length = 2 := by simpa using h2
    have hw := wordAt_spec t.d 0 (by omega) (by omega) 0 rfl
    refine hspec_fn Try.func32 rfl ok_custref_MssOf okr_custref_MssOf rfl (by kernel_rfl) ?_
    intro Γ hW0 hN0 hL0
    have hW := hW0 rfl
    clear hW0 hN0 hL0
    unfold x_custref_MssOf r_custref_MssOf
    refine auC ?_
    repeat' (first
      | (refine auS ?_)
      | (first | (with_reducible refine runR_call hi ?_) | (with_reducible refine runR_call hw ?_))
      | (refine auD ?_)
      | (with_reducible refine runR_b (fun h => ?_) (fun h => ?_) <;> first | exact auH | simp only [h, runR_t, runR_f])
      | (with_reducible refine condK_bl ?_ ?_)
      | (with_reducible refine condK_b (fun h => ?_) (fun h => ?_) <;> first | exact auH | skip)
      | (simp only [Int.toNat_natCast, ex, List.length_map]))
    (all_goals first | exact auP | skip)
    all_goals refine auF ?_
    all_goals (try first | refine auR ?_ | exact auR0)
    all_goals (try simp only [hsM] at *)
end Go.Proofs.Ytegejpieedckiaa
