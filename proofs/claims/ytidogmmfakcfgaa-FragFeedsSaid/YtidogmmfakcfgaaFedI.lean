/-
  A pool is the same as itself; the program's Feed and the reference's Fed answer alike.
-/
import Derived.Test.YtidogmmfakcfgaaFedH
namespace Go.Proofs.Ytidogmmfakcfgaa
set_option linter.unusedVariables false
set_option linter.unusedSimpArgs false
theorem same1_spec (u : Hp) (hl : u.ps.length ≤ maxLen) : Spec Try.prog 31 [dH u, dH u] (.v (.bool true)) := by
  have h1 := pteq_same u.ps false false hl
  refine hspec_fn Try.func31 rfl ok_custref_SamePool_1 okr_custref_SamePool_1 rfl (by kernel_rfl) ?_
  intro Γ hW0 hN0 hL0
  have hW := hW0 rfl
  clear hW0 hN0 hL0
  unfold x_custref_SamePool_1 r_custref_SamePool_1
  with_reducible refine auC ?_
  repeat' (first
    | (with_reducible refine auS ?_)
    | (first | (with_reducible refine runR_call h1 ?_) | simp only [decide_true])
    | (with_reducible refine auD ?_)
    | ((with_reducible refine auB ?_ ?_); all_goals first | ((with_reducible intro h); first | exact auH | simp only [h, runR_t, runR_f] | skip) | skip)
    | fail)
  (all_goals first | exact auP | skip)
  all_goals first | (exfalso; simp at h; done) | skip
  all_goals with_reducible refine auF ?_
  all_goals (try first | with_reducible refine auR ?_ | exact auR0)
  all_goals (try simp only [hsM] at *)
  all_goals rfl
set_option maxHeartbeats 1000000 in
theorem eqf_same (l : List Hp) (hl : l.length ≤ maxLen) (hp : ∀ u ∈ l, u.ps.length ≤ maxLen) : Spec Try.prog 30 [dPool l, dPool l, .fn (.func 31) [] []] (.v (.bool true)) := by
  unfold maxLen at hl
  refine hspec_fn Try.func30 rfl ok_slices_EqualFunc_api_Heap okr_slices_EqualFunc_api_Heap rfl (by kernel_rfl) ?_
  intro Γ hW0 hN0 hL0
  have hW := hW0 rfl
  clear hW0 hN0 hL0
  unfold x_slices_EqualFunc_api_Heap r_slices_EqualFunc_api_Heap
  with_reducible refine auC ?_
  repeat' (first
    | (with_reducible refine auS ?_)
    | fail
    | (with_reducible refine auD ?_)
    | ((with_reducible refine auB ?_ ?_); all_goals first | ((with_reducible intro h); first | exact auH | simp only [h, runR_t, runR_f] | skip) | skip)
    | fail)
  (all_goals first | exact auP | skip)
  all_goals first | (exfalso; simp at h; done) | skip
  refine go_loopH (α := Nat × Nat) (fun a => [(⟨.d0, .d2, .d1⟩, .v (.int .i64 (a.1 : Nat)))]) (fun _ => [(0, none), (1, none)]) (fun a => a.2) (fun a => l.length - a.1) (fun a => a.1 ≤ l.length) (0, Γ.g0) (Nat.zero_le _) ?_ ?_
  · skip
    refine le_mk ?_ ?_ (Nat.le_refl _)
    all_goals first | with_reducible refine auE ?_ | exact auE0
    all_goals (repeat' (first | exact trivial | exact rfl | apply And.intro))
  rintro ⟨k, g⟩ hk
  dsimp only at hk ⊢
  with_reducible refine auL ?_
  by_cases hlt : k < l.length
  · obtain ⟨t, ht⟩ : ∃ t, l[k]? = some t := ⟨_, List.getElem?_eq_getElem hlt⟩
    have ex := xget_map Hp.enc l k t ht
    have h1 := same1_spec t (hp t (List.mem_of_getElem? ht))
    repeat' (first
      | (with_reducible refine auS ?_)
      | (with_reducible refine runR_call h1 ?_)
      | (with_reducible refine auD ?_)
      | ((with_reducible refine auB ?_ ?_); all_goals first | ((with_reducible intro h); first | exact auH | simp only [h, runR_t, runR_f] | skip) | skip)
      | (simp only [Int.toNat_natCast, ex]))
    (all_goals first | exact auP | skip)
    refine nx_loop ⟨(k + 1, g + 2), hlt, by dsimp only; omega, ?_⟩
    refine le_mk ?_ ?_ (Nat.le_refl _)
    all_goals first | with_reducible refine auE ?_ | exact auE0
    all_goals (repeat' (first | exact trivial | exact rfl | apply And.intro))
    all_goals first
      | exact dint ((IntWalk.i64_in _ (by omega)).trans (by omega))
      | rfl
  · obtain rfl : k = l.length := by omega
    repeat' (first
      | (with_reducible refine auS ?_)
      | fail
      | (with_reducible refine auD ?_)
      | ((with_reducible refine auB ?_ ?_); all_goals first | ((with_reducible intro h); first | exact auH | simp only [h, runR_t, runR_f] | skip) | skip)
      | fail)
    (all_goals first | exact auP | skip)
    all_goals with_reducible refine auF ?_
    all_goals (try first | with_reducible refine auR ?_ | exact auR0)
    all_goals (try simp only [hsM] at *)
theorem samepool_spec (l : List Hp) (hl : l.length ≤ maxLen) (hp : ∀ u ∈ l, u.ps.length ≤ maxLen) : Spec Try.prog 8 [dPool l, dPool l] (.v (.bool true)) := by
  have h1 := eqf_same l hl hp
  refine hspec_fn Try.func8 rfl ok_custref_SamePool okr_custref_SamePool rfl (by kernel_rfl) ?_
  intro Γ hW0 hN0 hL0
  have hW := hW0 rfl
  clear hW0 hN0 hL0
  unfold x_custref_SamePool r_custref_SamePool
  with_reducible refine auC ?_
  repeat' (first
    | (with_reducible refine auS ?_)
    | (with_reducible refine runR_call h1 ?_)
    | (with_reducible refine auD ?_)
    | ((with_reducible refine auB ?_ ?_); all_goals first | ((with_reducible intro h); first | exact auH | simp only [h, runR_t, runR_f] | skip) | skip)
    | fail)
  (all_goals first | exact auP | skip)
  all_goals with_reducible refine auF ?_
  all_goals (try first | with_reducible refine auR ?_ | exact auR0)
  all_goals (try simp only [hsM] at *)
theorem mem_cut {l : List Hp} {i : Nat} {x : Hp} (h : x ∈ cutL l i) : x ∈ l := by
  rcases List.mem_append.1 h with h | h
  · exact List.mem_of_mem_take h
  · exact List.mem_of_mem_drop h
theorem mem_less {l : List Hp} {x : Hp} (h : x ∈ lessP l) : x ∈ l := by
  unfold lessP at h
  split at h
  · exact List.mem_of_mem_drop h
  · exact h
theorem less_len {l : List Hp} (h : l.length ≤ 16) : (lessP l).length ≤ 15 := by
  unfold lessP
  split
  · rw [List.length_drop]; omega
  · omega
theorem fed_both (l : List Hp) (p : Pk) (hin : FeedIn l p) : ∃ r : FdR, Spec Try.prog 4 [dPool l, dP p] (dFd r) ∧ Spec Try.prog 5 [dPool l, dP p] (dFd r) ∧ r.1.length ≤ maxLen ∧ ∀ u ∈ r.1, u.ps.length ≤ maxLen := by
  have hl := hin.rm.1.1
  have hps : ∀ u ∈ l, u.ps.length ≤ maxLen := fun u hu => (hin.rm.2 u hu).1
  by_cases he : poolErr l = 0
  rotate_left
  · exact ⟨_, feed_bad l p hin he, fed_bad l p hin he, hl, hps⟩
  by_cases hp : pErr p = 0
  rotate_left
  · exact ⟨_, feed_pk l p hin he hp, fed_pk l p hin he hp, hl, hps⟩
  by_cases hm : p.mo = false ∧ p.start = 0
  · exact ⟨_, feed_one l p hin he hp hm.1 hm.2, fed_one l p hin he hp hm.1 hm.2, hl, hps⟩
  by_cases hr : refE p = 0
  rotate_left
  · exact ⟨_, feed_ref l p hin he hp hm hr, fed_ref l p hin he hp hm hr, hl, hps⟩
  obtain ⟨h16, h64, -⟩ := poolErr_ok he
  have hcut : ∀ i, (cutL l i).length ≤ maxLen := fun i => by
    unfold cutL maxLen
    rw [List.length_append, List.length_take, List.length_drop]
    omega
  have hcp : ∀ i, ∀ u ∈ cutL l i, u.ps.length ≤ maxLen := fun i u hu => hps u (mem_cut hu)
  rcases firstI_cases (fun h => sameK h (keyK p.fr p.to p.proto p.id)) l 0 with ⟨h1, -⟩ | ⟨i, u, hi, -, -, h1⟩
  · have hh : FeedNo l p := ⟨hin, he, hp, hm, hr, h1⟩
    have hnew : NewL l (lessP l) := by
      refine ⟨⟨⟨by have := less_len h16; unfold maxLen; omega, by have := less_len h16; omega⟩, fun u hu => hin.rm.2 u (mem_less hu)⟩, less_len h16, fun q => ?_, fun q => if_neg q⟩
      have h := without_spec l 0 (by omega) hin.rm.1
      have e : cutL l 0 = lessP l := by
        unfold lessP cutL
        rw [if_pos q]
        rfl
      rw [e] at h
      exact h
    have hlen : ∀ x : Hp, (lessP l ++ [x]).length ≤ maxLen := fun x => by
      have := less_len h16
      rw [List.length_append]
      unfold maxLen
      show (lessP l).length + 1 ≤ _
      omega
    have hmem : ∀ x : Hp, x.ps.length ≤ maxLen → ∀ u ∈ lessP l ++ [x], u.ps.length ≤ maxLen := fun x hx u hu => by
      rcases List.mem_append.1 hu with hu | hu
      · exact hps u (mem_less hu)
      · obtain rfl := List.mem_singleton.1 hu
        exact hx
    have hins : insP (newPt p) [] = [newPt p] := rfl
    by_cases hst : p.start = 0
    · have h2 := fed_new0 l (lessP l) p hh hnew hst
      rw [set_snoc, putH, if_pos hst] at h2
      exact ⟨_, feed_new0 l p hh hst, h2, hlen _, hmem _ (by show 1 ≤ maxLen; unfold maxLen; omega)⟩
    · have h2 := fed_new1 l (lessP l) p hh hnew hst
      rw [set_snoc, putH, if_neg hst] at h2
      exact ⟨_, feed_new1 l p hh hst, h2, hlen _, hmem _ (by show 1 ≤ maxLen; unfold maxLen; omega)⟩
  · rw [Nat.zero_add] at h1
    have hh : FeedAt l p i u := ⟨hin, he, hp, hm, hr, hi, h1⟩
    cases hs : scanR (newPt p) u.ps with
    | some b =>
      cases b with
      | true => exact ⟨_, feed_dup l p i u hh hs, fed_dup l p i u hh hs, hl, hps⟩
      | false => exact ⟨_, feed_clash l p i u hh hs, fed_clash l p i u hh hs, hcut i, hcp i⟩
    | none =>
      have hu64 := h64 u (List.mem_of_getElem? hi)
      by_cases hf : u.ps.length = 64
      · exact ⟨_, feed_full l p i u hh hs hf, fed_full l p i u hh hs hf, hcut i, hcp i⟩
      have hlt : u.ps.length < 64 := by omega
      have hset : ∀ x : Hp, (l.set i x).length ≤ maxLen := fun x => by rw [List.length_set]; exact hl
      have hmem : ∀ x : Hp, x.ps.length ≤ maxLen → ∀ v ∈ l.set i x, v.ps.length ≤ maxLen := fun x hx v hv => by
        rcases List.mem_or_eq_of_mem_set hv with hv | hv
        · exact hps v hv
        · rw [hv]; exact hx
      have hil : (insP (newPt p) u.ps).length ≤ maxLen := by rw [insP_len]; unfold maxLen; omega
      cases hB : (wholeR (insP (newPt p) u.ps)).2 with
      | true =>
        have h2 := fed_done l p i u hh hs hlt hB
        by_cases hst : p.start = 0
        · rw [putH, if_pos hst] at h2
          exact ⟨_, feed_done0 l p i u hh hs hlt hst hB, h2, hcut i, hcp i⟩
        · rw [putH, if_neg hst] at h2
          exact ⟨_, feed_done1 l p i u hh hs hlt hst hB, h2, hcut i, hcp i⟩
      | false =>
        have h2 := fed_upd l p i u hh hs hlt hB
        by_cases hst : p.start = 0
        · rw [putH, if_pos hst] at h2
          exact ⟨_, feed_upd0 l p i u hh hs hlt hst hB, h2, hset _, hmem _ hil⟩
        · rw [putH, if_neg hst] at h2
          exact ⟨_, feed_upd1 l p i u hh hs hlt hst hB, h2, hset _, hmem _ hil⟩
end Go.Proofs.Ytidogmmfakcfgaa
