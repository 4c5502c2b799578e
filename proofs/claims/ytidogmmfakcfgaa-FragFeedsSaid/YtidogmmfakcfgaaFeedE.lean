/-
  Feed: what is not put into a heap.
-/
import Derived.Test.YtidogmmfakcfgaaFeedG
namespace Go.Proofs.Ytidogmmfakcfgaa
set_option linter.unusedVariables false
set_option linter.unusedSimpArgs false
structure FeedIn (l : List Hp) (p : Pk) : Prop where
  rm : PoolRm l
  sm : PoolSm l
  ho : p.opt.length ≤ 140737488351232
  hd : p.data.length ≤ 140737488351232
  hfr : 0 ≤ p.fr ∧ p.fr < 4294967296
  hto : 0 ≤ p.to ∧ p.to < 4294967296
theorem FeedIn.chk {l : List Hp} {p : Pk} (h : FeedIn l p) : Spec Try.prog 6 [dPool l] (.v (.int .i64 (poolErr l))) := poolcheck_spec l h.rm.1.1 (fun u hu => (h.rm.2 u hu).1) h.sm
theorem FeedIn.wr {l : List Hp} {p : Pk} (h : FeedIn l p) : Spec Try.prog 10 [dP p] (dSI (pW p)) := ipwrite_spec p h.ho h.hd h.hfr h.hto
theorem feed_bad (l : List Hp) (p : Pk) (hin : FeedIn l p) (he : poolErr l ≠ 0) : Spec Try.prog 4 [dPool l, dP p] (dFd (l, pk0, false, poolErr l)) := by
  have href := hin.wr
  have hown := own_frz 6 l hin.rm
  have hchk := fun n => giveB (k := 6) (n := n) rfl hin.chk
  have hw := hin.wr
  generalize poolErr l = E at *
  refine hspec_fn Try.func4 rfl ok_frag_Feed okr_frag_Feed rfl (by kernel_rfl) ?_
  intro Γ hW0 hN0 hL0
  have hW := hW0 rfl
  clear hW0 hN0 hL0
  unfold x_frag_Feed r_frag_Feed
  with_reducible refine auC ?_
  repeat' (first
    | (with_reducible refine auS ?_)
    | (first | ((with_reducible refine atCall 9 ?_); (refine runR_callG [] [6] [6] rfl (by decide) rfl rfl hown ?_)) | ((with_reducible refine atCall 6 ?_); (refine runR_callL [6] (by decide) rfl rfl (hchk _) ?_)) | (with_reducible refine runR_call hw ?_) | (with_reducible refine runR_call href ?_))
    | (with_reducible refine auD ?_)
    | ((with_reducible refine auB ?_ ?_); all_goals first | ((with_reducible intro h); first | exact auH | simp only [h, runR_t, runR_f] | skip) | skip)
    | fail)
  (all_goals first | exact auP | skip)
  all_goals refine retq_le (leG_freeze hW ⟨.d0, .d0, .d4⟩ rfl rfl ⟨rfl, rfl, by simp⟩) ?_
  all_goals rw [xall (by simp)]
  all_goals with_reducible refine auF ?_
  all_goals (try first | with_reducible refine auR ?_ | exact auR0)
  all_goals (try simp only [hsM] at *)
  all_goals rfl
theorem feed_pk (l : List Hp) (p : Pk) (hin : FeedIn l p) (he : poolErr l = 0) (hp : pErr p ≠ 0) : Spec Try.prog 4 [dPool l, dP p] (dFd (l, pk0, false, pErr p)) := by
  have hpw : pW p = ([], pErr p) := by unfold pW; rw [if_neg hp]
  have href := hin.wr
  have hown := own_frz 6 l hin.rm
  have hchk := fun n => giveB (k := 6) (n := n) rfl hin.chk
  have hw := hin.wr
  rw [hpw] at hw; rw [he] at hchk; generalize pErr p = E at *
  refine hspec_fn Try.func4 rfl ok_frag_Feed okr_frag_Feed rfl (by kernel_rfl) ?_
  intro Γ hW0 hN0 hL0
  have hW := hW0 rfl
  clear hW0 hN0 hL0
  unfold x_frag_Feed r_frag_Feed
  with_reducible refine auC ?_
  repeat' (first
    | (with_reducible refine auS ?_)
    | (first | ((with_reducible refine atCall 9 ?_); (refine runR_callG [] [6] [6] rfl (by decide) rfl rfl hown ?_)) | ((with_reducible refine atCall 6 ?_); (refine runR_callL [6] (by decide) rfl rfl (hchk _) ?_)) | (with_reducible refine runR_call hw ?_) | (with_reducible refine runR_call href ?_))
    | (with_reducible refine auD ?_)
    | ((with_reducible refine auB ?_ ?_); all_goals first | ((with_reducible intro h); first | exact auH | simp only [h, runR_t, runR_f] | skip) | skip)
    | fail)
  (all_goals first | exact auP | skip)
  all_goals refine retq_le (leG_freeze hW ⟨.d0, .d0, .d4⟩ rfl rfl ⟨rfl, rfl, by simp⟩) ?_
  all_goals rw [xall (by simp)]
  all_goals with_reducible refine auF ?_
  all_goals (try first | with_reducible refine auR ?_ | exact auR0)
  all_goals (try simp only [hsM] at *)
  all_goals rfl
theorem feed_one (l : List Hp) (p : Pk) (hin : FeedIn l p) (he : poolErr l = 0) (hp : pErr p = 0) (hm : p.mo = false) (hs : p.start = 0) : Spec Try.prog 4 [dPool l, dP p] (dFd (l, p, true, 0)) := by
  have hpw : pW p = (pTxtF p (fl p), 0) := by unfold pW; rw [if_pos hp]
  have href := hin.wr
  obtain ⟨tos, id, wh, mo, start, life, proto, fr, to, opt, data⟩ := p
  dsimp only at hm hs
  subst hm hs
  have hown := own_frz 6 l hin.rm
  have hchk := fun n => giveB (k := 6) (n := n) rfl hin.chk
  have hw := hin.wr
  rw [hpw] at hw; rw [he] at hchk; generalize pTxtF _ _ = T at *
  refine hspec_fn Try.func4 rfl ok_frag_Feed okr_frag_Feed rfl (by kernel_rfl) ?_
  intro Γ hW0 hN0 hL0
  have hW := hW0 rfl
  clear hW0 hN0 hL0
  unfold x_frag_Feed r_frag_Feed
  with_reducible refine auC ?_
  repeat' (first
    | (with_reducible refine auS ?_)
    | (first | ((with_reducible refine atCall 9 ?_); (refine runR_callG [] [6] [6] rfl (by decide) rfl rfl hown ?_)) | ((with_reducible refine atCall 6 ?_); (refine runR_callL [6] (by decide) rfl rfl (hchk _) ?_)) | (with_reducible refine runR_call hw ?_) | (with_reducible refine runR_call href ?_))
    | (with_reducible refine auD ?_)
    | ((with_reducible refine auB ?_ ?_); all_goals first | ((with_reducible intro h); first | exact auH | simp only [h, runR_t, runR_f] | skip) | skip)
    | fail)
  (all_goals first | exact auP | skip)
  all_goals refine retq_le (leG_freeze hW ⟨.d0, .d0, .d4⟩ rfl rfl ⟨rfl, rfl, by simp⟩) ?_
  all_goals rw [xall (by simp)]
  all_goals with_reducible refine auF ?_
  all_goals (try first | with_reducible refine auR ?_ | exact auR0)
  all_goals (try simp only [hsM] at *)
  all_goals rfl
theorem feed_ref (l : List Hp) (p : Pk) (hin : FeedIn l p) (he : poolErr l = 0) (hp : pErr p = 0) (hm : ¬ (p.mo = false ∧ p.start = 0)) (hr : refE p ≠ 0) : Spec Try.prog 4 [dPool l, dP p] (dFd (l, pk0, false, refE p)) := by
  have hpw : pW p = (pTxtF p (fl p), 0) := by unfold pW; rw [if_pos hp]
  have href := frefused_spec p hp
  obtain ⟨tos, id, wh, mo, start, life, proto, fr, to, opt, data⟩ := p
  dsimp only at hm
  cases mo
  · have hm2 : ¬ start = 0 := fun q => hm ⟨rfl, q⟩
    have hown := own_frz 6 l hin.rm
    have hchk := fun n => giveB (k := 6) (n := n) rfl hin.chk
    have hw := hin.wr
    rw [hpw] at hw; rw [he] at hchk; generalize pTxtF _ _ = T at *; generalize refE _ = E at *
    refine hspec_fn Try.func4 rfl ok_frag_Feed okr_frag_Feed rfl (by kernel_rfl) ?_
    intro Γ hW0 hN0 hL0
    have hW := hW0 rfl
    clear hW0 hN0 hL0
    unfold x_frag_Feed r_frag_Feed
    with_reducible refine auC ?_
    repeat' (first
      | (with_reducible refine auS ?_)
      | (first | ((with_reducible refine atCall 9 ?_); (refine runR_callG [] [6] [6] rfl (by decide) rfl rfl hown ?_)) | ((with_reducible refine atCall 6 ?_); (refine runR_callL [6] (by decide) rfl rfl (hchk _) ?_)) | (with_reducible refine runR_call hw ?_) | (with_reducible refine runR_call href ?_))
      | (with_reducible refine auD ?_)
      | ((with_reducible refine auB ?_ ?_); all_goals first | ((with_reducible intro h); first | exact auH | simp only [h, runR_t, runR_f] | skip) | skip)
      | fail)
    (all_goals first | exact auP | skip)
    all_goals refine retq_le (leG_freeze hW ⟨.d0, .d0, .d4⟩ rfl rfl ⟨rfl, rfl, by simp⟩) ?_
    all_goals rw [xall (by simp)]
    all_goals with_reducible refine auF ?_
    all_goals (try first | with_reducible refine auR ?_ | exact auR0)
    all_goals (try simp only [hsM] at *)
    all_goals rfl
  · skip
    have hown := own_frz 6 l hin.rm
    have hchk := fun n => giveB (k := 6) (n := n) rfl hin.chk
    have hw := hin.wr
    rw [hpw] at hw; rw [he] at hchk; generalize pTxtF _ _ = T at *; generalize refE _ = E at *
    refine hspec_fn Try.func4 rfl ok_frag_Feed okr_frag_Feed rfl (by kernel_rfl) ?_
    intro Γ hW0 hN0 hL0
    have hW := hW0 rfl
    clear hW0 hN0 hL0
    unfold x_frag_Feed r_frag_Feed
    with_reducible refine auC ?_
    repeat' (first
      | (with_reducible refine auS ?_)
      | (first | ((with_reducible refine atCall 9 ?_); (refine runR_callG [] [6] [6] rfl (by decide) rfl rfl hown ?_)) | ((with_reducible refine atCall 6 ?_); (refine runR_callL [6] (by decide) rfl rfl (hchk _) ?_)) | (with_reducible refine runR_call hw ?_) | (with_reducible refine runR_call href ?_))
      | (with_reducible refine auD ?_)
      | ((with_reducible refine auB ?_ ?_); all_goals first | ((with_reducible intro h); first | exact auH | simp only [h, runR_t, runR_f] | skip) | skip)
      | fail)
    (all_goals first | exact auP | skip)
    all_goals refine retq_le (leG_freeze hW ⟨.d0, .d0, .d4⟩ rfl rfl ⟨rfl, rfl, by simp⟩) ?_
    all_goals rw [xall (by simp)]
    all_goals with_reducible refine auF ?_
    all_goals (try first | with_reducible refine auR ?_ | exact auR0)
    all_goals (try simp only [hsM] at *)
    all_goals rfl
end Go.Proofs.Ytidogmmfakcfgaa
