/-
  The reference: a pool without one heap; what is not put into a heap.
-/
import Derived.Test.YtidogmmfakcfgaaFeedV
import Derived.Test.YtidogmmfakcfgaaFeedR
import Derived.Test.YtidogmmfakcfgaaFeedX
namespace Go.Proofs.Ytidogmmfakcfgaa
set_option linter.unusedVariables false
set_option linter.unusedSimpArgs false
theorem without_spec (l : List Hp) (i : Nat) (hi : i < l.length) (hr : room l.length 80) : Spec Try.prog 20 [dPool l, .v (.int .i64 (i : Nat))] (dPool (cutL l i)) := by
  have hr' := hr
  unfold room maxLen at hr'
  have hones : ∀ r : List Hp, allOnes (r.map Hp.enc) = true := allOnes_map (fun x => rfl)
  have hw1 : IntKind.i64.wrap ((i : Int) + 1) = ((i + 1 : Nat) : Int) := (IntWalk.i64_in _ (by omega)).trans (by omega)
  have hxt : xtake (xdrop (l.map Hp.enc) 0) ((i : Int) - 0).toNat = (l.take i).map Hp.enc := by
    rw [xtake_eq, xdrop_eq, List.drop_zero, List.map_take]
    congr 1
  have hxd : xtake (xdrop (l.map Hp.enc) ((i + 1 : Nat) : Int).toNat) (((l.map Hp.enc).length : Int) - ((i + 1 : Nat) : Int)).toNat = (l.drop (i + 1)).map Hp.enc := by
    rw [xtake_eq, xdrop_eq, Int.toNat_natCast, List.map_drop, List.take_of_length_le (by rw [List.length_drop, List.length_map]; omega)]
  have htl : (l.take i).length = i := by rw [List.length_take]; omega
  have hdl : ((l.drop (i + 1)).map Hp.enc).length = l.length - (i + 1) := by rw [List.length_map, List.length_drop]
  have hco := fun c => hpclone_spec 5 (l.take i) c ⟨by rw [htl]; unfold maxLen; omega, by rw [htl]; omega⟩
  have hlm : (l.map Hp.enc).length = l.length := List.length_map _
  have hil : (i + 1 : Nat) ≤ l.length := hi
  refine hspec_fn Try.func20 rfl ok_custref_without okr_custref_without rfl (by kernel_rfl) ?_
  intro Γ hW0 hN0 hL0
  have hW := hW0 rfl
  clear hW0 hN0 hL0
  unfold x_custref_without r_custref_without
  with_reducible refine auC ?_
  repeat' (first
    | (with_reducible refine auS ?_)
    | (first | simp only [hxt] | simp only [hw1] | simp only [hxd] | (with_reducible refine runR_callO 5 (hco _) ?_))
    | (with_reducible refine auD ?_)
    | ((with_reducible refine auB ?_ ?_); all_goals first | ((with_reducible intro h); first | exact auH | simp only [h, runR_t, runR_f] | skip) | skip)
    | (first | (refine runR_n ⟨by trivial, by trivial, by trivial, by trivial, by simp⟩ ?_) | (refine runR_n ⟨hones _, by (unfold room maxLen; rw [hdl, List.length_map, htl]; omega)⟩ ?_) | fail))
  (all_goals first | exact auP | skip)
  refine retq_le (leG_freeze hW ⟨.d0, .d0, .d4⟩ rfl rfl ⟨rfl, rfl, by simp⟩) ?_
  dsimp only
  rw [← List.map_append, xall (by simp), show l.take i ++ l.drop (i + 1) = cutL l i from rfl]
  generalize cutL l i = C at *
  all_goals with_reducible refine auF ?_
  all_goals (try first | with_reducible refine auR ?_ | exact auR0)
  all_goals (try simp only [hsM] at *)
theorem fed1_spec (o : Hp) (p : Pk) : Spec Try.prog 19 [dH o, .rptr p.enc] (.v (.bool (sameK o (keyK p.fr p.to p.proto p.id)))) := by
  refine hspec_fn Try.func19 rfl ok_custref_Fed_1 okr_custref_Fed_1 rfl (by kernel_rfl) ?_
  intro Γ hW0 hN0 hL0
  have hW := hW0 rfl
  clear hW0 hN0 hL0
  unfold x_custref_Fed_1 r_custref_Fed_1
  with_reducible refine auC ?_
  repeat' (first
    | (with_reducible refine auS ?_)
    | fail
    | (with_reducible refine auD ?_)
    | ((with_reducible refine auB ?_ ?_); all_goals first | ((with_reducible intro h); first | exact auH | simp only [h, runR_t, runR_f] | skip) | skip)
    | fail)
  (all_goals first | exact auP | skip)
  all_goals with_reducible refine auF ?_
  all_goals (try first | with_reducible refine auR ?_ | exact auR0)
  all_goals (try simp only [hsM] at *)
  all_goals
    refine dbool ?_
    unfold sameK
    simp [*]
theorem FeedIn.rr {l : List Hp} {p : Pk} (h : FeedIn l p) : Spec Try.prog 7 [dPool l] (.v (.int .i64 (poolErr l))) := poolright_spec l h.rm.1.1 (fun u hu => (h.rm.2 u hu).1) h.sm
theorem FeedIn.pt {l : List Hp} {p : Pk} (h : FeedIn l p) : Spec Try.prog 18 [dP p] (dSI (pW p)) := packetText_spec p h.ho h.hd h.hfr h.hto
theorem fed_bad (l : List Hp) (p : Pk) (hin : FeedIn l p) (he : poolErr l ≠ 0) : Spec Try.prog 5 [dPool l, dP p] (dFd (l, pk0, false, poolErr l)) := by
  have hchk := hin.rr
  have hw := hin.pt
  generalize poolErr l = E at *
  refine hspec_fn Try.func5 rfl ok_custref_Fed okr_custref_Fed rfl (by kernel_rfl) ?_
  intro Γ hW0 hN0 hL0
  have hW := hW0 rfl
  clear hW0 hN0 hL0
  unfold x_custref_Fed r_custref_Fed
  with_reducible refine auC ?_
  repeat' (first
    | (with_reducible refine auS ?_)
    | (first | (with_reducible refine runR_call hchk ?_) | (with_reducible refine runR_call hw ?_) | simp only [mkS_size] | simp only [decide_true])
    | (with_reducible refine auD ?_)
    | ((with_reducible refine auB ?_ ?_); all_goals first | ((with_reducible intro h); first | exact auH | simp only [h, runR_t, runR_f] | skip) | skip)
    | fail)
  (all_goals first | exact auP | skip)
  all_goals with_reducible refine auF ?_
  all_goals (try first | with_reducible refine auR ?_ | exact auR0)
  all_goals (try simp only [hsM] at *)
  all_goals rfl
theorem fed_pk (l : List Hp) (p : Pk) (hin : FeedIn l p) (he : poolErr l = 0) (hp : pErr p ≠ 0) : Spec Try.prog 5 [dPool l, dP p] (dFd (l, pk0, false, pErr p)) := by
  have hpw : pW p = ([], pErr p) := by unfold pW; rw [if_neg hp]
  have hchk := hin.rr
  have hw := hin.pt
  rw [hpw] at hw; rw [he] at hchk; generalize pErr p = E at *
  refine hspec_fn Try.func5 rfl ok_custref_Fed okr_custref_Fed rfl (by kernel_rfl) ?_
  intro Γ hW0 hN0 hL0
  have hW := hW0 rfl
  clear hW0 hN0 hL0
  unfold x_custref_Fed r_custref_Fed
  with_reducible refine auC ?_
  repeat' (first
    | (with_reducible refine auS ?_)
    | (first | (with_reducible refine runR_call hchk ?_) | (with_reducible refine runR_call hw ?_) | simp only [mkS_size] | simp only [decide_true])
    | (with_reducible refine auD ?_)
    | ((with_reducible refine auB ?_ ?_); all_goals first | ((with_reducible intro h); first | exact auH | simp only [h, runR_t, runR_f] | skip) | skip)
    | fail)
  (all_goals first | exact auP | skip)
  all_goals with_reducible refine auF ?_
  all_goals (try first | with_reducible refine auR ?_ | exact auR0)
  all_goals (try simp only [hsM] at *)
  all_goals rfl
theorem fed_one (l : List Hp) (p : Pk) (hin : FeedIn l p) (he : poolErr l = 0) (hp : pErr p = 0) (hm : p.mo = false) (hs : p.start = 0) : Spec Try.prog 5 [dPool l, dP p] (dFd (l, p, true, 0)) := by
  have hpw : pW p = (pTxtF p (fl p), 0) := by unfold pW; rw [if_pos hp]
  obtain ⟨tos, id, wh, mo, start, life, proto, fr, to, opt, data⟩ := p
  dsimp only at hm hs
  subst hm hs
  have hchk := hin.rr
  have hw := hin.pt
  rw [hpw] at hw; rw [he] at hchk; generalize pTxtF _ _ = T at *
  refine hspec_fn Try.func5 rfl ok_custref_Fed okr_custref_Fed rfl (by kernel_rfl) ?_
  intro Γ hW0 hN0 hL0
  have hW := hW0 rfl
  clear hW0 hN0 hL0
  unfold x_custref_Fed r_custref_Fed
  with_reducible refine auC ?_
  repeat' (first
    | (with_reducible refine auS ?_)
    | (first | (with_reducible refine runR_call hchk ?_) | (with_reducible refine runR_call hw ?_) | simp only [mkS_size] | simp only [decide_true])
    | (with_reducible refine auD ?_)
    | ((with_reducible refine auB ?_ ?_); all_goals first | ((with_reducible intro h); first | exact auH | simp only [h, runR_t, runR_f] | skip) | skip)
    | fail)
  (all_goals first | exact auP | skip)
  all_goals with_reducible refine auF ?_
  all_goals (try first | with_reducible refine auR ?_ | exact auR0)
  all_goals (try simp only [hsM] at *)
  all_goals rfl
set_option maxHeartbeats 4000000 in
theorem fed_ref (l : List Hp) (p : Pk) (hin : FeedIn l p) (he : poolErr l = 0) (hp : pErr p = 0) (hm : ¬ (p.mo = false ∧ p.start = 0)) (hr : refE p ≠ 0) : Spec Try.prog 5 [dPool l, dP p] (dFd (l, pk0, false, refE p)) := by
  have hpw : pW p = (pTxtF p (fl p), 0) := by unfold pW; rw [if_pos hp]
  obtain ⟨⟨-, -, -, -, hst, ho40, ho4⟩, hform, hdl⟩ := pErr_ok hp
  have w1 : IntKind.i64.wrap (8 * p.start) = 8 * p.start := IntWalk.i64_in _ (by omega)
  have w2 : IntKind.i64.wrap (8 * p.start + (p.data.length : Nat)) = 8 * p.start + (p.data.length : Nat) := IntWalk.i64_in _ (by omega)
  have hm2 := len_mod8 p.data.length
  have hnil : (mkS p.data = { data := #[] }) = (p.data = []) := propext (mkS_nil p.data)
  unfold refE at hr ⊢
  by_cases h1 : 65515 < 8 * p.start + (p.data.length : Nat)
  · rw [if_pos h1]
    obtain ⟨tos, id, wh, mo, start, life, proto, fr, to, opt, data⟩ := p
    dsimp only at *
    cases mo
    · have hm3 : ¬ start = 0 := fun q => hm ⟨rfl, q⟩
      have hchk := hin.rr
      have hw := hin.pt
      rw [hpw] at hw; rw [he] at hchk; generalize pTxtF _ _ = T at *
      refine hspec_fn Try.func5 rfl ok_custref_Fed okr_custref_Fed rfl (by kernel_rfl) ?_
      intro Γ hW0 hN0 hL0
      have hW := hW0 rfl
      clear hW0 hN0 hL0
      unfold x_custref_Fed r_custref_Fed
      with_reducible refine auC ?_
      repeat' (first
        | (with_reducible refine auS ?_)
        | (first | (with_reducible refine runR_call hchk ?_) | (with_reducible refine runR_call hw ?_) | simp only [mkS_size] | simp only [w1, w2])
        | (with_reducible refine auD ?_)
        | ((with_reducible refine auB ?_ ?_); all_goals first | ((with_reducible intro h); first | exact auH | simp only [h, runR_t, runR_f] | skip) | skip)
        | fail)
      (all_goals first | exact auP | skip)
      all_goals with_reducible refine auF ?_
      all_goals (try first | with_reducible refine auR ?_ | exact auR0)
      all_goals (try simp only [hsM] at *)
      all_goals rfl
    · skip
      have hchk := hin.rr
      have hw := hin.pt
      rw [hpw] at hw; rw [he] at hchk; generalize pTxtF _ _ = T at *
      refine hspec_fn Try.func5 rfl ok_custref_Fed okr_custref_Fed rfl (by kernel_rfl) ?_
      intro Γ hW0 hN0 hL0
      have hW := hW0 rfl
      clear hW0 hN0 hL0
      unfold x_custref_Fed r_custref_Fed
      with_reducible refine auC ?_
      repeat' (first
        | (with_reducible refine auS ?_)
        | (first | (with_reducible refine runR_call hchk ?_) | (with_reducible refine runR_call hw ?_) | simp only [mkS_size] | simp only [w1, w2])
        | (with_reducible refine auD ?_)
        | ((with_reducible refine auB ?_ ?_); all_goals first | ((with_reducible intro h); first | exact auH | simp only [h, runR_t, runR_f] | skip) | skip)
        | fail)
      (all_goals first | exact auP | skip)
      all_goals with_reducible refine auF ?_
      all_goals (try first | with_reducible refine auR ?_ | exact auR0)
      all_goals (try simp only [hsM] at *)
      all_goals rfl
  · rw [if_neg h1] at hr ⊢
    by_cases h2 : p.data = [] ∨ (p.mo = true ∧ p.data.length % 8 ≠ 0)
    · rw [if_pos h2]
      obtain ⟨tos, id, wh, mo, start, life, proto, fr, to, opt, data⟩ := p
      dsimp only at *
      by_cases h3 : data = []
      · have hsb : (mkS data = { data := #[] }) = True := by rw [hnil]; exact eq_true h3
        cases mo
        · have hm3 : ¬ start = 0 := fun q => hm ⟨rfl, q⟩
          have hchk := hin.rr
          have hw := hin.pt
          rw [hpw] at hw; rw [he] at hchk; generalize pTxtF _ _ = T at *
          refine hspec_fn Try.func5 rfl ok_custref_Fed okr_custref_Fed rfl (by kernel_rfl) ?_
          intro Γ hW0 hN0 hL0
          have hW := hW0 rfl
          clear hW0 hN0 hL0
          unfold x_custref_Fed r_custref_Fed
          with_reducible refine auC ?_
          repeat' (first
            | (with_reducible refine auS ?_)
            | (first | (with_reducible refine runR_call hchk ?_) | (with_reducible refine runR_call hw ?_) | simp only [mkS_size] | simp only [w1, w2, hsb, decide_true])
            | (with_reducible refine auD ?_)
            | ((with_reducible refine auB ?_ ?_); all_goals first | ((with_reducible intro h); first | exact auH | simp only [h, runR_t, runR_f] | skip) | skip)
            | fail)
          (all_goals first | exact auP | skip)
          all_goals with_reducible refine auF ?_
          all_goals (try first | with_reducible refine auR ?_ | exact auR0)
          all_goals (try simp only [hsM] at *)
          all_goals rfl
        · skip
          have hchk := hin.rr
          have hw := hin.pt
          rw [hpw] at hw; rw [he] at hchk; generalize pTxtF _ _ = T at *
          refine hspec_fn Try.func5 rfl ok_custref_Fed okr_custref_Fed rfl (by kernel_rfl) ?_
          intro Γ hW0 hN0 hL0
          have hW := hW0 rfl
          clear hW0 hN0 hL0
          unfold x_custref_Fed r_custref_Fed
          with_reducible refine auC ?_
          repeat' (first
            | (with_reducible refine auS ?_)
            | (first | (with_reducible refine runR_call hchk ?_) | (with_reducible refine runR_call hw ?_) | simp only [mkS_size] | simp only [w1, w2, hsb, decide_true])
            | (with_reducible refine auD ?_)
            | ((with_reducible refine auB ?_ ?_); all_goals first | ((with_reducible intro h); first | exact auH | simp only [h, runR_t, runR_f] | skip) | skip)
            | fail)
          (all_goals first | exact auP | skip)
          all_goals with_reducible refine auF ?_
          all_goals (try first | with_reducible refine auR ?_ | exact auR0)
          all_goals (try simp only [hsM] at *)
          all_goals rfl
      · have hsb : (mkS data = { data := #[] }) = False := by rw [hnil]; exact eq_false h3
        obtain ⟨rfl, h4⟩ := h2.resolve_left h3
        have hchk := hin.rr
        have hw := hin.pt
        rw [hpw] at hw; rw [he] at hchk; generalize pTxtF _ _ = T at *
        refine hspec_fn Try.func5 rfl ok_custref_Fed okr_custref_Fed rfl (by kernel_rfl) ?_
        intro Γ hW0 hN0 hL0
        have hW := hW0 rfl
        clear hW0 hN0 hL0
        unfold x_custref_Fed r_custref_Fed
        with_reducible refine auC ?_
        repeat' (first
          | (with_reducible refine auS ?_)
          | (first | (with_reducible refine runR_call hchk ?_) | (with_reducible refine runR_call hw ?_) | simp only [mkS_size] | simp only [w1, w2, hsb, decide_false, hm2])
          | (with_reducible refine auD ?_)
          | ((with_reducible refine auB ?_ ?_); all_goals first | ((with_reducible intro h); first | exact auH | simp only [h, runR_t, runR_f] | skip) | skip)
          | fail)
        (all_goals first | exact auP | skip)
        all_goals with_reducible refine auF ?_
        all_goals (try first | with_reducible refine auR ?_ | exact auR0)
        all_goals (try simp only [hsM] at *)
        all_goals rfl
    · exact absurd (if_neg h2) hr
end Go.Proofs.Ytidogmmfakcfgaa
