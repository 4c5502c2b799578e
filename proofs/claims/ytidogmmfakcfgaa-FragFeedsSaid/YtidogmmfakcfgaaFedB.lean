/-
  The reference: a heap is found; the part does not go with those that are, or there is no room.
-/
import Derived.Test.YtidogmmfakcfgaaFedA
namespace Go.Proofs.Ytidogmmfakcfgaa
set_option linter.unusedVariables false
set_option linter.unusedSimpArgs false
set_option maxHeartbeats 4000000 in
theorem fed_clash (l : List Hp) (p : Pk) (i : Nat) (u : Hp) (hh : FeedAt l p i u) (hs : scanR (newPt p) u.ps = some false) : Spec Try.prog 5 [dPool l, dP p] (dFd (cutL l i, pk0, false, 8)) := by
  have hmem : ¬ newPt p ∈ u.ps ∧ u.ps.any (clash (newPt p)) = true := by
    unfold scanR at hs
    split at hs
    · cases hs
    · rename_i h
      split at hs
      · rename_i h2
        exact ⟨h, h2⟩
      · cases hs
  have hin := hh.inp
  have hil := (List.getElem?_eq_some_iff.1 hh.hi).1
  have h16 := (poolErr_ok hh.he).1
  have hui := List.mem_of_getElem? hh.hi
  have h64 := (poolErr_ok hh.he).2.1 u hui
  have hch := (poolErr_get hh.he hh.hi).1
  have hud := (hin.sm u hui).2
  have hchk := hin.rr
  have hw := hin.pt
  have hidx := rfidx_spec l hin.rm.1.1 p
  have hpw : pW p = (pTxtF p (fl p), 0) := by unfold pW; rw [if_pos hh.hp]
  rw [hh.he] at hchk
  rw [hh.hf] at hidx
  rw [hpw] at hw
  have hwo := without_spec l i hil hin.rm.1
  have hcp := fun c => containsP_spec u.ps (newPt p) c (by unfold maxLen; omega)
  have exi := xget_map Hp.enc l i u hh.hi
  have hpt := hh.pt
  have hr := hh.hr
  have hm := hh.hm
  obtain ⟨⟨-, -, -, -, hst, ho40, ho4⟩, hform, hdl⟩ := pErr_ok hh.hp
  have w1 : IntKind.i64.wrap (8 * p.start) = 8 * p.start := IntWalk.i64_in _ (by omega)
  have w2 : IntKind.i64.wrap (8 * p.start + (p.data.length : Nat)) = 8 * p.start + (p.data.length : Nat) := IntWalk.i64_in _ (by omega)
  have hm2 := len_mod8 p.data.length
  have hnil : (mkS p.data = { data := #[] }) = (p.data = []) := propext (mkS_nil p.data)
  have hpo := ptOk_fact hpt
  unfold newPt at hpo
  dsimp only at hpo
  unfold Pt.fin at hpo
  dsimp only at hpo
  have hsb : (mkS p.data = { data := #[] }) = False := by rw [hnil]; exact eq_false hpo.1
  generalize pTxtF p (fl p) = T at *
  rw [decide_eq_false hmem.1] at hcp; clear hs; generalize cutL l i = C at *
  clear hpw hh hnil
  obtain ⟨tos, id, wh, mo, start, life, proto, fr, to, opt, data⟩ := p
  dsimp only at *
  have hany := hmem.2
  clear hmem
  obtain ⟨rr, hrr'⟩ : ∃ rr, rr = true := ⟨_, rfl⟩
  rw [← hrr'] at hany
  unfold newPt at hany hcp
  dsimp only at hany hcp
  obtain ⟨ufr, uto, upr, uid, utos, ulife, uopt, ups⟩ := u
  dsimp only at *
  cases mo
  · have hm3 : ¬ start = 0 := fun q => hm ⟨rfl, q⟩
    refine hspec_fn Try.func5 rfl ok_custref_Fed okr_custref_Fed rfl (by kernel_rfl) ?_
    intro Γ hW0 hN0 hL0
    have hW := hW0 rfl
    clear hW0 hN0 hL0
    unfold x_custref_Fed r_custref_Fed
    with_reducible refine auC ?_
    repeat' (first
      | ((with_reducible refine atGo ?_); (refine go_leG (leG_freezeP hW ⟨.d0, .d0, .d3⟩ rfl rfl ⟨rfl, rfl, Nat.succ_pos _⟩) ?_))
      | (with_reducible refine auS ?_)
      | (first | (with_reducible refine runR_call hchk ?_) | (with_reducible refine runR_call hw ?_) | (with_reducible refine runR_call hidx ?_) | (refine atCall 22 (runR_call (hcp _) ?_)) | (with_reducible refine runR_call hwo ?_) | simp only [mkS_size] | simp only [w1, w2, hsb, hm2, decide_false, Int.toNat_natCast, Nat.zero_add, exi] | simp only [decide_false])
      | (with_reducible refine auD ?_)
      | ((with_reducible refine auB ?_ ?_); all_goals first | ((with_reducible intro h); first | exact auH | simp only [h, runR_t, runR_f] | skip) | skip)
      | (first | fail | fail))
    (all_goals first | exact auP | skip)
    refine go_loopH (α := Nat × Nat) (fun a => [(⟨.d1, .d6, .d6⟩, .v (.int .i64 (a.1 : Nat)))]) (fun _ => [(7, none)]) (fun a => a.2) (fun a => ups.length - a.1) (fun a => a.1 ≤ ups.length ∧ (ups.drop a.1).any (clash ⟨8 * start, data, true⟩) = rr) (0, Γ.g0 + 5) ⟨Nat.zero_le _, hany⟩ ?_ ?_
    · skip
      refine le_mk ?_ ?_ (Nat.le_refl _)
      all_goals first | with_reducible refine auE ?_ | exact auE0
      all_goals (repeat' (first | exact trivial | exact rfl | apply And.intro))
    rintro ⟨k, g⟩ ⟨hk, hp⟩
    dsimp only at hk hp ⊢
    with_reducible refine auL ?_
    by_cases hlt : k < ups.length
    · obtain ⟨⟨ta, td, tl⟩, ht⟩ : ∃ t, ups[k]? = some t := ⟨_, List.getElem?_eq_getElem hlt⟩
      have htm := List.mem_of_getElem? ht
      have ext := xget_map Pt.enc ups k ⟨ta, td, tl⟩ ht
      have hto := ptOk_fact (chR_ge hch _ htm).2
      rw [List.drop_eq_getElem_cons hlt, show ups[k] = ⟨ta, td, tl⟩ from Option.some.inj ((List.getElem?_eq_getElem hlt).symm.trans ht), List.any_cons] at hp
      have hcn := clash_no (n := ⟨8 * start, data, true⟩) (o := ⟨ta, td, tl⟩)
      have hcy := clash_yes (n := ⟨8 * start, data, true⟩) (o := ⟨ta, td, tl⟩)
      unfold Pt.fin at hto hcn hcy
      dsimp only at hto hcn hcy
      have wt : IntKind.i64.wrap (ta + (td.length : Nat)) = ta + (td.length : Nat) := IntWalk.i64_in _ (by omega)
      cases hcl : clash ⟨8 * start, data, true⟩ ⟨ta, td, tl⟩ with
      | true =>
        rw [hcl, Bool.true_or] at hp
        first
          | (exfalso; rw [hrr] at hp; cases hp; done)
          | (have hc := hcy hcl
             clear hcn hcy hany hp
             cases tl
             all_goals simp only [Bool.false_eq_true, false_and, true_and, or_false, false_or] at hc
             all_goals
               repeat' (first
                 | (with_reducible refine auS ?_)
                 | (first | (with_reducible refine runR_call hwo ?_) | simp only [mkS_size] | simp only [w2, wt])
                 | (with_reducible refine auD ?_)
                 | ((with_reducible refine auB ?_ ?_); all_goals first | ((with_reducible intro h); first | exact auH | simp only [h, runR_t, runR_f] | skip) | skip)
                 | (first | (simp only [Int.toNat_natCast, ext]) | fail))
               (all_goals first | exact auP | skip)
             all_goals
               all_goals with_reducible refine auF ?_
               all_goals (try first | with_reducible refine auR ?_ | exact auR0)
               all_goals (try simp only [hsM] at *)
             all_goals rfl)
      | false =>
        rw [hcl, Bool.false_or] at hp
        obtain ⟨d1, d2, d3⟩ := hcn hcl
        clear hcn hcy
        cases tl
        all_goals simp only [Bool.false_eq_true, true_implies, false_implies] at d2 d3
        all_goals
          repeat' (first
            | (with_reducible refine auS ?_)
            | (first | (with_reducible refine runR_call hwo ?_) | simp only [mkS_size] | simp only [w2, wt])
            | (with_reducible refine auD ?_)
            | ((with_reducible refine auB ?_ ?_); all_goals first | ((with_reducible intro h); first | exact auH | simp only [h, runR_t, runR_f] | skip) | skip)
            | (first | (simp only [Int.toNat_natCast, ext]) | fail))
          (all_goals first | exact auP | skip)
        all_goals refine nx_loop ⟨(k + 1, g + 1), ⟨hlt, hp⟩, by dsimp only; omega, ?_⟩
        all_goals
          refine le_mk ?_ ?_ (Nat.le_refl _)
          all_goals first | with_reducible refine auE ?_ | exact auE0
          all_goals (repeat' (first | exact trivial | exact rfl | apply And.intro))
        all_goals first
          | exact dint ((IntWalk.i64_in _ (by omega)).trans (by omega))
          | rfl
    obtain rfl : k = ups.length := by omega
    rw [List.drop_length] at hp
    rw [hrr'] at hp
    cases hp
  · have hm5 := hpo.2.2.2.2.2 rfl
    by_cases hm6 : start = 0
    · skip
      refine hspec_fn Try.func5 rfl ok_custref_Fed okr_custref_Fed rfl (by kernel_rfl) ?_
      intro Γ hW0 hN0 hL0
      have hW := hW0 rfl
      clear hW0 hN0 hL0
      unfold x_custref_Fed r_custref_Fed
      with_reducible refine auC ?_
      repeat' (first
        | ((with_reducible refine atGo ?_); (refine go_leG (leG_freezeP hW ⟨.d0, .d0, .d3⟩ rfl rfl ⟨rfl, rfl, Nat.succ_pos _⟩) ?_))
        | (with_reducible refine auS ?_)
        | (first | (with_reducible refine runR_call hchk ?_) | (with_reducible refine runR_call hw ?_) | (with_reducible refine runR_call hidx ?_) | (refine atCall 22 (runR_call (hcp _) ?_)) | (with_reducible refine runR_call hwo ?_) | simp only [mkS_size] | simp only [w1, w2, hsb, hm2, decide_false, Int.toNat_natCast, Nat.zero_add, exi] | simp only [decide_false])
        | (with_reducible refine auD ?_)
        | ((with_reducible refine auB ?_ ?_); all_goals first | ((with_reducible intro h); first | exact auH | simp only [h, runR_t, runR_f] | skip) | skip)
        | (first | fail | fail))
      (all_goals first | exact auP | skip)
      refine go_loopH (α := Nat × Nat) (fun a => [(⟨.d1, .d6, .d6⟩, .v (.int .i64 (a.1 : Nat)))]) (fun _ => [(7, none)]) (fun a => a.2) (fun a => ups.length - a.1) (fun a => a.1 ≤ ups.length ∧ (ups.drop a.1).any (clash ⟨8 * start, data, false⟩) = rr) (0, Γ.g0 + 5) ⟨Nat.zero_le _, hany⟩ ?_ ?_
      · skip
        refine le_mk ?_ ?_ (Nat.le_refl _)
        all_goals first | with_reducible refine auE ?_ | exact auE0
        all_goals (repeat' (first | exact trivial | exact rfl | apply And.intro))
      rintro ⟨k, g⟩ ⟨hk, hp⟩
      dsimp only at hk hp ⊢
      with_reducible refine auL ?_
      by_cases hlt : k < ups.length
      · obtain ⟨⟨ta, td, tl⟩, ht⟩ : ∃ t, ups[k]? = some t := ⟨_, List.getElem?_eq_getElem hlt⟩
        have htm := List.mem_of_getElem? ht
        have ext := xget_map Pt.enc ups k ⟨ta, td, tl⟩ ht
        have hto := ptOk_fact (chR_ge hch _ htm).2
        rw [List.drop_eq_getElem_cons hlt, show ups[k] = ⟨ta, td, tl⟩ from Option.some.inj ((List.getElem?_eq_getElem hlt).symm.trans ht), List.any_cons] at hp
        have hcn := clash_no (n := ⟨8 * start, data, false⟩) (o := ⟨ta, td, tl⟩)
        have hcy := clash_yes (n := ⟨8 * start, data, false⟩) (o := ⟨ta, td, tl⟩)
        unfold Pt.fin at hto hcn hcy
        dsimp only at hto hcn hcy
        have wt : IntKind.i64.wrap (ta + (td.length : Nat)) = ta + (td.length : Nat) := IntWalk.i64_in _ (by omega)
        cases hcl : clash ⟨8 * start, data, false⟩ ⟨ta, td, tl⟩ with
        | true =>
          rw [hcl, Bool.true_or] at hp
          first
            | (exfalso; rw [hrr] at hp; cases hp; done)
            | (have hc := hcy hcl
               clear hcn hcy hany hp
               cases tl
               all_goals simp only [Bool.false_eq_true, false_and, true_and, or_false, false_or] at hc
               all_goals
                 repeat' (first
                   | (with_reducible refine auS ?_)
                   | (first | (with_reducible refine runR_call hwo ?_) | simp only [mkS_size] | simp only [w2, wt])
                   | (with_reducible refine auD ?_)
                   | ((with_reducible refine auB ?_ ?_); all_goals first | ((with_reducible intro h); first | exact auH | simp only [h, runR_t, runR_f] | skip) | skip)
                   | (first | (simp only [Int.toNat_natCast, ext]) | fail))
                 (all_goals first | exact auP | skip)
               all_goals
                 all_goals with_reducible refine auF ?_
                 all_goals (try first | with_reducible refine auR ?_ | exact auR0)
                 all_goals (try simp only [hsM] at *)
               all_goals rfl)
        | false =>
          rw [hcl, Bool.false_or] at hp
          obtain ⟨d1, d2, d3⟩ := hcn hcl
          clear hcn hcy
          cases tl
          all_goals simp only [Bool.false_eq_true, true_implies, false_implies] at d2 d3
          all_goals
            repeat' (first
              | (with_reducible refine auS ?_)
              | (first | (with_reducible refine runR_call hwo ?_) | simp only [mkS_size] | simp only [w2, wt])
              | (with_reducible refine auD ?_)
              | ((with_reducible refine auB ?_ ?_); all_goals first | ((with_reducible intro h); first | exact auH | simp only [h, runR_t, runR_f] | skip) | skip)
              | (first | (simp only [Int.toNat_natCast, ext]) | fail))
            (all_goals first | exact auP | skip)
          all_goals refine nx_loop ⟨(k + 1, g + 1), ⟨hlt, hp⟩, by dsimp only; omega, ?_⟩
          all_goals
            refine le_mk ?_ ?_ (Nat.le_refl _)
            all_goals first | with_reducible refine auE ?_ | exact auE0
            all_goals (repeat' (first | exact trivial | exact rfl | apply And.intro))
          all_goals first
            | exact dint ((IntWalk.i64_in _ (by omega)).trans (by omega))
            | rfl
      obtain rfl : k = ups.length := by omega
      rw [List.drop_length] at hp
      rw [hrr'] at hp
      cases hp
    · skip
      refine hspec_fn Try.func5 rfl ok_custref_Fed okr_custref_Fed rfl (by kernel_rfl) ?_
      intro Γ hW0 hN0 hL0
      have hW := hW0 rfl
      clear hW0 hN0 hL0
      unfold x_custref_Fed r_custref_Fed
      with_reducible refine auC ?_
      repeat' (first
        | ((with_reducible refine atGo ?_); (refine go_leG (leG_freezeP hW ⟨.d0, .d0, .d3⟩ rfl rfl ⟨rfl, rfl, Nat.succ_pos _⟩) ?_))
        | (with_reducible refine auS ?_)
        | (first | (with_reducible refine runR_call hchk ?_) | (with_reducible refine runR_call hw ?_) | (with_reducible refine runR_call hidx ?_) | (refine atCall 22 (runR_call (hcp _) ?_)) | (with_reducible refine runR_call hwo ?_) | simp only [mkS_size] | simp only [w1, w2, hsb, hm2, decide_false, Int.toNat_natCast, Nat.zero_add, exi] | simp only [decide_false])
        | (with_reducible refine auD ?_)
        | ((with_reducible refine auB ?_ ?_); all_goals first | ((with_reducible intro h); first | exact auH | simp only [h, runR_t, runR_f] | skip) | skip)
        | (first | fail | fail))
      (all_goals first | exact auP | skip)
      refine go_loopH (α := Nat × Nat) (fun a => [(⟨.d1, .d6, .d6⟩, .v (.int .i64 (a.1 : Nat)))]) (fun _ => [(7, none)]) (fun a => a.2) (fun a => ups.length - a.1) (fun a => a.1 ≤ ups.length ∧ (ups.drop a.1).any (clash ⟨8 * start, data, false⟩) = rr) (0, Γ.g0 + 5) ⟨Nat.zero_le _, hany⟩ ?_ ?_
      · skip
        refine le_mk ?_ ?_ (Nat.le_refl _)
        all_goals first | with_reducible refine auE ?_ | exact auE0
        all_goals (repeat' (first | exact trivial | exact rfl | apply And.intro))
      rintro ⟨k, g⟩ ⟨hk, hp⟩
      dsimp only at hk hp ⊢
      with_reducible refine auL ?_
      by_cases hlt : k < ups.length
      · obtain ⟨⟨ta, td, tl⟩, ht⟩ : ∃ t, ups[k]? = some t := ⟨_, List.getElem?_eq_getElem hlt⟩
        have htm := List.mem_of_getElem? ht
        have ext := xget_map Pt.enc ups k ⟨ta, td, tl⟩ ht
        have hto := ptOk_fact (chR_ge hch _ htm).2
        rw [List.drop_eq_getElem_cons hlt, show ups[k] = ⟨ta, td, tl⟩ from Option.some.inj ((List.getElem?_eq_getElem hlt).symm.trans ht), List.any_cons] at hp
        have hcn := clash_no (n := ⟨8 * start, data, false⟩) (o := ⟨ta, td, tl⟩)
        have hcy := clash_yes (n := ⟨8 * start, data, false⟩) (o := ⟨ta, td, tl⟩)
        unfold Pt.fin at hto hcn hcy
        dsimp only at hto hcn hcy
        have wt : IntKind.i64.wrap (ta + (td.length : Nat)) = ta + (td.length : Nat) := IntWalk.i64_in _ (by omega)
        cases hcl : clash ⟨8 * start, data, false⟩ ⟨ta, td, tl⟩ with
        | true =>
          rw [hcl, Bool.true_or] at hp
          first
            | (exfalso; rw [hrr] at hp; cases hp; done)
            | (have hc := hcy hcl
               clear hcn hcy hany hp
               cases tl
               all_goals simp only [Bool.false_eq_true, false_and, true_and, or_false, false_or] at hc
               all_goals
                 repeat' (first
                   | (with_reducible refine auS ?_)
                   | (first | (with_reducible refine runR_call hwo ?_) | simp only [mkS_size] | simp only [w2, wt])
                   | (with_reducible refine auD ?_)
                   | ((with_reducible refine auB ?_ ?_); all_goals first | ((with_reducible intro h); first | exact auH | simp only [h, runR_t, runR_f] | skip) | skip)
                   | (first | (simp only [Int.toNat_natCast, ext]) | fail))
                 (all_goals first | exact auP | skip)
               all_goals
                 all_goals with_reducible refine auF ?_
                 all_goals (try first | with_reducible refine auR ?_ | exact auR0)
                 all_goals (try simp only [hsM] at *)
               all_goals rfl)
        | false =>
          rw [hcl, Bool.false_or] at hp
          obtain ⟨d1, d2, d3⟩ := hcn hcl
          clear hcn hcy
          cases tl
          all_goals simp only [Bool.false_eq_true, true_implies, false_implies] at d2 d3
          all_goals
            repeat' (first
              | (with_reducible refine auS ?_)
              | (first | (with_reducible refine runR_call hwo ?_) | simp only [mkS_size] | simp only [w2, wt])
              | (with_reducible refine auD ?_)
              | ((with_reducible refine auB ?_ ?_); all_goals first | ((with_reducible intro h); first | exact auH | simp only [h, runR_t, runR_f] | skip) | skip)
              | (first | (simp only [Int.toNat_natCast, ext]) | fail))
            (all_goals first | exact auP | skip)
          all_goals refine nx_loop ⟨(k + 1, g + 1), ⟨hlt, hp⟩, by dsimp only; omega, ?_⟩
          all_goals
            refine le_mk ?_ ?_ (Nat.le_refl _)
            all_goals first | with_reducible refine auE ?_ | exact auE0
            all_goals (repeat' (first | exact trivial | exact rfl | apply And.intro))
          all_goals first
            | exact dint ((IntWalk.i64_in _ (by omega)).trans (by omega))
            | rfl
      obtain rfl : k = ups.length := by omega
      rw [List.drop_length] at hp
      rw [hrr'] at hp
      cases hp
end Go.Proofs.Ytidogmmfakcfgaa
