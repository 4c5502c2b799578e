/-
  The reference: a heap is found; the part is there already, or does not go with those that are, or there is no room.
-/
import Derived.Test.YtidogmmfakcfgaaFeedW
namespace Go.Proofs.Ytidogmmfakcfgaa
set_option linter.unusedVariables false
set_option linter.unusedSimpArgs false
theorem rfidx_spec (l : List Hp) (hl : l.length ≤ maxLen) (p : Pk) : Spec Try.prog 12 [dPool l, .fn (.func 19) [] [.rptr p.enc]] (.v (.int .i64 (firstI (fun h => sameK h (keyK p.fr p.to p.proto p.id)) l 0))) :=
  hpindexf_spec (g := 19) (caps := [.rptr p.enc]) (fun h => sameK h (keyK p.fr p.to p.proto p.id)) l false hl (fun t _ => fed1_spec t p)
set_option maxHeartbeats 4000000 in
theorem fed_dup (l : List Hp) (p : Pk) (i : Nat) (u : Hp) (hh : FeedAt l p i u) (hs : scanR (newPt p) u.ps = some true) : Spec Try.prog 5 [dPool l, dP p] (dFd (l, pk0, false, 0)) := by
  have hmem : newPt p ∈ u.ps := by
    unfold scanR at hs
    split at hs
    · rename_i h; exact h
    · split at hs <;> cases hs
  have hin := hh.inp
  have hil := (List.getElem?_eq_some_iff.1 hh.hi).1
  have h16 := (poolErr_ok hh.he).1
  have hui := List.mem_of_getElem? hh.hi
  have h64 := (poolErr_ok hh.he).2.1 u hui
  have hch := (poolErr_get hh.he hh.hi).1
  have hud := (hin.sm u hui).2
  have hchk := hin.rr
  have hw := hin.pt
  have hidx := rfidx_spec l hin.rm.1.1 p
  have hpw : pW p = (pTxtF p (fl p), 0) := by unfold pW; rw [if_pos hh.hp]
  rw [hh.he] at hchk
  rw [hh.hf] at hidx
  rw [hpw] at hw
  have hwo := without_spec l i hil hin.rm.1
  have hcp := fun c => containsP_spec u.ps (newPt p) c (by unfold maxLen; omega)
  have exi := xget_map Hp.enc l i u hh.hi
  have hpt := hh.pt
  have hr := hh.hr
  have hm := hh.hm
  obtain ⟨⟨-, -, -, -, hst, ho40, ho4⟩, hform, hdl⟩ := pErr_ok hh.hp
  have w1 : IntKind.i64.wrap (8 * p.start) = 8 * p.start := IntWalk.i64_in _ (by omega)
  have w2 : IntKind.i64.wrap (8 * p.start + (p.data.length : Nat)) = 8 * p.start + (p.data.length : Nat) := IntWalk.i64_in _ (by omega)
  have hm2 := len_mod8 p.data.length
  have hnil : (mkS p.data = { data := #[] }) = (p.data = []) := propext (mkS_nil p.data)
  have hpo := ptOk_fact hpt
  unfold newPt at hpo
  dsimp only at hpo
  unfold Pt.fin at hpo
  dsimp only at hpo
  have hsb : (mkS p.data = { data := #[] }) = False := by rw [hnil]; exact eq_false hpo.1
  generalize pTxtF p (fl p) = T at *
  rw [decide_eq_true hmem] at hcp; clear hmem hs
  clear hpw hh hnil
  obtain ⟨tos, id, wh, mo, start, life, proto, fr, to, opt, data⟩ := p
  dsimp only at *
  cases mo
  · have hm3 : ¬ start = 0 := fun q => hm ⟨rfl, q⟩
    have hm4 : data.length % 8 = 0 ∨ True := .inr trivial
    refine hspec_fn Try.func5 rfl ok_custref_Fed okr_custref_Fed rfl (by kernel_rfl) ?_
    intro Γ hW0 hN0 hL0
    have hW := hW0 rfl
    clear hW0 hN0 hL0
    unfold x_custref_Fed r_custref_Fed
    with_reducible refine auC ?_
    repeat' (first
      | ((with_reducible refine atGo ?_); (refine go_leG (leG_freezeP hW ⟨.d0, .d0, .d3⟩ rfl rfl ⟨rfl, rfl, Nat.succ_pos _⟩) ?_))
      | (with_reducible refine auS ?_)
      | (first | (with_reducible refine runR_call hchk ?_) | (with_reducible refine runR_call hw ?_) | (with_reducible refine runR_call hidx ?_) | (refine atCall 22 (runR_call (hcp _) ?_)) | (with_reducible refine runR_call hwo ?_) | simp only [mkS_size] | simp only [w1, w2, hsb, hm2, decide_false, Int.toNat_natCast, Nat.zero_add, exi] | simp only [decide_true])
      | (with_reducible refine auD ?_)
      | ((with_reducible refine auB ?_ ?_); all_goals first | ((with_reducible intro h); first | exact auH | simp only [h, runR_t, runR_f] | skip) | skip)
      | (first | fail | fail))
    (all_goals first | exact auP | skip)
    all_goals with_reducible refine auF ?_
    all_goals (try first | with_reducible refine auR ?_ | exact auR0)
    all_goals (try simp only [hsM] at *)
    all_goals rfl
  · have hm5 := hpo.2.2.2.2.2 rfl
    refine hspec_fn Try.func5 rfl ok_custref_Fed okr_custref_Fed rfl (by kernel_rfl) ?_
    intro Γ hW0 hN0 hL0
    have hW := hW0 rfl
    clear hW0 hN0 hL0
    unfold x_custref_Fed r_custref_Fed
    with_reducible refine auC ?_
    repeat' (first
      | ((with_reducible refine atGo ?_); (refine go_leG (leG_freezeP hW ⟨.d0, .d0, .d3⟩ rfl rfl ⟨rfl, rfl, Nat.succ_pos _⟩) ?_))
      | (with_reducible refine auS ?_)
      | (first | (with_reducible refine runR_call hchk ?_) | (with_reducible refine runR_call hw ?_) | (with_reducible refine runR_call hidx ?_) | (refine atCall 22 (runR_call (hcp _) ?_)) | (with_reducible refine runR_call hwo ?_) | simp only [mkS_size] | simp only [w1, w2, hsb, hm2, decide_false, Int.toNat_natCast, Nat.zero_add, exi] | simp only [decide_true])
      | (with_reducible refine auD ?_)
      | ((with_reducible refine auB ?_ ?_); all_goals first | ((with_reducible intro h); first | exact auH | simp only [h, runR_t, runR_f] | skip) | skip)
      | (first | fail | fail))
    (all_goals first | exact auP | skip)
    all_goals with_reducible refine auF ?_
    all_goals (try first | with_reducible refine auR ?_ | exact auR0)
    all_goals (try simp only [hsM] at *)
    all_goals rfl
end Go.Proofs.Ytidogmmfakcfgaa
