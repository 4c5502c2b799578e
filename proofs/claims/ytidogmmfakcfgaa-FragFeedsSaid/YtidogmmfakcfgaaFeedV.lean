/-
  Feed: no heap is found: a new one, and the part is the first.
-/
import Derived.Test.YtidogmmfakcfgaaFeedN
namespace Go.Proofs.Ytidogmmfakcfgaa
set_option linter.unusedVariables false
set_option linter.unusedSimpArgs false
set_option maxHeartbeats 4000000 in
theorem feed_new0 (l : List Hp) (p : Pk) (hh : FeedNo l p) (hst0 : p.start = 0) : Spec Try.prog 4 [dPool l, dP p] (dFd (lessP l ++ [⟨p.fr, p.to, p.proto, p.id, p.tos, p.life, p.opt, [newPt p]⟩], pk0, false, 0)) := by
  by_cases hl16 : l.length = 16
  · skip
    have hless : lessP l = l.drop 1 := if_pos hl16
    have hdel := fun n => hpdelete_spec 6 l 0 1 (by omega) (by omega) hh.inp.rm.1.1 n
    have hcut : l.take 0 ++ l.drop 1 = l.drop 1 := rfl
    simp only [hcut] at hdel
    have hl1 : (l.drop 1).length ≤ 15 := by rw [List.length_drop]; omega
    rw [hless]
    generalize l.drop 1 = l1 at *
    have hwh := whole_spec (⟨p.fr, p.to, p.proto, p.id, p.tos, p.life, p.opt, [newPt p]⟩ : Hp) (by simp) (chR_mk hh.pt (ptOk_fact hh.pt).2.1 (fun _ => rfl) rfl) (by simp)
    have hin := hh.inp
    have h16 := (poolErr_ok hh.he).1
    have hown := own_frz 6 l hin.rm
    have hchk := fun n => giveB (k := 6) (n := n) rfl hin.chk
    have hidx := fun n => giveB (k := 6) (n := n) rfl (idx_spec l hin.rm.1.1 p.fr p.to p.proto p.id)
    have hw := hin.wr
    have hpw : pW p = (pTxtF p (fl p), 0) := by unfold pW; rw [if_pos hh.hp]
    have href := frefused_spec p hh.hp
    rw [hh.he] at hchk
    rw [hh.hf] at hidx
    rw [hpw] at hw
    rw [hh.hr] at href
    have hput := putN_new (l1 := l1) (fr := p.fr) (to := p.to) (pr := p.proto) (id := p.id) hh.pt hin.hd
    have hwh0 := whole_one (newPt p) (fun q => by
      have h1 : p.start = 0 := by
        have : 8 * p.start = 0 := q
        omega
      show (!p.mo) = false
      cases hmo : p.mo with
      | false => exact absurd ⟨hmo, h1⟩ hh.hm
      | true => rfl)
    have hil : l1.length < (l1 ++ [keyK p.fr p.to p.proto p.id]).length := by simp
    have hget := fun (u : Hp) (d : DV) (k : Nat) => rowsO_get hil u d k
    have hrl := fun (u : Hp) (d : DV) => rowsO_len (l1 ++ [keyK p.fr p.to p.proto p.id]) l1.length u d (l1.length + 1) (Nat.lt_succ_self _) (by simp)
    have hm := hh.hm
    have hst := (pErr_ok hh.hp).1.2.2.2.2.1
    have hwst : IntKind.i64.wrap (8 * p.start) = 8 * p.start := IntWalk.i64_in _ (by omega)
    have hones : ∀ r : List Hp, allOnes (r.map Hp.enc) = true := allOnes_map (fun x => rfl)
    generalize pTxtF p (fl p) = T at *
    skip
    rw [hwh0] at hwh
    generalize hL : [newPt p] = L at *
    clear hL
    have hlr : (rowsO (l1 ++ [keyK p.fr p.to p.proto p.id]) l1.length (keyK p.fr p.to p.proto p.id) (dPs L) (l1.length + 1)).length = l1.length + 1 := hrl _ _
    have hrow : xset (rowsO (l1 ++ [keyK p.fr p.to p.proto p.id]) l1.length (keyK p.fr p.to p.proto p.id) (dPs L) (l1.length + 1)) l1.length [.v (.int .u32 p.fr), .v (.int .u32 p.to), .v (.int .i64 p.proto), .v (.int .i64 p.id), .v (.int .i64 p.tos), .v (.int .i64 p.life), .v (.string (mkS p.opt)), dPs L] = (l1 ++ [(⟨p.fr, p.to, p.proto, p.id, p.tos, p.life, p.opt, L⟩ : Hp)]).map Hp.enc := by
      refine (rowsO_xset hil _ ⟨p.fr, p.to, p.proto, p.id, p.tos, p.life, p.opt, L⟩ _ (dPs L) _).trans ?_
      rw [rowsO_snoc, List.map_append]
      rfl
    have hgx := fun (X : List DV) => xget_xset (rowsO (l1 ++ [keyK p.fr p.to p.proto p.id]) l1.length (keyK p.fr p.to p.proto p.id) (dPs L) (l1.length + 1)) l1.length X (by rw [hlr]; omega)
    have hsx := fun (X Y : List DV) => xset_set (rowsO (l1 ++ [keyK p.fr p.to p.proto p.id]) l1.length (keyK p.fr p.to p.proto p.id) (dPs L) (l1.length + 1)) l1.length X Y
    have hlx : ∀ X, (xset (rowsO (l1 ++ [keyK p.fr p.to p.proto p.id]) l1.length (keyK p.fr p.to p.proto p.id) (dPs L) (l1.length + 1)) l1.length X).length = l1.length + 1 := fun X => by rw [xset_len, hlr]
    clear hlr
    skip
    clear hpw hh hwh0
    generalize (wholeR L).1 = D at *
    obtain ⟨tos, id, wh, mo, start, life, proto, fr, to, opt, data⟩ := p
    dsimp only at *
    subst hst0
    cases mo
    · exact absurd ⟨rfl, rfl⟩ hm
    · skip
      refine hspec_fn Try.func4 rfl ok_frag_Feed okr_frag_Feed rfl (by kernel_rfl) ?_
      intro Γ hW0 hN0 hL0
      have hW := hW0 rfl
      clear hW0 hN0 hL0
      unfold x_frag_Feed r_frag_Feed
      with_reducible refine auC ?_
      repeat' (first
        | (first | ((with_reducible refine atGo ?_); (refine go_leG (leG_freezeP hW ⟨.d0, .d1, .d4⟩ rfl rfl ⟨rfl, rfl, Nat.succ_pos _⟩) ?_)) | ((with_reducible refine atGo ?_); (refine go_newP rfl ?_)) | ((with_reducible refine atGo ?_); (refine go_frzP hW 4 8 (by decide) rfl rfl rfl ?_)))
        | (with_reducible refine auS ?_)
        | (first | ((with_reducible refine atCall 9 ?_); (refine runR_callG [] [6] [6] rfl (by decide) rfl rfl hown ?_)) | ((with_reducible refine atCall 6 ?_); (refine runR_callL [6] (by decide) rfl rfl (hchk _) ?_)) | ((with_reducible refine atCall 12 ?_); (refine runR_callL [6] (by decide) rfl rfl (hidx _) ?_)) | (with_reducible refine runR_call hw ?_) | (with_reducible refine runR_call href ?_) | simp only [hwst, hget, List.length_map, Int.toNat_natCast, Nat.zero_add, if_true] | ((with_reducible refine atCall 16 ?_); (refine runR_callG [4, 7] [8] [4, 7, 8] rfl (by decide) rfl rfl (hput _ _) ?_)) | (first | (with_reducible refine runR_call hwh ?_) | simp only [hgx, hsx] | (refine runR_n ⟨by (simp only [hlx]; omega), by trivial⟩ ?_) | ((with_reducible refine atCall 15 ?_); (refine runR_callL [6] (by decide) rfl rfl (hdel _) ?_))))
        | (with_reducible refine auD ?_)
        | ((with_reducible refine auB ?_ ?_); all_goals first | ((with_reducible intro h); first | exact auH | simp only [h, runR_t, runR_f] | skip) | skip)
        | (first | (refine runR_n ⟨by (simp only [hrl]; omega), by trivial⟩ ?_) | (refine runR_n ⟨by rfl, by (unfold room maxLen; simp only [List.length_map, List.length_cons, List.length_nil]; omega)⟩ ?_) | fail))
      (all_goals first | exact auP | skip)
      refine retq_le (leG_freeze hW ⟨.d0, .d0, .d4⟩ rfl rfl ⟨rfl, rfl, by (dsimp only; rw [hlx]; omega)⟩) ?_
      dsimp only
      rw [hrow, xall (by simp)]
      all_goals with_reducible refine auF ?_
      all_goals (try first | with_reducible refine auR ?_ | exact auR0)
      all_goals (try simp only [hsM] at *)
      all_goals rfl
  · skip
    have hless : lessP l = l := if_neg hl16
    rw [hless]
    have hl1 : l.length ≤ 15 := by have := (poolErr_ok hh.he).1; omega
    obtain ⟨l1, hl1e⟩ : ∃ l1, l1 = l := ⟨_, rfl⟩
    have hwh := whole_spec (⟨p.fr, p.to, p.proto, p.id, p.tos, p.life, p.opt, [newPt p]⟩ : Hp) (by simp) (chR_mk hh.pt (ptOk_fact hh.pt).2.1 (fun _ => rfl) rfl) (by simp)
    have hin := hh.inp
    have h16 := (poolErr_ok hh.he).1
    have hown := own_frz 6 l hin.rm
    have hchk := fun n => giveB (k := 6) (n := n) rfl hin.chk
    have hidx := fun n => giveB (k := 6) (n := n) rfl (idx_spec l hin.rm.1.1 p.fr p.to p.proto p.id)
    have hw := hin.wr
    have hpw : pW p = (pTxtF p (fl p), 0) := by unfold pW; rw [if_pos hh.hp]
    have href := frefused_spec p hh.hp
    rw [hh.he] at hchk
    rw [hh.hf] at hidx
    rw [hpw] at hw
    rw [hh.hr] at href
    have hput := putN_new (l1 := l1) (fr := p.fr) (to := p.to) (pr := p.proto) (id := p.id) hh.pt hin.hd
    have hwh0 := whole_one (newPt p) (fun q => by
      have h1 : p.start = 0 := by
        have : 8 * p.start = 0 := q
        omega
      show (!p.mo) = false
      cases hmo : p.mo with
      | false => exact absurd ⟨hmo, h1⟩ hh.hm
      | true => rfl)
    have hil : l1.length < (l1 ++ [keyK p.fr p.to p.proto p.id]).length := by simp
    have hget := fun (u : Hp) (d : DV) (k : Nat) => rowsO_get hil u d k
    have hrl := fun (u : Hp) (d : DV) => rowsO_len (l1 ++ [keyK p.fr p.to p.proto p.id]) l1.length u d (l1.length + 1) (Nat.lt_succ_self _) (by simp)
    have hm := hh.hm
    have hst := (pErr_ok hh.hp).1.2.2.2.2.1
    have hwst : IntKind.i64.wrap (8 * p.start) = 8 * p.start := IntWalk.i64_in _ (by omega)
    have hones : ∀ r : List Hp, allOnes (r.map Hp.enc) = true := allOnes_map (fun x => rfl)
    generalize pTxtF p (fl p) = T at *
    skip
    rw [hwh0] at hwh
    generalize hL : [newPt p] = L at *
    clear hL
    have hlr : (rowsO (l1 ++ [keyK p.fr p.to p.proto p.id]) l1.length (keyK p.fr p.to p.proto p.id) (dPs L) (l1.length + 1)).length = l1.length + 1 := hrl _ _
    have hrow : xset (rowsO (l1 ++ [keyK p.fr p.to p.proto p.id]) l1.length (keyK p.fr p.to p.proto p.id) (dPs L) (l1.length + 1)) l1.length [.v (.int .u32 p.fr), .v (.int .u32 p.to), .v (.int .i64 p.proto), .v (.int .i64 p.id), .v (.int .i64 p.tos), .v (.int .i64 p.life), .v (.string (mkS p.opt)), dPs L] = (l1 ++ [(⟨p.fr, p.to, p.proto, p.id, p.tos, p.life, p.opt, L⟩ : Hp)]).map Hp.enc := by
      refine (rowsO_xset hil _ ⟨p.fr, p.to, p.proto, p.id, p.tos, p.life, p.opt, L⟩ _ (dPs L) _).trans ?_
      rw [rowsO_snoc, List.map_append]
      rfl
    have hgx := fun (X : List DV) => xget_xset (rowsO (l1 ++ [keyK p.fr p.to p.proto p.id]) l1.length (keyK p.fr p.to p.proto p.id) (dPs L) (l1.length + 1)) l1.length X (by rw [hlr]; omega)
    have hsx := fun (X Y : List DV) => xset_set (rowsO (l1 ++ [keyK p.fr p.to p.proto p.id]) l1.length (keyK p.fr p.to p.proto p.id) (dPs L) (l1.length + 1)) l1.length X Y
    have hlx : ∀ X, (xset (rowsO (l1 ++ [keyK p.fr p.to p.proto p.id]) l1.length (keyK p.fr p.to p.proto p.id) (dPs L) (l1.length + 1)) l1.length X).length = l1.length + 1 := fun X => by rw [xset_len, hlr]
    clear hlr
    subst hl1e
    clear hpw hh hwh0
    generalize (wholeR L).1 = D at *
    obtain ⟨tos, id, wh, mo, start, life, proto, fr, to, opt, data⟩ := p
    dsimp only at *
    subst hst0
    cases mo
    · exact absurd ⟨rfl, rfl⟩ hm
    · skip
      refine hspec_fn Try.func4 rfl ok_frag_Feed okr_frag_Feed rfl (by kernel_rfl) ?_
      intro Γ hW0 hN0 hL0
      have hW := hW0 rfl
      clear hW0 hN0 hL0
      unfold x_frag_Feed r_frag_Feed
      with_reducible refine auC ?_
      repeat' (first
        | (first | ((with_reducible refine atGo ?_); (refine go_leG (leG_freezeP hW ⟨.d0, .d1, .d4⟩ rfl rfl ⟨rfl, rfl, Nat.succ_pos _⟩) ?_)) | ((with_reducible refine atGo ?_); (refine go_newP rfl ?_)) | ((with_reducible refine atGo ?_); (refine go_frzP hW 4 8 (by decide) rfl rfl rfl ?_)))
        | (with_reducible refine auS ?_)
        | (first | ((with_reducible refine atCall 9 ?_); (refine runR_callG [] [6] [6] rfl (by decide) rfl rfl hown ?_)) | ((with_reducible refine atCall 6 ?_); (refine runR_callL [6] (by decide) rfl rfl (hchk _) ?_)) | ((with_reducible refine atCall 12 ?_); (refine runR_callL [6] (by decide) rfl rfl (hidx _) ?_)) | (with_reducible refine runR_call hw ?_) | (with_reducible refine runR_call href ?_) | simp only [hwst, hget, List.length_map, Int.toNat_natCast, Nat.zero_add, if_true] | ((with_reducible refine atCall 16 ?_); (refine runR_callG [4, 7] [8] [4, 7, 8] rfl (by decide) rfl rfl (hput _ _) ?_)) | (first | (with_reducible refine runR_call hwh ?_) | simp only [hgx, hsx] | (refine runR_n ⟨by (simp only [hlx]; omega), by trivial⟩ ?_)))
        | (with_reducible refine auD ?_)
        | ((with_reducible refine auB ?_ ?_); all_goals first | ((with_reducible intro h); first | exact auH | simp only [h, runR_t, runR_f] | skip) | skip)
        | (first | (refine runR_n ⟨by (simp only [hrl]; omega), by trivial⟩ ?_) | (refine runR_n ⟨by rfl, by (unfold room maxLen; simp only [List.length_map, List.length_cons, List.length_nil]; omega)⟩ ?_) | fail))
      (all_goals first | exact auP | skip)
      refine retq_le (leG_freeze hW ⟨.d0, .d0, .d4⟩ rfl rfl ⟨rfl, rfl, by (dsimp only; rw [hlx]; omega)⟩) ?_
      dsimp only
      rw [hrow, xall (by simp)]
      all_goals with_reducible refine auF ?_
      all_goals (try first | with_reducible refine auR ?_ | exact auR0)
      all_goals (try simp only [hsM] at *)
      all_goals rfl
end Go.Proofs.Ytidogmmfakcfgaa
