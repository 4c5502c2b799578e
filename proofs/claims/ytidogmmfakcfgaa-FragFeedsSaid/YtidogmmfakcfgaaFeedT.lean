/-
  Feed: a heap is found, the part is put into it.
-/
import Derived.Test.YtidogmmfakcfgaaFeedS
namespace Go.Proofs.Ytidogmmfakcfgaa
set_option linter.unusedVariables false
set_option linter.unusedSimpArgs false
theorem cut_set (l : List Hp) (i : Nat) (u : Hp) : cutL (l.set i u) i = cutL l i := by
  unfold cutL
  rw [List.take_set_of_le (Nat.le_refl i), List.drop_set_of_lt (Nat.lt_succ_self i)]
theorem chR_put {l : List Hp} {p : Pk} {i : Nat} {u : Hp} (hh : FeedAt l p i u) (hs : scanR (newPt p) u.ps = none) : chR (insP (newPt p) u.ps) 0 = true :=
  chR_ins (newPt p) hh.pt u.ps 0 (poolErr_get hh.he hh.hi).1 hs (ptOk_fact hh.pt).2.1
theorem putA_new {l : List Hp} {p : Pk} {i : Nat} {u : Hp} (hh : FeedAt l p i u) (hs : scanR (newPt p) u.ps = none) (h64 : u.ps.length < 64) (n m : Nat) :
    MSpec Try.prog 16 [.ptr 6 n 8 i 0, .agg (newPt p).enc] [some ⟨n, 8, rowsO l i u (slP 1 m u.ps) l.length⟩, some ⟨m, 3, u.ps.map Pt.enc⟩] 1 (fun q d H => d = .tup [.v (.bool true), .v (.int .i64 0)] ∧ H = [some ⟨n, 8, rowsO l i u (slP 1 q (insP (newPt p) u.ps)) l.length⟩, none, some ⟨q, 3, (insP (newPt p) u.ps).map Pt.enc⟩]) := by
  have h := put_new n _ i m u (newPt p) (hh.put n m) hs h64
  simp only [rowsO_xset (List.getElem?_eq_some_iff.1 hh.hi).1] at h
  exact mspec_ptr 6 h
set_option maxHeartbeats 4000000 in
theorem feed_upd1 (l : List Hp) (p : Pk) (i : Nat) (u : Hp) (hh : FeedAt l p i u) (hs : scanR (newPt p) u.ps = none) (h64 : u.ps.length < 64) (hst0 : p.start ≠ 0) (hB : (wholeR (insP (newPt p) u.ps)).2 = false) : Spec Try.prog 4 [dPool l, dP p] (dFd (l.set i { u with ps := insP (newPt p) u.ps }, pk0, false, 0)) := by
  have hput := putA_new hh hs h64
  have hwh := whole_spec { u with ps := insP (newPt p) u.ps } (by dsimp only; rw [insP_len]; omega) (chR_put hh hs) (insP_ne _ _)
  dsimp only at hwh
  rw [hB] at hwh
  clear hB hs
  generalize (wholeR (insP (newPt p) u.ps)).1 = D at *
  generalize insP (newPt p) u.ps = L at *
  have hrow : rowsO l i u (dPs L) l.length = (l.set i { u with ps := L }).map Hp.enc := (rowsO_all (List.getElem?_eq_some_iff.1 hh.hi).1 { u with ps := L } : _)
  have hin := hh.inp
  have hil := (List.getElem?_eq_some_iff.1 hh.hi).1
  have h16 := (poolErr_ok hh.he).1
  have hown := own_one 6 1 l hin.rm i u hh.hi
  have hchk := fun n m => giveA (k := 6) (lb := 1) (n := n) (m := m) hh.hi rfl hin.chk
  have hidx := fun n m => giveA (k := 6) (lb := 1) (n := n) (m := m) hh.hi rfl (idx_spec l hin.rm.1.1 p.fr p.to p.proto p.id)
  have hw := hin.wr
  have hpw : pW p = (pTxtF p (fl p), 0) := by unfold pW; rw [if_pos hh.hp]
  have href := frefused_spec p hh.hp
  rw [hh.he] at hchk
  rw [hh.hf] at hidx
  rw [hpw] at hw
  rw [hh.hr] at href
  have hget := fun (u : Hp) (d : DV) (k : Nat) => rowsO_get hil u d k
  have hrl := fun (u : Hp) (d : DV) => rowsO_len l i u d l.length hil (Nat.le_refl _)
  have hw1 : IntKind.i64.wrap ((i : Int) + 1) = ((i + 1 : Nat) : Int) := (IntWalk.i64_in _ (by omega)).trans (by omega)
  have hm := hh.hm
  have hst := (pErr_ok hh.hp).1.2.2.2.2.1
  have hwst : IntKind.i64.wrap (8 * p.start) = 8 * p.start := IntWalk.i64_in _ (by omega)
  generalize pTxtF p (fl p) = T at *
  skip
  clear hpw hh
  obtain ⟨tos, id, wh, mo, start, life, proto, fr, to, opt, data⟩ := p
  dsimp only at *
  cases mo
  · skip
    refine hspec_fn Try.func4 rfl ok_frag_Feed okr_frag_Feed rfl (by kernel_rfl) ?_
    intro Γ hW0 hN0 hL0
    have hW := hW0 rfl
    clear hW0 hN0 hL0
    unfold x_frag_Feed r_frag_Feed
    with_reducible refine auC ?_
    repeat' (first
      | (first | ((with_reducible refine atGo ?_); (refine go_leG (leG_freezeP hW ⟨.d0, .d1, .d4⟩ rfl rfl ⟨rfl, rfl, Nat.succ_pos _⟩) ?_)) | ((with_reducible refine atGo ?_); (refine go_frzP hW 6 8 (by decide) rfl rfl rfl ?_)))
      | (with_reducible refine auS ?_)
      | (first | ((with_reducible refine atCall 9 ?_); (refine runR_callG [] [6, 7] [6, 7] rfl (by decide) rfl rfl hown ?_)) | ((with_reducible refine atCall 6 ?_); (refine runR_callL [6, 7] (by decide) rfl rfl (hchk _ _) ?_)) | ((with_reducible refine atCall 12 ?_); (refine runR_callL [6, 7] (by decide) rfl rfl (hidx _ _) ?_)) | (with_reducible refine runR_call hw ?_) | (with_reducible refine runR_call href ?_) | simp only [hwst, hw1, hget, Int.toNat_natCast, Nat.zero_add, if_true] | ((with_reducible refine atCall 16 ?_); (refine runR_callG [6, 7] [8] [6, 7, 8] rfl (by decide) rfl rfl (hput _ _) ?_)) | (with_reducible refine runR_call hwh ?_))
      | (with_reducible refine auD ?_)
      | ((with_reducible refine auB ?_ ?_); all_goals first | ((with_reducible intro h); first | exact auH | simp only [h, runR_t, runR_f] | skip) | skip)
      | (first | (refine runR_n ⟨by (simp only [hrl]; omega), by trivial⟩ ?_) | fail))
    (all_goals first | exact auP | skip)
    refine retq_le (leG_freeze hW ⟨.d0, .d0, .d4⟩ rfl rfl ⟨rfl, rfl, by (dsimp only; rw [hrl]; omega)⟩) ?_
    dsimp only
    rw [hrow, xall (by simp)]
    all_goals with_reducible refine auF ?_
    all_goals (try first | with_reducible refine auR ?_ | exact auR0)
    all_goals (try simp only [hsM] at *)
    all_goals rfl
  · skip
    refine hspec_fn Try.func4 rfl ok_frag_Feed okr_frag_Feed rfl (by kernel_rfl) ?_
    intro Γ hW0 hN0 hL0
    have hW := hW0 rfl
    clear hW0 hN0 hL0
    unfold x_frag_Feed r_frag_Feed
    with_reducible refine auC ?_
    repeat' (first
      | (first | ((with_reducible refine atGo ?_); (refine go_leG (leG_freezeP hW ⟨.d0, .d1, .d4⟩ rfl rfl ⟨rfl, rfl, Nat.succ_pos _⟩) ?_)) | ((with_reducible refine atGo ?_); (refine go_frzP hW 6 8 (by decide) rfl rfl rfl ?_)))
      | (with_reducible refine auS ?_)
      | (first | ((with_reducible refine atCall 9 ?_); (refine runR_callG [] [6, 7] [6, 7] rfl (by decide) rfl rfl hown ?_)) | ((with_reducible refine atCall 6 ?_); (refine runR_callL [6, 7] (by decide) rfl rfl (hchk _ _) ?_)) | ((with_reducible refine atCall 12 ?_); (refine runR_callL [6, 7] (by decide) rfl rfl (hidx _ _) ?_)) | (with_reducible refine runR_call hw ?_) | (with_reducible refine runR_call href ?_) | simp only [hwst, hw1, hget, Int.toNat_natCast, Nat.zero_add, if_true] | ((with_reducible refine atCall 16 ?_); (refine runR_callG [6, 7] [8] [6, 7, 8] rfl (by decide) rfl rfl (hput _ _) ?_)) | (with_reducible refine runR_call hwh ?_))
      | (with_reducible refine auD ?_)
      | ((with_reducible refine auB ?_ ?_); all_goals first | ((with_reducible intro h); first | exact auH | simp only [h, runR_t, runR_f] | skip) | skip)
      | (first | (refine runR_n ⟨by (simp only [hrl]; omega), by trivial⟩ ?_) | fail))
    (all_goals first | exact auP | skip)
    refine retq_le (leG_freeze hW ⟨.d0, .d0, .d4⟩ rfl rfl ⟨rfl, rfl, by (dsimp only; rw [hrl]; omega)⟩) ?_
    dsimp only
    rw [hrow, xall (by simp)]
    all_goals with_reducible refine auF ?_
    all_goals (try first | with_reducible refine auR ?_ | exact auR0)
    all_goals (try simp only [hsM] at *)
    all_goals rfl
set_option maxHeartbeats 4000000 in
theorem feed_upd0 (l : List Hp) (p : Pk) (i : Nat) (u : Hp) (hh : FeedAt l p i u) (hs : scanR (newPt p) u.ps = none) (h64 : u.ps.length < 64) (hst0 : p.start = 0) (hB : (wholeR (insP (newPt p) u.ps)).2 = false) : Spec Try.prog 4 [dPool l, dP p] (dFd (l.set i { u with ps := insP (newPt p) u.ps, tos := p.tos, life := p.life, opt := p.opt }, pk0, false, 0)) := by
  have hput := putA_new hh hs h64
  have hwh := whole_spec { u with ps := insP (newPt p) u.ps, tos := p.tos, life := p.life, opt := p.opt } (by dsimp only; rw [insP_len]; omega) (chR_put hh hs) (insP_ne _ _)
  dsimp only at hwh
  rw [hB] at hwh
  clear hB hs
  generalize (wholeR (insP (newPt p) u.ps)).1 = D at *
  generalize insP (newPt p) u.ps = L at *
  have hgx := fun (X : List DV) => xget_xset (rowsO l i u (dPs L) l.length) i X (by rw [rowsO_len _ _ _ _ _ (List.getElem?_eq_some_iff.1 hh.hi).1 (Nat.le_refl _)]; exact (List.getElem?_eq_some_iff.1 hh.hi).1)
  have hsx := fun (X Y : List DV) => xset_set (rowsO l i u (dPs L) l.length) i X Y
  have hrow2 : xset (rowsO l i u (dPs L) l.length) i [.v (.int .u32 u.fr), .v (.int .u32 u.to), .v (.int .i64 u.pr), .v (.int .i64 u.id), .v (.int .i64 p.tos), .v (.int .i64 p.life), .v (.string (mkS p.opt)), dPs L] = (l.set i ⟨u.fr, u.to, u.pr, u.id, p.tos, p.life, p.opt, L⟩).map Hp.enc :=
    (rowsO_xset (List.getElem?_eq_some_iff.1 hh.hi).1 _ ⟨u.fr, u.to, u.pr, u.id, p.tos, p.life, p.opt, L⟩ _ (dPs L) _).trans (rowsO_all (List.getElem?_eq_some_iff.1 hh.hi).1 ⟨u.fr, u.to, u.pr, u.id, p.tos, p.life, p.opt, L⟩)
  have hlx : ∀ X, (xset (rowsO l i u (dPs L) l.length) i X).length = l.length := fun X => by rw [xset_len, rowsO_len _ _ _ _ _ (List.getElem?_eq_some_iff.1 hh.hi).1 (Nat.le_refl _)]
  have hin := hh.inp
  have hil := (List.getElem?_eq_some_iff.1 hh.hi).1
  have h16 := (poolErr_ok hh.he).1
  have hown := own_one 6 1 l hin.rm i u hh.hi
  have hchk := fun n m => giveA (k := 6) (lb := 1) (n := n) (m := m) hh.hi rfl hin.chk
  have hidx := fun n m => giveA (k := 6) (lb := 1) (n := n) (m := m) hh.hi rfl (idx_spec l hin.rm.1.1 p.fr p.to p.proto p.id)
  have hw := hin.wr
  have hpw : pW p = (pTxtF p (fl p), 0) := by unfold pW; rw [if_pos hh.hp]
  have href := frefused_spec p hh.hp
  rw [hh.he] at hchk
  rw [hh.hf] at hidx
  rw [hpw] at hw
  rw [hh.hr] at href
  have hget := fun (u : Hp) (d : DV) (k : Nat) => rowsO_get hil u d k
  have hrl := fun (u : Hp) (d : DV) => rowsO_len l i u d l.length hil (Nat.le_refl _)
  have hw1 : IntKind.i64.wrap ((i : Int) + 1) = ((i + 1 : Nat) : Int) := (IntWalk.i64_in _ (by omega)).trans (by omega)
  have hm := hh.hm
  have hst := (pErr_ok hh.hp).1.2.2.2.2.1
  have hwst : IntKind.i64.wrap (8 * p.start) = 8 * p.start := IntWalk.i64_in _ (by omega)
  generalize pTxtF p (fl p) = T at *
  skip
  clear hpw hh
  obtain ⟨tos, id, wh, mo, start, life, proto, fr, to, opt, data⟩ := p
  dsimp only at *
  subst hst0
  cases mo
  · exact absurd ⟨rfl, rfl⟩ hm
  · skip
    refine hspec_fn Try.func4 rfl ok_frag_Feed okr_frag_Feed rfl (by kernel_rfl) ?_
    intro Γ hW0 hN0 hL0
    have hW := hW0 rfl
    clear hW0 hN0 hL0
    unfold x_frag_Feed r_frag_Feed
    with_reducible refine auC ?_
    repeat' (first
      | (first | ((with_reducible refine atGo ?_); (refine go_leG (leG_freezeP hW ⟨.d0, .d1, .d4⟩ rfl rfl ⟨rfl, rfl, Nat.succ_pos _⟩) ?_)) | ((with_reducible refine atGo ?_); (refine go_frzP hW 6 8 (by decide) rfl rfl rfl ?_)))
      | (with_reducible refine auS ?_)
      | (first | ((with_reducible refine atCall 9 ?_); (refine runR_callG [] [6, 7] [6, 7] rfl (by decide) rfl rfl hown ?_)) | ((with_reducible refine atCall 6 ?_); (refine runR_callL [6, 7] (by decide) rfl rfl (hchk _ _) ?_)) | ((with_reducible refine atCall 12 ?_); (refine runR_callL [6, 7] (by decide) rfl rfl (hidx _ _) ?_)) | (with_reducible refine runR_call hw ?_) | (with_reducible refine runR_call href ?_) | simp only [hwst, hw1, hget, Int.toNat_natCast, Nat.zero_add, if_true] | ((with_reducible refine atCall 16 ?_); (refine runR_callG [6, 7] [8] [6, 7, 8] rfl (by decide) rfl rfl (hput _ _) ?_)) | (first | (with_reducible refine runR_call hwh ?_) | simp only [hgx, hsx] | (refine runR_n ⟨by (simp only [hlx]; omega), by trivial⟩ ?_)))
      | (with_reducible refine auD ?_)
      | ((with_reducible refine auB ?_ ?_); all_goals first | ((with_reducible intro h); first | exact auH | simp only [h, runR_t, runR_f] | skip) | skip)
      | (first | (refine runR_n ⟨by (simp only [hrl]; omega), by trivial⟩ ?_) | fail))
    (all_goals first | exact auP | skip)
    refine retq_le (leG_freeze hW ⟨.d0, .d0, .d4⟩ rfl rfl ⟨rfl, rfl, by (dsimp only; rw [hlx]; omega)⟩) ?_
    dsimp only
    rw [hrow2, xall (by simp)]
    all_goals with_reducible refine auF ?_
    all_goals (try first | with_reducible refine auR ?_ | exact auR0)
    all_goals (try simp only [hsM] at *)
    all_goals rfl
end Go.Proofs.Ytidogmmfakcfgaa
