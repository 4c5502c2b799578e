/-
  Feed: a heap is found; the part is there already, or does not go with those that are.
-/
import Derived.Test.YtidogmmfakcfgaaFeedF
import Derived.Test.YtidogmmfakcfgaaFeedJ
namespace Go.Proofs.Ytidogmmfakcfgaa
set_option linter.unusedVariables false
set_option linter.unusedSimpArgs false
structure FeedAt (l : List Hp) (p : Pk) (i : Nat) (u : Hp) : Prop where
  inp : FeedIn l p
  he : poolErr l = 0
  hp : pErr p = 0
  hm : ¬ (p.mo = false ∧ p.start = 0)
  hr : refE p = 0
  hi : l[i]? = some u
  hf : firstI (fun h => sameK h (keyK p.fr p.to p.proto p.id)) l 0 = (i : Nat)
theorem FeedAt.pt {l : List Hp} {p : Pk} {i : Nat} {u : Hp} (h : FeedAt l p i u) : ptOk (newPt p) = true := by
  obtain ⟨⟨-, -, -, -, hst, ho40, ho4⟩, hform, hdl⟩ := pErr_ok h.hp
  have hr := h.hr
  unfold refE at hr
  split at hr
  · cases hr
  · rename_i h1
    split at hr
    · cases hr
    · rename_i h2
      exact newPt_ok (by omega) h1 (fun q => h2 (.inl q)) (fun q => h2 (.inr q))
theorem FeedAt.put {l : List Hp} {p : Pk} {i : Nat} {u : Hp} (h : FeedAt l p i u) (n m : Nat) : putHyp n (rowsO l i u (slP 1 m u.ps) l.length) i m u (newPt p) := by
  have hu := List.mem_of_getElem? h.hi
  exact putHyp_of h.hi n m ((poolErr_ok h.he).2.1 u hu) (poolErr_get h.he h.hi).1 h.pt (h.inp.sm u hu).2 h.inp.hd
theorem FeedAt.ne {l : List Hp} {p : Pk} {i : Nat} {u : Hp} (h : FeedAt l p i u) : u.ps ≠ [] := fun q => by
  have := (poolErr_get h.he h.hi).2
  unfold headOk at this
  rw [q] at this
  cases this
set_option maxHeartbeats 4000000 in
theorem feed_dup (l : List Hp) (p : Pk) (i : Nat) (u : Hp) (hh : FeedAt l p i u) (hs : scanR (newPt p) u.ps = some true) : Spec Try.prog 4 [dPool l, dP p] (dFd (l, pk0, false, 0)) := by
  have hput := fun n m => mspec_ptr 6 (put_scan n _ i m u (newPt p) (hh.put n m) true hs)
  have hwh := whole_spec u (by have := (poolErr_ok hh.he).2.1 u (List.mem_of_getElem? hh.hi); omega) (poolErr_get hh.he hh.hi).1 hh.ne
  have hrow := rowsO_same hh.hi
  generalize (wholeR u.ps).1 = D at *
  generalize (wholeR u.ps).2 = B at *
  have hin := hh.inp
  have hil := (List.getElem?_eq_some_iff.1 hh.hi).1
  have h16 := (poolErr_ok hh.he).1
  have hown := own_one 6 1 l hin.rm i u hh.hi
  have hchk := fun n m => giveA (k := 6) (lb := 1) (n := n) (m := m) hh.hi rfl hin.chk
  have hidx := fun n m => giveA (k := 6) (lb := 1) (n := n) (m := m) hh.hi rfl (idx_spec l hin.rm.1.1 p.fr p.to p.proto p.id)
  have hw := hin.wr
  have hpw : pW p = (pTxtF p (fl p), 0) := by unfold pW; rw [if_pos hh.hp]
  have href := frefused_spec p hh.hp
  rw [hh.he] at hchk
  rw [hh.hf] at hidx
  rw [hpw] at hw
  rw [hh.hr] at href
  have hget := fun (u : Hp) (d : DV) (k : Nat) => rowsO_get hil u d k
  have hrl := fun (u : Hp) (d : DV) => rowsO_len l i u d l.length hil (Nat.le_refl _)
  have hw1 : IntKind.i64.wrap ((i : Int) + 1) = ((i + 1 : Nat) : Int) := (IntWalk.i64_in _ (by omega)).trans (by omega)
  have hm := hh.hm
  have hst := (pErr_ok hh.hp).1.2.2.2.2.1
  have hwst : IntKind.i64.wrap (8 * p.start) = 8 * p.start := IntWalk.i64_in _ (by omega)
  generalize pTxtF p (fl p) = T at *
  skip
  clear hpw hh
  obtain ⟨tos, id, wh, mo, start, life, proto, fr, to, opt, data⟩ := p
  dsimp only at *
  cases mo
  · have hm2 : ¬ start = 0 := fun q => hm ⟨rfl, q⟩
    refine hspec_fn Try.func4 rfl ok_frag_Feed okr_frag_Feed rfl (by kernel_rfl) ?_
    intro Γ hW0 hN0 hL0
    have hW := hW0 rfl
    clear hW0 hN0 hL0
    unfold x_frag_Feed r_frag_Feed
    with_reducible refine auC ?_
    repeat' (first
      | (first | ((with_reducible refine atGo ?_); (refine go_leG (leG_freezeP hW ⟨.d0, .d1, .d4⟩ rfl rfl ⟨rfl, rfl, Nat.succ_pos _⟩) ?_)) | ((with_reducible refine atGo ?_); (refine go_frzP hW 6 7 (by decide) rfl rfl rfl ?_)))
      | (with_reducible refine auS ?_)
      | (first | ((with_reducible refine atCall 9 ?_); (refine runR_callG [] [6, 7] [6, 7] rfl (by decide) rfl rfl hown ?_)) | ((with_reducible refine atCall 6 ?_); (refine runR_callL [6, 7] (by decide) rfl rfl (hchk _ _) ?_)) | ((with_reducible refine atCall 12 ?_); (refine runR_callL [6, 7] (by decide) rfl rfl (hidx _ _) ?_)) | (with_reducible refine runR_call hw ?_) | (with_reducible refine runR_call href ?_) | simp only [hwst, hw1, hget, Int.toNat_natCast, Nat.zero_add, if_true] | ((with_reducible refine atCall 16 ?_); (refine runR_callG [6, 7] [] [6, 7] rfl (by decide) rfl rfl (hput _ _) ?_)) | (with_reducible refine runR_call hwh ?_))
      | (with_reducible refine auD ?_)
      | ((with_reducible refine auB ?_ ?_); all_goals first | ((with_reducible intro h); first | exact auH | simp only [h, runR_t, runR_f] | skip) | skip)
      | (first | (refine runR_n ⟨by (simp only [hrl]; omega), by trivial⟩ ?_) | fail))
    (all_goals first | exact auP | skip)
    refine retq_le (leG_freeze hW ⟨.d0, .d0, .d4⟩ rfl rfl ⟨rfl, rfl, by (dsimp only; rw [hrl]; omega)⟩) ?_
    dsimp only
    rw [hrow, xall (by simp)]
    all_goals with_reducible refine auF ?_
    all_goals (try first | with_reducible refine auR ?_ | exact auR0)
    all_goals (try simp only [hsM] at *)
    all_goals rfl
  · skip
    refine hspec_fn Try.func4 rfl ok_frag_Feed okr_frag_Feed rfl (by kernel_rfl) ?_
    intro Γ hW0 hN0 hL0
    have hW := hW0 rfl
    clear hW0 hN0 hL0
    unfold x_frag_Feed r_frag_Feed
    with_reducible refine auC ?_
    repeat' (first
      | (first | ((with_reducible refine atGo ?_); (refine go_leG (leG_freezeP hW ⟨.d0, .d1, .d4⟩ rfl rfl ⟨rfl, rfl, Nat.succ_pos _⟩) ?_)) | ((with_reducible refine atGo ?_); (refine go_frzP hW 6 7 (by decide) rfl rfl rfl ?_)))
      | (with_reducible refine auS ?_)
      | (first | ((with_reducible refine atCall 9 ?_); (refine runR_callG [] [6, 7] [6, 7] rfl (by decide) rfl rfl hown ?_)) | ((with_reducible refine atCall 6 ?_); (refine runR_callL [6, 7] (by decide) rfl rfl (hchk _ _) ?_)) | ((with_reducible refine atCall 12 ?_); (refine runR_callL [6, 7] (by decide) rfl rfl (hidx _ _) ?_)) | (with_reducible refine runR_call hw ?_) | (with_reducible refine runR_call href ?_) | simp only [hwst, hw1, hget, Int.toNat_natCast, Nat.zero_add, if_true] | ((with_reducible refine atCall 16 ?_); (refine runR_callG [6, 7] [] [6, 7] rfl (by decide) rfl rfl (hput _ _) ?_)) | (with_reducible refine runR_call hwh ?_))
      | (with_reducible refine auD ?_)
      | ((with_reducible refine auB ?_ ?_); all_goals first | ((with_reducible intro h); first | exact auH | simp only [h, runR_t, runR_f] | skip) | skip)
      | (first | (refine runR_n ⟨by (simp only [hrl]; omega), by trivial⟩ ?_) | fail))
    (all_goals first | exact auP | skip)
    refine retq_le (leG_freeze hW ⟨.d0, .d0, .d4⟩ rfl rfl ⟨rfl, rfl, by (dsimp only; rw [hrl]; omega)⟩) ?_
    dsimp only
    rw [hrow, xall (by simp)]
    all_goals with_reducible refine auF ?_
    all_goals (try first | with_reducible refine auR ?_ | exact auR0)
    all_goals (try simp only [hsM] at *)
    all_goals rfl
set_option maxHeartbeats 4000000 in
theorem feed_err0 (l : List Hp) (p : Pk) (i : Nat) (u : Hp) (hh : FeedAt l p i u) (E : Int) (hE : E ≠ 0)
    (hput : ∀ n m, MSpec Try.prog 16 [.ptr 6 n 8 i 0, .agg (newPt p).enc] [some ⟨n, 8, rowsO l i u (slP 1 m u.ps) l.length⟩, some ⟨m, 3, u.ps.map Pt.enc⟩] 0 (fun q d H => d = .tup [.v (.bool false), .v (.int .i64 E)] ∧ H = [some ⟨n, 8, rowsO l i u (slP 1 m u.ps) l.length⟩, some ⟨m, 3, u.ps.map Pt.enc⟩])) :
    Spec Try.prog 4 [dPool l, dP p] (dFd (cutL l i, pk0, false, E)) := by
  have hrow := rowsO_same hh.hi
  have hdel := fun n => hpdelete_spec 6 l i (i + 1) (by omega) (Nat.succ_le_of_lt (List.getElem?_eq_some_iff.1 hh.hi).1) hh.inp.rm.1.1 n
  have hcut : l.take i ++ l.drop (i + 1) = cutL l i := rfl
  simp only [hcut] at hdel
  have hin := hh.inp
  have hil := (List.getElem?_eq_some_iff.1 hh.hi).1
  have h16 := (poolErr_ok hh.he).1
  have hown := own_one 6 1 l hin.rm i u hh.hi
  have hchk := fun n m => giveA (k := 6) (lb := 1) (n := n) (m := m) hh.hi rfl hin.chk
  have hidx := fun n m => giveA (k := 6) (lb := 1) (n := n) (m := m) hh.hi rfl (idx_spec l hin.rm.1.1 p.fr p.to p.proto p.id)
  have hw := hin.wr
  have hpw : pW p = (pTxtF p (fl p), 0) := by unfold pW; rw [if_pos hh.hp]
  have href := frefused_spec p hh.hp
  rw [hh.he] at hchk
  rw [hh.hf] at hidx
  rw [hpw] at hw
  rw [hh.hr] at href
  have hget := fun (u : Hp) (d : DV) (k : Nat) => rowsO_get hil u d k
  have hrl := fun (u : Hp) (d : DV) => rowsO_len l i u d l.length hil (Nat.le_refl _)
  have hw1 : IntKind.i64.wrap ((i : Int) + 1) = ((i + 1 : Nat) : Int) := (IntWalk.i64_in _ (by omega)).trans (by omega)
  have hm := hh.hm
  have hst := (pErr_ok hh.hp).1.2.2.2.2.1
  have hwst : IntKind.i64.wrap (8 * p.start) = 8 * p.start := IntWalk.i64_in _ (by omega)
  generalize pTxtF p (fl p) = T at *
  generalize cutL l i = C at *
  clear hpw hh
  obtain ⟨tos, id, wh, mo, start, life, proto, fr, to, opt, data⟩ := p
  dsimp only at *
  cases mo
  · have hm2 : ¬ start = 0 := fun q => hm ⟨rfl, q⟩
    refine hspec_fn Try.func4 rfl ok_frag_Feed okr_frag_Feed rfl (by kernel_rfl) ?_
    intro Γ hW0 hN0 hL0
    have hW := hW0 rfl
    clear hW0 hN0 hL0
    unfold x_frag_Feed r_frag_Feed
    with_reducible refine auC ?_
    repeat' (first
      | (first | ((with_reducible refine atGo ?_); (refine go_leG (leG_freezeP hW ⟨.d0, .d1, .d4⟩ rfl rfl ⟨rfl, rfl, Nat.succ_pos _⟩) ?_)) | ((with_reducible refine atGo ?_); (refine go_frzP hW 6 7 (by decide) rfl rfl rfl ?_)))
      | (with_reducible refine auS ?_)
      | (first | ((with_reducible refine atCall 9 ?_); (refine runR_callG [] [6, 7] [6, 7] rfl (by decide) rfl rfl hown ?_)) | ((with_reducible refine atCall 6 ?_); (refine runR_callL [6, 7] (by decide) rfl rfl (hchk _ _) ?_)) | ((with_reducible refine atCall 12 ?_); (refine runR_callL [6, 7] (by decide) rfl rfl (hidx _ _) ?_)) | (with_reducible refine runR_call hw ?_) | (with_reducible refine runR_call href ?_) | simp only [hwst, hw1, hget, Int.toNat_natCast, Nat.zero_add, hrow] | ((with_reducible refine atCall 16 ?_); (refine runR_callG [6, 7] [] [6, 7] rfl (by decide) rfl rfl (hput _ _) ?_)) | ((with_reducible refine atCall 15 ?_); (refine runR_callL [6] (by decide) rfl rfl (hdel _) ?_)))
      | (with_reducible refine auD ?_)
      | ((with_reducible refine auB ?_ ?_); all_goals first | ((with_reducible intro h); first | exact auH | simp only [h, runR_t, runR_f] | skip) | skip)
      | (first | (refine runR_n ⟨by (simp only [hrl]; omega), by trivial⟩ ?_) | fail))
    (all_goals first | exact auP | skip)
    refine retq_le (leG_freeze hW ⟨.d0, .d0, .d4⟩ rfl rfl ⟨rfl, rfl, by simp⟩) ?_
    dsimp only
    rw [xall (by simp)]
    all_goals with_reducible refine auF ?_
    all_goals (try first | with_reducible refine auR ?_ | exact auR0)
    all_goals (try simp only [hsM] at *)
    all_goals rfl
  · skip
    refine hspec_fn Try.func4 rfl ok_frag_Feed okr_frag_Feed rfl (by kernel_rfl) ?_
    intro Γ hW0 hN0 hL0
    have hW := hW0 rfl
    clear hW0 hN0 hL0
    unfold x_frag_Feed r_frag_Feed
    with_reducible refine auC ?_
    repeat' (first
      | (first | ((with_reducible refine atGo ?_); (refine go_leG (leG_freezeP hW ⟨.d0, .d1, .d4⟩ rfl rfl ⟨rfl, rfl, Nat.succ_pos _⟩) ?_)) | ((with_reducible refine atGo ?_); (refine go_frzP hW 6 7 (by decide) rfl rfl rfl ?_)))
      | (with_reducible refine auS ?_)
      | (first | ((with_reducible refine atCall 9 ?_); (refine runR_callG [] [6, 7] [6, 7] rfl (by decide) rfl rfl hown ?_)) | ((with_reducible refine atCall 6 ?_); (refine runR_callL [6, 7] (by decide) rfl rfl (hchk _ _) ?_)) | ((with_reducible refine atCall 12 ?_); (refine runR_callL [6, 7] (by decide) rfl rfl (hidx _ _) ?_)) | (with_reducible refine runR_call hw ?_) | (with_reducible refine runR_call href ?_) | simp only [hwst, hw1, hget, Int.toNat_natCast, Nat.zero_add, hrow] | ((with_reducible refine atCall 16 ?_); (refine runR_callG [6, 7] [] [6, 7] rfl (by decide) rfl rfl (hput _ _) ?_)) | ((with_reducible refine atCall 15 ?_); (refine runR_callL [6] (by decide) rfl rfl (hdel _) ?_)))
      | (with_reducible refine auD ?_)
      | ((with_reducible refine auB ?_ ?_); all_goals first | ((with_reducible intro h); first | exact auH | simp only [h, runR_t, runR_f] | skip) | skip)
      | (first | (refine runR_n ⟨by (simp only [hrl]; omega), by trivial⟩ ?_) | fail))
    (all_goals first | exact auP | skip)
    refine retq_le (leG_freeze hW ⟨.d0, .d0, .d4⟩ rfl rfl ⟨rfl, rfl, by simp⟩) ?_
    dsimp only
    rw [xall (by simp)]
    all_goals with_reducible refine auF ?_
    all_goals (try first | with_reducible refine auR ?_ | exact auR0)
    all_goals (try simp only [hsM] at *)
    all_goals rfl
theorem feed_clash (l : List Hp) (p : Pk) (i : Nat) (u : Hp) (hh : FeedAt l p i u) (hs : scanR (newPt p) u.ps = some false) : Spec Try.prog 4 [dPool l, dP p] (dFd (cutL l i, pk0, false, 8)) :=
  feed_err0 l p i u hh 8 (by decide) (fun n m => mspec_ptr 6 (put_scan n _ i m u (newPt p) (hh.put n m) false hs))
theorem feed_full (l : List Hp) (p : Pk) (i : Nat) (u : Hp) (hh : FeedAt l p i u) (hs : scanR (newPt p) u.ps = none) (h64 : u.ps.length = 64) : Spec Try.prog 4 [dPool l, dP p] (dFd (cutL l i, pk0, false, 6)) :=
  feed_err0 l p i u hh 6 (by decide) (fun n m => mspec_ptr 6 (put_full n _ i m u (newPt p) (hh.put n m) hs h64))
end Go.Proofs.Ytidogmmfakcfgaa
