/-
  Feed: no heap is found: a new one.
-/
import Derived.Test.YtidogmmfakcfgaaFeedU
namespace Go.Proofs.Ytidogmmfakcfgaa
set_option linter.unusedVariables false
set_option linter.unusedSimpArgs false
structure FeedNo (l : List Hp) (p : Pk) : Prop where
  inp : FeedIn l p
  he : poolErr l = 0
  hp : pErr p = 0
  hm : ¬ (p.mo = false ∧ p.start = 0)
  hr : refE p = 0
  hf : firstI (fun h => sameK h (keyK p.fr p.to p.proto p.id)) l 0 = -1
theorem FeedNo.pt {l : List Hp} {p : Pk} (h : FeedNo l p) : ptOk (newPt p) = true := by
  obtain ⟨⟨-, -, -, -, hst, ho40, ho4⟩, hform, hdl⟩ := pErr_ok h.hp
  have hr := h.hr
  unfold refE at hr
  split at hr
  · cases hr
  · rename_i h1
    split at hr
    · cases hr
    · rename_i h2
      exact newPt_ok (by omega) h1 (fun q => h2 (.inl q)) (fun q => h2 (.inr q))
theorem rowsO_snoc (l1 : List Hp) (k u : Hp) (d : DV) : rowsO (l1 ++ [k]) l1.length u d (l1.length + 1) = l1.map Hp.enc ++ [u.cells d] := by
  unfold rowsO
  simp
theorem snoc_at (l1 : List Hp) (k : Hp) : (l1 ++ [k])[l1.length]? = some k := by simp
theorem set_snoc (l1 : List Hp) (k u : Hp) : (l1 ++ [k]).set l1.length u = l1 ++ [u] := by
  rw [List.set_append_right _ _ (Nat.le_refl _), Nat.sub_self]
  rfl
theorem go_newP {Γ : Gm} {P : Program} {N : Nat} {R : St → Prop} {x : XC} {kk : List KI} {st : St} {l1 : List Hp} {n : Nat} {fr to pr id : Int} (hj : lget st.H 4 = some ⟨n, 8, l1.map Hp.enc ++ [keyC fr to pr id]⟩)
    (h : Go Γ P N R x kk ⟨st.tm, lset (lset st.H 4 (some ⟨n, 8, rowsO (l1 ++ [keyK fr to pr id]) l1.length (keyK fr to pr id) (slP 1 st.gen (keyK fr to pr id).ps) (l1.length + 1)⟩)) 7 (some ⟨st.gen, 3, (keyK fr to pr id).ps.map Pt.enc⟩), st.gen + 1⟩) : Go Γ P N R x kk st := by
  have hl : (l1.map Hp.enc).length = l1.length := List.length_map _
  have hle := le_rowX (st := st) 4 7 3 8 l1.length (by decide) (x := keyC fr to pr id) (y := (keyK fr to pr id).cells (slP 1 st.gen (keyK fr to pr id).ps)) hj (by rw [List.getElem?_append_right (by omega), hl, Nat.sub_self]; rfl) rfl (fun t d d' hd hd' => by
    match t, hd, hd' with
    | 0, hd, hd' | 1, hd, hd' | 2, hd, hd' | 3, hd, hd' | 4, hd, hd' | 5, hd, hd' | 6, hd, hd' =>
      obtain rfl := Option.some.inj hd
      obtain rfl := Option.some.inj hd'
      exact .inl rfl
    | 7, hd, hd' =>
      obtain rfl := Option.some.inj hd
      obtain rfl := Option.some.inj hd'
      exact .inr ⟨rfl, 1, rfl⟩
    | t + 8, hd, hd' => simp at hd) (by decide)
  have e : xset (l1.map Hp.enc ++ [keyC fr to pr id]) l1.length ((keyK fr to pr id).cells (slP 1 st.gen (keyK fr to pr id).ps)) = rowsO (l1 ++ [keyK fr to pr id]) l1.length (keyK fr to pr id) (slP 1 st.gen (keyK fr to pr id).ps) (l1.length + 1) := by
    rw [rowsO_snoc]
    have := xset_mid (x := keyC fr to pr id) (y := (keyK fr to pr id).cells (slP 1 st.gen (keyK fr to pr id).ps)) [] (l1.map Hp.enc)
    rwa [hl] at this
  rw [e] at hle
  exact go_leG (le_leG hle) h
def lessP (l : List Hp) : List Hp := if l.length = 16 then l.drop 1 else l
theorem whole_one (v : Pt) (h : v.at' = 0 → v.last = false) : (wholeR [v]).2 = false := by
  unfold wholeR
  simp only [cont, List.length_nil, List.nil_append, lastP]
  by_cases e : v.at' = ((0 : Nat) : Int)
  · rw [if_pos e]
    exact h e
  · rw [if_neg e]
theorem putN_new {l1 : List Hp} {p : Pk} {fr to pr id : Int} (hv : ptOk (newPt p) = true) (hd : smD p.data.length) (n m : Nat) :
    MSpec Try.prog 16 [.ptr 4 n 8 l1.length 0, .agg (newPt p).enc] [some ⟨n, 8, rowsO (l1 ++ [keyK fr to pr id]) l1.length (keyK fr to pr id) (slP 1 m (keyK fr to pr id).ps) (l1.length + 1)⟩, some ⟨m, 3, (keyK fr to pr id).ps.map Pt.enc⟩] 1 (fun q d H => d = .tup [.v (.bool true), .v (.int .i64 0)] ∧ H = [some ⟨n, 8, rowsO (l1 ++ [keyK fr to pr id]) l1.length (keyK fr to pr id) (slP 1 q [newPt p]) (l1.length + 1)⟩, none, some ⟨q, 3, [newPt p].map Pt.enc⟩]) := by
  have hi := snoc_at l1 (keyK fr to pr id)
  have hl : (l1 ++ [keyK fr to pr id]).length = l1.length + 1 := by simp
  have hh := putHyp_of hi n m (v := newPt p) (Nat.zero_le _) rfl hv (fun q hq => by simp at hq) hd
  have h := put_new n _ l1.length m (keyK fr to pr id) (newPt p) hh rfl (by show 0 < 64; decide)
  rw [hl] at h
  have e : insP (newPt p) (keyK fr to pr id).ps = [newPt p] := rfl
  rw [e] at h
  simp only [rowsO_xset (List.getElem?_eq_some_iff.1 hi).1] at h
  exact mspec_ptr 4 h
set_option maxHeartbeats 4000000 in
theorem feed_new1 (l : List Hp) (p : Pk) (hh : FeedNo l p) (hst0 : p.start ≠ 0) : Spec Try.prog 4 [dPool l, dP p] (dFd (lessP l ++ [⟨p.fr, p.to, p.proto, p.id, 0, 0, [], [newPt p]⟩], pk0, false, 0)) := by
  by_cases hl16 : l.length = 16
  · skip
    have hless : lessP l = l.drop 1 := if_pos hl16
    have hdel := fun n => hpdelete_spec 6 l 0 1 (by omega) (by omega) hh.inp.rm.1.1 n
    have hcut : l.take 0 ++ l.drop 1 = l.drop 1 := rfl
    simp only [hcut] at hdel
    have hl1 : (l.drop 1).length ≤ 15 := by rw [List.length_drop]; omega
    rw [hless]
    generalize l.drop 1 = l1 at *
    have hwh := whole_spec (⟨p.fr, p.to, p.proto, p.id, 0, 0, [], [newPt p]⟩ : Hp) (by simp) (chR_mk hh.pt (ptOk_fact hh.pt).2.1 (fun _ => rfl) rfl) (by simp)
    have hin := hh.inp
    have h16 := (poolErr_ok hh.he).1
    have hown := own_frz 6 l hin.rm
    have hchk := fun n => giveB (k := 6) (n := n) rfl hin.chk
    have hidx := fun n => giveB (k := 6) (n := n) rfl (idx_spec l hin.rm.1.1 p.fr p.to p.proto p.id)
    have hw := hin.wr
    have hpw : pW p = (pTxtF p (fl p), 0) := by unfold pW; rw [if_pos hh.hp]
    have href := frefused_spec p hh.hp
    rw [hh.he] at hchk
    rw [hh.hf] at hidx
    rw [hpw] at hw
    rw [hh.hr] at href
    have hput := putN_new (l1 := l1) (fr := p.fr) (to := p.to) (pr := p.proto) (id := p.id) hh.pt hin.hd
    have hwh0 := whole_one (newPt p) (fun q => by
      have h1 : p.start = 0 := by
        have : 8 * p.start = 0 := q
        omega
      show (!p.mo) = false
      cases hmo : p.mo with
      | false => exact absurd ⟨hmo, h1⟩ hh.hm
      | true => rfl)
    have hil : l1.length < (l1 ++ [keyK p.fr p.to p.proto p.id]).length := by simp
    have hget := fun (u : Hp) (d : DV) (k : Nat) => rowsO_get hil u d k
    have hrl := fun (u : Hp) (d : DV) => rowsO_len (l1 ++ [keyK p.fr p.to p.proto p.id]) l1.length u d (l1.length + 1) (Nat.lt_succ_self _) (by simp)
    have hm := hh.hm
    have hst := (pErr_ok hh.hp).1.2.2.2.2.1
    have hwst : IntKind.i64.wrap (8 * p.start) = 8 * p.start := IntWalk.i64_in _ (by omega)
    have hones : ∀ r : List Hp, allOnes (r.map Hp.enc) = true := allOnes_map (fun x => rfl)
    generalize pTxtF p (fl p) = T at *
    skip
    rw [hwh0] at hwh
    have hrow : rowsO (l1 ++ [keyK p.fr p.to p.proto p.id]) l1.length (keyK p.fr p.to p.proto p.id) (dPs [newPt p]) (l1.length + 1) = (l1 ++ [(⟨p.fr, p.to, p.proto, p.id, 0, 0, [], [newPt p]⟩ : Hp)]).map Hp.enc := by
      rw [rowsO_snoc, List.map_append]
      rfl
    skip
    clear hpw hh hwh0
    generalize (wholeR [newPt p]).1 = D at *
    obtain ⟨tos, id, wh, mo, start, life, proto, fr, to, opt, data⟩ := p
    dsimp only at *
    cases mo
    · skip
      refine hspec_fn Try.func4 rfl ok_frag_Feed okr_frag_Feed rfl (by kernel_rfl) ?_
      intro Γ hW0 hN0 hL0
      have hW := hW0 rfl
      clear hW0 hN0 hL0
      unfold x_frag_Feed r_frag_Feed
      with_reducible refine auC ?_
      repeat' (first
        | (first | ((with_reducible refine atGo ?_); (refine go_leG (leG_freezeP hW ⟨.d0, .d1, .d4⟩ rfl rfl ⟨rfl, rfl, Nat.succ_pos _⟩) ?_)) | ((with_reducible refine atGo ?_); (refine go_newP rfl ?_)) | ((with_reducible refine atGo ?_); (refine go_frzP hW 4 8 (by decide) rfl rfl rfl ?_)))
        | (with_reducible refine auS ?_)
        | (first | ((with_reducible refine atCall 9 ?_); (refine runR_callG [] [6] [6] rfl (by decide) rfl rfl hown ?_)) | ((with_reducible refine atCall 6 ?_); (refine runR_callL [6] (by decide) rfl rfl (hchk _) ?_)) | ((with_reducible refine atCall 12 ?_); (refine runR_callL [6] (by decide) rfl rfl (hidx _) ?_)) | (with_reducible refine runR_call hw ?_) | (with_reducible refine runR_call href ?_) | simp only [hwst, hget, List.length_map, Int.toNat_natCast, Nat.zero_add, if_true] | ((with_reducible refine atCall 16 ?_); (refine runR_callG [4, 7] [8] [4, 7, 8] rfl (by decide) rfl rfl (hput _ _) ?_)) | (first | (with_reducible refine runR_call hwh ?_) | ((with_reducible refine atCall 15 ?_); (refine runR_callL [6] (by decide) rfl rfl (hdel _) ?_))))
        | (with_reducible refine auD ?_)
        | ((with_reducible refine auB ?_ ?_); all_goals first | ((with_reducible intro h); first | exact auH | simp only [h, runR_t, runR_f] | skip) | skip)
        | (first | (refine runR_n ⟨by (simp only [hrl]; omega), by trivial⟩ ?_) | (refine runR_n ⟨by rfl, by (unfold room maxLen; simp only [List.length_map, List.length_cons, List.length_nil]; omega)⟩ ?_) | fail))
      (all_goals first | exact auP | skip)
      refine retq_le (leG_freeze hW ⟨.d0, .d0, .d4⟩ rfl rfl ⟨rfl, rfl, by (dsimp only; rw [hrl]; omega)⟩) ?_
      dsimp only
      rw [hrow, xall (by simp)]
      all_goals with_reducible refine auF ?_
      all_goals (try first | with_reducible refine auR ?_ | exact auR0)
      all_goals (try simp only [hsM] at *)
      all_goals rfl
    · skip
      refine hspec_fn Try.func4 rfl ok_frag_Feed okr_frag_Feed rfl (by kernel_rfl) ?_
      intro Γ hW0 hN0 hL0
      have hW := hW0 rfl
      clear hW0 hN0 hL0
      unfold x_frag_Feed r_frag_Feed
      with_reducible refine auC ?_
      repeat' (first
        | (first | ((with_reducible refine atGo ?_); (refine go_leG (leG_freezeP hW ⟨.d0, .d1, .d4⟩ rfl rfl ⟨rfl, rfl, Nat.succ_pos _⟩) ?_)) | ((with_reducible refine atGo ?_); (refine go_newP rfl ?_)) | ((with_reducible refine atGo ?_); (refine go_frzP hW 4 8 (by decide) rfl rfl rfl ?_)))
        | (with_reducible refine auS ?_)
        | (first | ((with_reducible refine atCall 9 ?_); (refine runR_callG [] [6] [6] rfl (by decide) rfl rfl hown ?_)) | ((with_reducible refine atCall 6 ?_); (refine runR_callL [6] (by decide) rfl rfl (hchk _) ?_)) | ((with_reducible refine atCall 12 ?_); (refine runR_callL [6] (by decide) rfl rfl (hidx _) ?_)) | (with_reducible refine runR_call hw ?_) | (with_reducible refine runR_call href ?_) | simp only [hwst, hget, List.length_map, Int.toNat_natCast, Nat.zero_add, if_true] | ((with_reducible refine atCall 16 ?_); (refine runR_callG [4, 7] [8] [4, 7, 8] rfl (by decide) rfl rfl (hput _ _) ?_)) | (first | (with_reducible refine runR_call hwh ?_) | ((with_reducible refine atCall 15 ?_); (refine runR_callL [6] (by decide) rfl rfl (hdel _) ?_))))
        | (with_reducible refine auD ?_)
        | ((with_reducible refine auB ?_ ?_); all_goals first | ((with_reducible intro h); first | exact auH | simp only [h, runR_t, runR_f] | skip) | skip)
        | (first | (refine runR_n ⟨by (simp only [hrl]; omega), by trivial⟩ ?_) | (refine runR_n ⟨by rfl, by (unfold room maxLen; simp only [List.length_map, List.length_cons, List.length_nil]; omega)⟩ ?_) | fail))
      (all_goals first | exact auP | skip)
      refine retq_le (leG_freeze hW ⟨.d0, .d0, .d4⟩ rfl rfl ⟨rfl, rfl, by (dsimp only; rw [hrl]; omega)⟩) ?_
      dsimp only
      rw [hrow, xall (by simp)]
      all_goals with_reducible refine auF ?_
      all_goals (try first | with_reducible refine auR ?_ | exact auR0)
      all_goals (try simp only [hsM] at *)
      all_goals rfl
  · skip
    have hless : lessP l = l := if_neg hl16
    rw [hless]
    have hl1 : l.length ≤ 15 := by have := (poolErr_ok hh.he).1; omega
    obtain ⟨l1, hl1e⟩ : ∃ l1, l1 = l := ⟨_, rfl⟩
    have hwh := whole_spec (⟨p.fr, p.to, p.proto, p.id, 0, 0, [], [newPt p]⟩ : Hp) (by simp) (chR_mk hh.pt (ptOk_fact hh.pt).2.1 (fun _ => rfl) rfl) (by simp)
    have hin := hh.inp
    have h16 := (poolErr_ok hh.he).1
    have hown := own_frz 6 l hin.rm
    have hchk := fun n => giveB (k := 6) (n := n) rfl hin.chk
    have hidx := fun n => giveB (k := 6) (n := n) rfl (idx_spec l hin.rm.1.1 p.fr p.to p.proto p.id)
    have hw := hin.wr
    have hpw : pW p = (pTxtF p (fl p), 0) := by unfold pW; rw [if_pos hh.hp]
    have href := frefused_spec p hh.hp
    rw [hh.he] at hchk
    rw [hh.hf] at hidx
    rw [hpw] at hw
    rw [hh.hr] at href
    have hput := putN_new (l1 := l1) (fr := p.fr) (to := p.to) (pr := p.proto) (id := p.id) hh.pt hin.hd
    have hwh0 := whole_one (newPt p) (fun q => by
      have h1 : p.start = 0 := by
        have : 8 * p.start = 0 := q
        omega
      show (!p.mo) = false
      cases hmo : p.mo with
      | false => exact absurd ⟨hmo, h1⟩ hh.hm
      | true => rfl)
    have hil : l1.length < (l1 ++ [keyK p.fr p.to p.proto p.id]).length := by simp
    have hget := fun (u : Hp) (d : DV) (k : Nat) => rowsO_get hil u d k
    have hrl := fun (u : Hp) (d : DV) => rowsO_len (l1 ++ [keyK p.fr p.to p.proto p.id]) l1.length u d (l1.length + 1) (Nat.lt_succ_self _) (by simp)
    have hm := hh.hm
    have hst := (pErr_ok hh.hp).1.2.2.2.2.1
    have hwst : IntKind.i64.wrap (8 * p.start) = 8 * p.start := IntWalk.i64_in _ (by omega)
    have hones : ∀ r : List Hp, allOnes (r.map Hp.enc) = true := allOnes_map (fun x => rfl)
    generalize pTxtF p (fl p) = T at *
    skip
    rw [hwh0] at hwh
    have hrow : rowsO (l1 ++ [keyK p.fr p.to p.proto p.id]) l1.length (keyK p.fr p.to p.proto p.id) (dPs [newPt p]) (l1.length + 1) = (l1 ++ [(⟨p.fr, p.to, p.proto, p.id, 0, 0, [], [newPt p]⟩ : Hp)]).map Hp.enc := by
      rw [rowsO_snoc, List.map_append]
      rfl
    subst hl1e
    clear hpw hh hwh0
    generalize (wholeR [newPt p]).1 = D at *
    obtain ⟨tos, id, wh, mo, start, life, proto, fr, to, opt, data⟩ := p
    dsimp only at *
    cases mo
    · skip
      refine hspec_fn Try.func4 rfl ok_frag_Feed okr_frag_Feed rfl (by kernel_rfl) ?_
      intro Γ hW0 hN0 hL0
      have hW := hW0 rfl
      clear hW0 hN0 hL0
      unfold x_frag_Feed r_frag_Feed
      with_reducible refine auC ?_
      repeat' (first
        | (first | ((with_reducible refine atGo ?_); (refine go_leG (leG_freezeP hW ⟨.d0, .d1, .d4⟩ rfl rfl ⟨rfl, rfl, Nat.succ_pos _⟩) ?_)) | ((with_reducible refine atGo ?_); (refine go_newP rfl ?_)) | ((with_reducible refine atGo ?_); (refine go_frzP hW 4 8 (by decide) rfl rfl rfl ?_)))
        | (with_reducible refine auS ?_)
        | (first | ((with_reducible refine atCall 9 ?_); (refine runR_callG [] [6] [6] rfl (by decide) rfl rfl hown ?_)) | ((with_reducible refine atCall 6 ?_); (refine runR_callL [6] (by decide) rfl rfl (hchk _) ?_)) | ((with_reducible refine atCall 12 ?_); (refine runR_callL [6] (by decide) rfl rfl (hidx _) ?_)) | (with_reducible refine runR_call hw ?_) | (with_reducible refine runR_call href ?_) | simp only [hwst, hget, List.length_map, Int.toNat_natCast, Nat.zero_add, if_true] | ((with_reducible refine atCall 16 ?_); (refine runR_callG [4, 7] [8] [4, 7, 8] rfl (by decide) rfl rfl (hput _ _) ?_)) | (with_reducible refine runR_call hwh ?_))
        | (with_reducible refine auD ?_)
        | ((with_reducible refine auB ?_ ?_); all_goals first | ((with_reducible intro h); first | exact auH | simp only [h, runR_t, runR_f] | skip) | skip)
        | (first | (refine runR_n ⟨by (simp only [hrl]; omega), by trivial⟩ ?_) | (refine runR_n ⟨by rfl, by (unfold room maxLen; simp only [List.length_map, List.length_cons, List.length_nil]; omega)⟩ ?_) | fail))
      (all_goals first | exact auP | skip)
      refine retq_le (leG_freeze hW ⟨.d0, .d0, .d4⟩ rfl rfl ⟨rfl, rfl, by (dsimp only; rw [hrl]; omega)⟩) ?_
      dsimp only
      rw [hrow, xall (by simp)]
      all_goals with_reducible refine auF ?_
      all_goals (try first | with_reducible refine auR ?_ | exact auR0)
      all_goals (try simp only [hsM] at *)
      all_goals rfl
    · skip
      refine hspec_fn Try.func4 rfl ok_frag_Feed okr_frag_Feed rfl (by kernel_rfl) ?_
      intro Γ hW0 hN0 hL0
      have hW := hW0 rfl
      clear hW0 hN0 hL0
      unfold x_frag_Feed r_frag_Feed
      with_reducible refine auC ?_
      repeat' (first
        | (first | ((with_reducible refine atGo ?_); (refine go_leG (leG_freezeP hW ⟨.d0, .d1, .d4⟩ rfl rfl ⟨rfl, rfl, Nat.succ_pos _⟩) ?_)) | ((with_reducible refine atGo ?_); (refine go_newP rfl ?_)) | ((with_reducible refine atGo ?_); (refine go_frzP hW 4 8 (by decide) rfl rfl rfl ?_)))
        | (with_reducible refine auS ?_)
        | (first | ((with_reducible refine atCall 9 ?_); (refine runR_callG [] [6] [6] rfl (by decide) rfl rfl hown ?_)) | ((with_reducible refine atCall 6 ?_); (refine runR_callL [6] (by decide) rfl rfl (hchk _) ?_)) | ((with_reducible refine atCall 12 ?_); (refine runR_callL [6] (by decide) rfl rfl (hidx _) ?_)) | (with_reducible refine runR_call hw ?_) | (with_reducible refine runR_call href ?_) | simp only [hwst, hget, List.length_map, Int.toNat_natCast, Nat.zero_add, if_true] | ((with_reducible refine atCall 16 ?_); (refine runR_callG [4, 7] [8] [4, 7, 8] rfl (by decide) rfl rfl (hput _ _) ?_)) | (with_reducible refine runR_call hwh ?_))
        | (with_reducible refine auD ?_)
        | ((with_reducible refine auB ?_ ?_); all_goals first | ((with_reducible intro h); first | exact auH | simp only [h, runR_t, runR_f] | skip) | skip)
        | (first | (refine runR_n ⟨by (simp only [hrl]; omega), by trivial⟩ ?_) | (refine runR_n ⟨by rfl, by (unfold room maxLen; simp only [List.length_map, List.length_cons, List.length_nil]; omega)⟩ ?_) | fail))
      (all_goals first | exact auP | skip)
      refine retq_le (leG_freeze hW ⟨.d0, .d0, .d4⟩ rfl rfl ⟨rfl, rfl, by (dsimp only; rw [hrl]; omega)⟩) ?_
      dsimp only
      rw [hrow, xall (by simp)]
      all_goals with_reducible refine auF ?_
      all_goals (try first | with_reducible refine auR ?_ | exact auR0)
      all_goals (try simp only [hsM] at *)
      all_goals rfl
end Go.Proofs.Ytidogmmfakcfgaa
