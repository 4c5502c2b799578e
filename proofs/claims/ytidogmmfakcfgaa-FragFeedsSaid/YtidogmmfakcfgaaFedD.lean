/-
  The reference: a heap is found; the part is put into it, and not all is there.
-/
import Derived.Test.YtidogmmfakcfgaaFedC
namespace Go.Proofs.Ytidogmmfakcfgaa
set_option linter.unusedVariables false
set_option linter.unusedSimpArgs false
theorem go_frzH {Γ : Gm} {P : Program} {N : Nat} {R : St → Prop} {x : XC} {kk : List KI} {st : St} (hW : ∀ g, ¬ Γ.W0 g) (j k : Nat) (hjk : j ≠ k) (L : List Pt) {n m lb : Nat} {c0 c1 c2 c3 c4 c5 c6 : DV} (hk : lget st.H k = some ⟨m, 3, L.map Pt.enc⟩) (hj : lget st.H j = some ⟨n, 8, [[c0, c1, c2, c3, c4, c5, c6, .sl lb m 3 0 L.length false]]⟩)
    (h : Go Γ P N R x kk ⟨st.tm, lset (lset st.H j (some ⟨n, 8, [[c0, c1, c2, c3, c4, c5, c6, dPs L]]⟩)) k none, st.gen⟩) : Go Γ P N R x kk st :=
  go_leG (leG_freezeO hW j k hjk hk hj (by
    refine ⟨?_, rfl⟩
    simp only [frzL]
    refine ⟨frzP_refl _ _, frzP_refl _ _, frzP_refl _ _, frzP_refl _ _, frzP_refl _ _, frzP_refl _ _, frzP_refl _ _, ?_, trivial⟩
    rw [frzP]
    refine .inl ⟨rfl, rfl, by simp, ?_⟩
    rw [xall (by simp)])) h
theorem srt_spec (n : Nat) (ps : List Pt) (v : Pt) (hps : chR ps 0 = true) (hv : ptOk v = true) (hs : scanR v ps = none) (hl : ps.length ≤ 64) :
    HSpec Try.prog 24 [.sl 9 n 3 0 (insP v ps).length false, .fn (.func 25) [] []] [some ⟨n, 3, (ps ++ [v]).map Pt.enc⟩] (fun d H => d = .tup [] ∧ H = [some ⟨n, 3, (insP v ps).map Pt.enc⟩]) := by
  rw [insP_len]
  exact hspec_sl 9 (sort_spec0 n ps v hps hv hs hl)
theorem acc_whole {L : List Pt} (h : chR L 0 = true) (hne : L ≠ []) : accR L [] = (wholeR L).1 ∧ ((accR L []).length : Int) = (lastP L).fin ∧ (lastP L).last = true ∧ (wholeR L).2 = true ∨ (wholeR L).2 = false ∧ ((lastP L).last = true → ((accR L []).length : Int) ≠ (lastP L).fin) := by
  obtain ⟨h1, h2⟩ := cont_acc L 0 [] h (Int.le_refl _) hne
  unfold wholeR
  cases hc : cont L [] with
  | none =>
    have := h2 hc
    exact .inr ⟨rfl, fun _ => by omega⟩
  | some d =>
    obtain ⟨e1, e2⟩ := h1 d hc
    cases hl : (lastP L).last with
    | true => exact .inl ⟨e1, by rw [e1]; exact e2, rfl, rfl⟩
    | false => exact .inr ⟨rfl, fun q => by cases q⟩
theorem accR_len : ∀ (l : List Pt) (a : B8), (∀ p ∈ l, ptOk p = true) → a.length ≤ 65515 → (accR l a).length ≤ 65515
  | [], a, _, h => h
  | p :: r, a, hp, h => by
    have hpo := ptOk_fact (hp p (by simp))
    have hf := hpo.2.2.2.2.1
    unfold Pt.fin at hf
    simp only [accR]
    refine accR_len r _ (fun q hq => hp q (by simp [hq])) ?_
    by_cases e : p.at' = (a.length : Nat)
    · rw [if_pos e, List.length_append]
      omega
    · rw [if_neg e]
      exact h
set_option maxHeartbeats 4000000 in
theorem fed_upd (l : List Hp) (p : Pk) (i : Nat) (u : Hp) (hh : FeedAt l p i u) (hs : scanR (newPt p) u.ps = none) (h64' : u.ps.length < 64) (hB : (wholeR (insP (newPt p) u.ps)).2 = false) : Spec Try.prog 5 [dPool l, dP p] (dFd (l.set i (putH u p), pk0, false, 0)) := by
  have hch2 := chR_put hh hs
  have haw := (acc_whole hch2 (insP_ne _ _)).resolve_left (fun q => by rw [hB] at q; cases q.2.2.2)
  have hL1 := (insP_len (newPt p) u.ps).symm
  have hsort := fun n => srt_spec n u.ps (newPt p) (poolErr_get hh.he hh.hi).1 hh.pt hs (by omega)
  have hco := fun c => ptclone_spec 12 u.ps c ⟨by unfold maxLen; omega, by omega⟩
  have hpc := fun c => hpclone_spec 12 l c hh.inp.rm.1
  unfold putH
  have hmem := scan_none hs
  have hin := hh.inp
  have hil := (List.getElem?_eq_some_iff.1 hh.hi).1
  have h16 := (poolErr_ok hh.he).1
  have hui := List.mem_of_getElem? hh.hi
  have h64 := (poolErr_ok hh.he).2.1 u hui
  have hch := (poolErr_get hh.he hh.hi).1
  have hud := (hin.sm u hui).2
  have hchk := hin.rr
  have hw := hin.pt
  have hidx := rfidx_spec l hin.rm.1.1 p
  have hpw : pW p = (pTxtF p (fl p), 0) := by unfold pW; rw [if_pos hh.hp]
  rw [hh.he] at hchk
  rw [hh.hf] at hidx
  rw [hpw] at hw
  have hwo := without_spec l i hil hin.rm.1
  have hcp := fun c => containsP_spec u.ps (newPt p) c (by unfold maxLen; omega)
  have exi := xget_map Hp.enc l i u hh.hi
  have hpt := hh.pt
  have hr := hh.hr
  have hm := hh.hm
  obtain ⟨⟨-, -, -, -, hst, ho40, ho4⟩, hform, hdl⟩ := pErr_ok hh.hp
  have w1 : IntKind.i64.wrap (8 * p.start) = 8 * p.start := IntWalk.i64_in _ (by omega)
  have w2 : IntKind.i64.wrap (8 * p.start + (p.data.length : Nat)) = 8 * p.start + (p.data.length : Nat) := IntWalk.i64_in _ (by omega)
  have hm2 := len_mod8 p.data.length
  have hnil : (mkS p.data = { data := #[] }) = (p.data = []) := propext (mkS_nil p.data)
  have hpo := ptOk_fact hpt
  unfold newPt at hpo
  dsimp only at hpo
  unfold Pt.fin at hpo
  dsimp only at hpo
  have hsb : (mkS p.data = { data := #[] }) = False := by rw [hnil]; exact eq_false hpo.1
  generalize pTxtF p (fl p) = T at *
  rw [decide_eq_false hmem.1] at hcp; generalize hLe : insP (newPt p) u.ps = L at *; clear hs hB hLe
  clear hpw hh hnil
  obtain ⟨tos, id, wh, mo, start, life, proto, fr, to, opt, data⟩ := p
  dsimp only at *
  have hany := hmem.2
  clear hmem
  obtain ⟨rr, hrr⟩ : ∃ rr, rr = false := ⟨_, rfl⟩
  rw [← hrr] at hany
  unfold newPt at hany hcp
  dsimp only at hany hcp
  obtain ⟨ufr, uto, upr, uid, utos, ulife, uopt, ups⟩ := u
  dsimp only at *
  unfold newPt at hsort
  dsimp only at hsort
  have hsn : ∀ b : Bool, ups.map Pt.enc ++ [[.v (.int .i64 (8 * start)), .v (.string (mkS data)), .v (.bool b)]] = (ups ++ [(⟨8 * start, data, b⟩ : Pt)]).map Pt.enc := fun b => by simp
  cases mo
  · have hm3 : ¬ start = 0 := fun q => hm ⟨rfl, q⟩
    refine hspec_fn Try.func5 rfl ok_custref_Fed okr_custref_Fed rfl (by kernel_rfl) ?_
    intro Γ hW0 hN0 hL0
    have hW := hW0 rfl
    clear hW0 hN0 hL0
    unfold x_custref_Fed r_custref_Fed
    with_reducible refine auC ?_
    repeat' (first
      | ((with_reducible refine atGo ?_); (refine go_leG (leG_freezeP hW ⟨.d0, .d0, .d3⟩ rfl rfl ⟨rfl, rfl, Nat.succ_pos _⟩) ?_))
      | (with_reducible refine auS ?_)
      | (first | (with_reducible refine runR_call hchk ?_) | (with_reducible refine runR_call hw ?_) | (with_reducible refine runR_call hidx ?_) | (refine atCall 22 (runR_call (hcp _) ?_)) | (with_reducible refine runR_call hwo ?_) | simp only [mkS_size] | simp only [w1, w2, hsb, hm2, decide_false, Int.toNat_natCast, Nat.zero_add, exi] | simp only [decide_false])
      | (with_reducible refine auD ?_)
      | ((with_reducible refine auB ?_ ?_); all_goals first | ((with_reducible intro h); first | exact auH | simp only [h, runR_t, runR_f] | skip) | skip)
      | (first | fail | fail))
    (all_goals first | exact auP | skip)
    refine go_loopH (α := Nat × Nat) (fun a => [(⟨.d1, .d6, .d6⟩, .v (.int .i64 (a.1 : Nat)))]) (fun _ => [(7, none)]) (fun a => a.2) (fun a => ups.length - a.1) (fun a => a.1 ≤ ups.length ∧ (ups.drop a.1).any (clash ⟨8 * start, data, true⟩) = rr) (0, Γ.g0 + 5) ⟨Nat.zero_le _, hany⟩ ?_ ?_
    · skip
      refine le_mk ?_ ?_ (Nat.le_refl _)
      all_goals first | with_reducible refine auE ?_ | exact auE0
      all_goals (repeat' (first | exact trivial | exact rfl | apply And.intro))
    rintro ⟨k, g⟩ ⟨hk, hp⟩
    dsimp only at hk hp ⊢
    with_reducible refine auL ?_
    by_cases hlt : k < ups.length
    · obtain ⟨⟨ta, td, tl⟩, ht⟩ : ∃ t, ups[k]? = some t := ⟨_, List.getElem?_eq_getElem hlt⟩
      have htm := List.mem_of_getElem? ht
      have ext := xget_map Pt.enc ups k ⟨ta, td, tl⟩ ht
      have hto := ptOk_fact (chR_ge hch _ htm).2
      rw [List.drop_eq_getElem_cons hlt, show ups[k] = ⟨ta, td, tl⟩ from Option.some.inj ((List.getElem?_eq_getElem hlt).symm.trans ht), List.any_cons] at hp
      have hcn := clash_no (n := ⟨8 * start, data, true⟩) (o := ⟨ta, td, tl⟩)
      have hcy := clash_yes (n := ⟨8 * start, data, true⟩) (o := ⟨ta, td, tl⟩)
      unfold Pt.fin at hto hcn hcy
      dsimp only at hto hcn hcy
      have wt : IntKind.i64.wrap (ta + (td.length : Nat)) = ta + (td.length : Nat) := IntWalk.i64_in _ (by omega)
      cases hcl : clash ⟨8 * start, data, true⟩ ⟨ta, td, tl⟩ with
      | true =>
        rw [hcl, Bool.true_or] at hp
        first
          | (exfalso; rw [hrr] at hp; cases hp; done)
          | (have hc := hcy hcl
             clear hcn hcy hany hp
             cases tl
             all_goals simp only [Bool.false_eq_true, false_and, true_and, or_false, false_or] at hc
             all_goals
               repeat' (first
                 | (with_reducible refine auS ?_)
                 | (first | (with_reducible refine runR_call hwo ?_) | simp only [mkS_size] | simp only [w2] | simp only [wt])
                 | (with_reducible refine auD ?_)
                 | ((with_reducible refine auB ?_ ?_); all_goals first | ((with_reducible intro h); first | exact auH | simp only [h, runR_t, runR_f] | skip) | skip)
                 | (first | (simp only [Int.toNat_natCast, ext]) | fail))
               (all_goals first | exact auP | skip)
             all_goals
               all_goals with_reducible refine auF ?_
               all_goals (try first | with_reducible refine auR ?_ | exact auR0)
               all_goals (try simp only [hsM] at *)
             all_goals rfl)
      | false =>
        rw [hcl, Bool.false_or] at hp
        obtain ⟨d1, d2, d3⟩ := hcn hcl
        clear hcn hcy
        cases tl
        all_goals simp only [Bool.false_eq_true, true_implies, false_implies] at d2 d3
        all_goals
          repeat' (first
            | (with_reducible refine auS ?_)
            | (first | (with_reducible refine runR_call hwo ?_) | simp only [mkS_size] | simp only [w2] | simp only [wt])
            | (with_reducible refine auD ?_)
            | ((with_reducible refine auB ?_ ?_); all_goals first | ((with_reducible intro h); first | exact auH | simp only [h, runR_t, runR_f] | skip) | skip)
            | (first | (simp only [Int.toNat_natCast, ext]) | fail))
          (all_goals first | exact auP | skip)
        all_goals refine nx_loop ⟨(k + 1, g + 1), ⟨hlt, hp⟩, by dsimp only; omega, ?_⟩
        all_goals
          refine le_mk ?_ ?_ (Nat.le_refl _)
          all_goals first | with_reducible refine auE ?_ | exact auE0
          all_goals (repeat' (first | exact trivial | exact rfl | apply And.intro))
        all_goals first
          | exact dint ((IntWalk.i64_in _ (by omega)).trans (by omega))
          | rfl
    obtain rfl : k = ups.length := by omega
    rw [List.drop_length] at hp
    clear hany hp hrr
    repeat' (first
      | ((with_reducible refine atGo ?_); (refine go_frzH hW 5 9 (by decide) L rfl rfl ?_))
      | (with_reducible refine auS ?_)
      | (first | simp only [w2] | (with_reducible refine runR_callO 12 (hco _) ?_) | ((with_reducible refine atCall 24 ?_); (simp only [List.length_map, hL1, hsn]); (refine runR_callL [9] (by decide) rfl rfl (hsort _) ?_)))
      | (with_reducible refine auD ?_)
      | ((with_reducible refine auB ?_ ?_); all_goals first | ((with_reducible intro h); first | exact auH | simp only [h, runR_t, runR_f] | skip) | skip)
      | (first | (refine runR_n ⟨by trivial, by trivial, by trivial, by trivial, by simp⟩ ?_) | (refine runR_n ⟨by rfl, by (unfold room maxLen; simp only [List.length_map, List.length_cons, List.length_nil]; omega)⟩ ?_) | fail))
    (all_goals first | exact auP | skip)
    refine go_loopH (α := Nat × B8 × Nat) (fun a => [(⟨.d3, .d1, .d4⟩, .v (.int .i64 (a.1 : Nat))), (⟨.d0, .d2, .d0⟩, .v (.string (mkS a.2.1)))]) (fun _ => [(10, none)]) (fun a => a.2.2) (fun a => L.length - a.1) (fun a => a.1 ≤ L.length ∧ accR L [] = accR (L.drop a.1) a.2.1 ∧ a.2.1.length ≤ 65515) (0, [], g + 3) ⟨Nat.zero_le _, rfl, Nat.zero_le _⟩ ?_ ?_
    · skip
      refine le_mk ?_ ?_ (Nat.le_refl _)
      all_goals first | with_reducible refine auE ?_ | exact auE0
      all_goals (repeat' (first | exact trivial | exact rfl | apply And.intro))
      all_goals rfl
    rintro ⟨k, acc, g⟩ ⟨hk, hp, hacc⟩
    dsimp only at hk hp hacc ⊢
    with_reducible refine auL ?_
    by_cases hlt : k < L.length
    · obtain ⟨t, ht⟩ : ∃ t, L[k]? = some t := ⟨_, List.getElem?_eq_getElem hlt⟩
      have ext := xget_map Pt.enc L k t ht
      have hto := ptOk_fact (chR_ge hch2 t (List.mem_of_getElem? ht)).2
      have hfi := hto.2.2.2.2.1
      unfold Pt.fin at hfi
      rw [List.drop_eq_getElem_cons hlt, show L[k] = t from Option.some.inj ((List.getElem?_eq_getElem hlt).symm.trans ht), accR] at hp
      by_cases he : t.at' = (acc.length : Nat)
      · rw [if_pos he] at hp
        repeat' (first
          | (with_reducible refine auS ?_)
          | (first | simp only [mkS_size] | simp only [mkS_app])
          | (with_reducible refine auD ?_)
          | ((with_reducible refine auB ?_ ?_); all_goals first | ((with_reducible intro h); first | exact auH | simp only [h, runR_t, runR_f] | skip) | skip)
          | (first | (simp only [Int.toNat_natCast, ext]) | (refine runR_n (by simp only [mkS_size]; omega) ?_) | fail))
        (all_goals first | exact auP | skip)
        refine nx_loop ⟨(k + 1, acc ++ t.data, g + 1), ⟨hlt, hp, by dsimp only; rw [List.length_append]; omega⟩, by dsimp only; omega, ?_⟩
        refine le_mk ?_ ?_ (Nat.le_refl _)
        all_goals first | with_reducible refine auE ?_ | exact auE0
        all_goals (repeat' (first | exact trivial | exact rfl | apply And.intro))
        all_goals first
          | exact dint ((IntWalk.i64_in _ (by omega)).trans (by omega))
          | rfl
      · rw [if_neg he] at hp
        repeat' (first
          | (with_reducible refine auS ?_)
          | (first | simp only [mkS_size] | simp only [mkS_app])
          | (with_reducible refine auD ?_)
          | ((with_reducible refine auB ?_ ?_); all_goals first | ((with_reducible intro h); first | exact auH | simp only [h, runR_t, runR_f] | skip) | skip)
          | (first | (simp only [Int.toNat_natCast, ext]) | fail))
        (all_goals first | exact auP | skip)
        refine nx_loop ⟨(k + 1, acc, g + 1), ⟨hlt, hp, hacc⟩, by dsimp only; omega, ?_⟩
        refine le_mk ?_ ?_ (Nat.le_refl _)
        all_goals first | with_reducible refine auE ?_ | exact auE0
        all_goals (repeat' (first | exact trivial | exact rfl | apply And.intro))
        all_goals first
          | exact dint ((IntWalk.i64_in _ (by omega)).trans (by omega))
          | rfl
    obtain rfl : k = L.length := by omega
    rw [List.drop_length, accR] at hp
    have hlast := lastP_get L (fun q => by rw [q] at hL1; simp at hL1)
    have exl := xget_map Pt.enc L (L.length - 1) (lastP L) hlast
    have hlo := ptOk_fact (chR_ge hch2 _ (List.mem_of_getElem? hlast)).2
    have e1 : IntKind.i64.wrap ((L.length : Int) - 1) = ((L.length - 1 : Nat) : Int) := by rw [IntWalk.i64_in _ (by omega)]; omega
    have hll : L.length - 1 < L.length := by omega
    have hfi := hlo.2.2.2.2.1
    generalize lastP L = q at *
    have wq : IntKind.i64.wrap (q.at' + (q.data.length : Nat)) = q.fin := by
      rw [IntWalk.i64_in _ (by unfold Pt.fin at hfi; omega)]
      rfl
    generalize q.fin = qf at *
    rw [hp] at haw
    rw [if_neg hm3]
    have hset : xset (l.map Hp.enc) i (splice (xget (l.map Hp.enc) i) 0 [.v (.int .u32 ufr), .v (.int .u32 uto), .v (.int .i64 upr), .v (.int .i64 uid), .v (.int .i64 utos), .v (.int .i64 ulife), .v (.string (mkS uopt)), dPs L]) = (l.set i ⟨ufr, uto, upr, uid, utos, ulife, uopt, L⟩).map Hp.enc := by
      rw [exi]
      exact xset_map Hp.enc l i ⟨ufr, uto, upr, uid, utos, ulife, uopt, L⟩
    obtain ⟨qa, qd, ql⟩ := q
    dsimp only at *
    cases ql
    all_goals try have haw2 := haw.2 rfl
    all_goals
      repeat' (first
        | (with_reducible refine auS ?_)
        | (first | simp only [mkS_size] | simp only [List.length_map, e1, wq, Nat.zero_add] | (with_reducible refine runR_call hwo ?_) | (with_reducible refine runR_callO 12 (hpc _) ?_))
        | (with_reducible refine auD ?_)
        | ((with_reducible refine auB ?_ ?_); all_goals first | ((with_reducible intro h); first | exact auH | simp only [h, runR_t, runR_f] | skip) | skip)
        | (first | (simp only [Int.toNat_natCast, exl, Nat.zero_add]) | (refine runR_n ⟨by (simp only [List.length_map]; omega), by trivial⟩ ?_) | fail))
      (all_goals first | exact auP | skip)
    all_goals refine retq_le (leG_freeze hW ⟨.d0, .d0, .d4⟩ rfl rfl ⟨rfl, rfl, by (dsimp only; rw [xset_len]; simp)⟩) ?_
    all_goals dsimp only
    all_goals rw [hset, xall (by simp)]
    all_goals
      all_goals with_reducible refine auF ?_
      all_goals (try first | with_reducible refine auR ?_ | exact auR0)
      all_goals (try simp only [hsM] at *)
    all_goals rfl
  · have hm5 := hpo.2.2.2.2.2 rfl
    by_cases hm6 : start = 0
    · skip
      refine hspec_fn Try.func5 rfl ok_custref_Fed okr_custref_Fed rfl (by kernel_rfl) ?_
      intro Γ hW0 hN0 hL0
      have hW := hW0 rfl
      clear hW0 hN0 hL0
      unfold x_custref_Fed r_custref_Fed
      with_reducible refine auC ?_
      repeat' (first
        | ((with_reducible refine atGo ?_); (refine go_leG (leG_freezeP hW ⟨.d0, .d0, .d3⟩ rfl rfl ⟨rfl, rfl, Nat.succ_pos _⟩) ?_))
        | (with_reducible refine auS ?_)
        | (first | (with_reducible refine runR_call hchk ?_) | (with_reducible refine runR_call hw ?_) | (with_reducible refine runR_call hidx ?_) | (refine atCall 22 (runR_call (hcp _) ?_)) | (with_reducible refine runR_call hwo ?_) | simp only [mkS_size] | simp only [w1, w2, hsb, hm2, decide_false, Int.toNat_natCast, Nat.zero_add, exi] | simp only [decide_false])
        | (with_reducible refine auD ?_)
        | ((with_reducible refine auB ?_ ?_); all_goals first | ((with_reducible intro h); first | exact auH | simp only [h, runR_t, runR_f] | skip) | skip)
        | (first | fail | fail))
      (all_goals first | exact auP | skip)
      refine go_loopH (α := Nat × Nat) (fun a => [(⟨.d1, .d6, .d6⟩, .v (.int .i64 (a.1 : Nat)))]) (fun _ => [(7, none)]) (fun a => a.2) (fun a => ups.length - a.1) (fun a => a.1 ≤ ups.length ∧ (ups.drop a.1).any (clash ⟨8 * start, data, false⟩) = rr) (0, Γ.g0 + 5) ⟨Nat.zero_le _, hany⟩ ?_ ?_
      · skip
        refine le_mk ?_ ?_ (Nat.le_refl _)
        all_goals first | with_reducible refine auE ?_ | exact auE0
        all_goals (repeat' (first | exact trivial | exact rfl | apply And.intro))
      rintro ⟨k, g⟩ ⟨hk, hp⟩
      dsimp only at hk hp ⊢
      with_reducible refine auL ?_
      by_cases hlt : k < ups.length
      · obtain ⟨⟨ta, td, tl⟩, ht⟩ : ∃ t, ups[k]? = some t := ⟨_, List.getElem?_eq_getElem hlt⟩
        have htm := List.mem_of_getElem? ht
        have ext := xget_map Pt.enc ups k ⟨ta, td, tl⟩ ht
        have hto := ptOk_fact (chR_ge hch _ htm).2
        rw [List.drop_eq_getElem_cons hlt, show ups[k] = ⟨ta, td, tl⟩ from Option.some.inj ((List.getElem?_eq_getElem hlt).symm.trans ht), List.any_cons] at hp
        have hcn := clash_no (n := ⟨8 * start, data, false⟩) (o := ⟨ta, td, tl⟩)
        have hcy := clash_yes (n := ⟨8 * start, data, false⟩) (o := ⟨ta, td, tl⟩)
        unfold Pt.fin at hto hcn hcy
        dsimp only at hto hcn hcy
        have wt : IntKind.i64.wrap (ta + (td.length : Nat)) = ta + (td.length : Nat) := IntWalk.i64_in _ (by omega)
        cases hcl : clash ⟨8 * start, data, false⟩ ⟨ta, td, tl⟩ with
        | true =>
          rw [hcl, Bool.true_or] at hp
          first
            | (exfalso; rw [hrr] at hp; cases hp; done)
            | (have hc := hcy hcl
               clear hcn hcy hany hp
               cases tl
               all_goals simp only [Bool.false_eq_true, false_and, true_and, or_false, false_or] at hc
               all_goals
                 repeat' (first
                   | (with_reducible refine auS ?_)
                   | (first | (with_reducible refine runR_call hwo ?_) | simp only [mkS_size] | simp only [w2] | simp only [wt])
                   | (with_reducible refine auD ?_)
                   | ((with_reducible refine auB ?_ ?_); all_goals first | ((with_reducible intro h); first | exact auH | simp only [h, runR_t, runR_f] | skip) | skip)
                   | (first | (simp only [Int.toNat_natCast, ext]) | fail))
                 (all_goals first | exact auP | skip)
               all_goals
                 all_goals with_reducible refine auF ?_
                 all_goals (try first | with_reducible refine auR ?_ | exact auR0)
                 all_goals (try simp only [hsM] at *)
               all_goals rfl)
        | false =>
          rw [hcl, Bool.false_or] at hp
          obtain ⟨d1, d2, d3⟩ := hcn hcl
          clear hcn hcy
          cases tl
          all_goals simp only [Bool.false_eq_true, true_implies, false_implies] at d2 d3
          all_goals
            repeat' (first
              | (with_reducible refine auS ?_)
              | (first | (with_reducible refine runR_call hwo ?_) | simp only [mkS_size] | simp only [w2] | simp only [wt])
              | (with_reducible refine auD ?_)
              | ((with_reducible refine auB ?_ ?_); all_goals first | ((with_reducible intro h); first | exact auH | simp only [h, runR_t, runR_f] | skip) | skip)
              | (first | (simp only [Int.toNat_natCast, ext]) | fail))
            (all_goals first | exact auP | skip)
          all_goals refine nx_loop ⟨(k + 1, g + 1), ⟨hlt, hp⟩, by dsimp only; omega, ?_⟩
          all_goals
            refine le_mk ?_ ?_ (Nat.le_refl _)
            all_goals first | with_reducible refine auE ?_ | exact auE0
            all_goals (repeat' (first | exact trivial | exact rfl | apply And.intro))
          all_goals first
            | exact dint ((IntWalk.i64_in _ (by omega)).trans (by omega))
            | rfl
      obtain rfl : k = ups.length := by omega
      rw [List.drop_length] at hp
      clear hany hp hrr
      repeat' (first
        | ((with_reducible refine atGo ?_); (refine go_frzH hW 5 9 (by decide) L rfl rfl ?_))
        | (with_reducible refine auS ?_)
        | (first | simp only [w2] | (with_reducible refine runR_callO 12 (hco _) ?_) | ((with_reducible refine atCall 24 ?_); (simp only [List.length_map, hL1, hsn]); (refine runR_callL [9] (by decide) rfl rfl (hsort _) ?_)))
        | (with_reducible refine auD ?_)
        | ((with_reducible refine auB ?_ ?_); all_goals first | ((with_reducible intro h); first | exact auH | simp only [h, runR_t, runR_f] | skip) | skip)
        | (first | (refine runR_n ⟨by trivial, by trivial, by trivial, by trivial, by simp⟩ ?_) | (refine runR_n ⟨by rfl, by (unfold room maxLen; simp only [List.length_map, List.length_cons, List.length_nil]; omega)⟩ ?_) | fail))
      (all_goals first | exact auP | skip)
      refine go_loopH (α := Nat × B8 × Nat) (fun a => [(⟨.d3, .d1, .d4⟩, .v (.int .i64 (a.1 : Nat))), (⟨.d0, .d2, .d0⟩, .v (.string (mkS a.2.1)))]) (fun _ => [(10, none)]) (fun a => a.2.2) (fun a => L.length - a.1) (fun a => a.1 ≤ L.length ∧ accR L [] = accR (L.drop a.1) a.2.1 ∧ a.2.1.length ≤ 65515) (0, [], g + 3) ⟨Nat.zero_le _, rfl, Nat.zero_le _⟩ ?_ ?_
      · skip
        refine le_mk ?_ ?_ (Nat.le_refl _)
        all_goals first | with_reducible refine auE ?_ | exact auE0
        all_goals (repeat' (first | exact trivial | exact rfl | apply And.intro))
        all_goals rfl
      rintro ⟨k, acc, g⟩ ⟨hk, hp, hacc⟩
      dsimp only at hk hp hacc ⊢
      with_reducible refine auL ?_
      by_cases hlt : k < L.length
      · obtain ⟨t, ht⟩ : ∃ t, L[k]? = some t := ⟨_, List.getElem?_eq_getElem hlt⟩
        have ext := xget_map Pt.enc L k t ht
        have hto := ptOk_fact (chR_ge hch2 t (List.mem_of_getElem? ht)).2
        have hfi := hto.2.2.2.2.1
        unfold Pt.fin at hfi
        rw [List.drop_eq_getElem_cons hlt, show L[k] = t from Option.some.inj ((List.getElem?_eq_getElem hlt).symm.trans ht), accR] at hp
        by_cases he : t.at' = (acc.length : Nat)
        · rw [if_pos he] at hp
          repeat' (first
            | (with_reducible refine auS ?_)
            | (first | simp only [mkS_size] | simp only [mkS_app])
            | (with_reducible refine auD ?_)
            | ((with_reducible refine auB ?_ ?_); all_goals first | ((with_reducible intro h); first | exact auH | simp only [h, runR_t, runR_f] | skip) | skip)
            | (first | (simp only [Int.toNat_natCast, ext]) | (refine runR_n (by simp only [mkS_size]; omega) ?_) | fail))
          (all_goals first | exact auP | skip)
          refine nx_loop ⟨(k + 1, acc ++ t.data, g + 1), ⟨hlt, hp, by dsimp only; rw [List.length_append]; omega⟩, by dsimp only; omega, ?_⟩
          refine le_mk ?_ ?_ (Nat.le_refl _)
          all_goals first | with_reducible refine auE ?_ | exact auE0
          all_goals (repeat' (first | exact trivial | exact rfl | apply And.intro))
          all_goals first
            | exact dint ((IntWalk.i64_in _ (by omega)).trans (by omega))
            | rfl
        · rw [if_neg he] at hp
          repeat' (first
            | (with_reducible refine auS ?_)
            | (first | simp only [mkS_size] | simp only [mkS_app])
            | (with_reducible refine auD ?_)
            | ((with_reducible refine auB ?_ ?_); all_goals first | ((with_reducible intro h); first | exact auH | simp only [h, runR_t, runR_f] | skip) | skip)
            | (first | (simp only [Int.toNat_natCast, ext]) | fail))
          (all_goals first | exact auP | skip)
          refine nx_loop ⟨(k + 1, acc, g + 1), ⟨hlt, hp, hacc⟩, by dsimp only; omega, ?_⟩
          refine le_mk ?_ ?_ (Nat.le_refl _)
          all_goals first | with_reducible refine auE ?_ | exact auE0
          all_goals (repeat' (first | exact trivial | exact rfl | apply And.intro))
          all_goals first
            | exact dint ((IntWalk.i64_in _ (by omega)).trans (by omega))
            | rfl
      obtain rfl : k = L.length := by omega
      rw [List.drop_length, accR] at hp
      have hlast := lastP_get L (fun q => by rw [q] at hL1; simp at hL1)
      have exl := xget_map Pt.enc L (L.length - 1) (lastP L) hlast
      have hlo := ptOk_fact (chR_ge hch2 _ (List.mem_of_getElem? hlast)).2
      have e1 : IntKind.i64.wrap ((L.length : Int) - 1) = ((L.length - 1 : Nat) : Int) := by rw [IntWalk.i64_in _ (by omega)]; omega
      have hll : L.length - 1 < L.length := by omega
      have hfi := hlo.2.2.2.2.1
      generalize lastP L = q at *
      have wq : IntKind.i64.wrap (q.at' + (q.data.length : Nat)) = q.fin := by
        rw [IntWalk.i64_in _ (by unfold Pt.fin at hfi; omega)]
        rfl
      generalize q.fin = qf at *
      rw [hp] at haw
      rw [if_pos hm6]
      have hset : xset (l.map Hp.enc) i (splice (xget (l.map Hp.enc) i) 0 [.v (.int .u32 ufr), .v (.int .u32 uto), .v (.int .i64 upr), .v (.int .i64 uid), .v (.int .i64 tos), .v (.int .i64 life), .v (.string (mkS opt)), dPs L]) = (l.set i ⟨ufr, uto, upr, uid, tos, life, opt, L⟩).map Hp.enc := by
        rw [exi]
        exact xset_map Hp.enc l i ⟨ufr, uto, upr, uid, tos, life, opt, L⟩
      obtain ⟨qa, qd, ql⟩ := q
      dsimp only at *
      cases ql
      all_goals try have haw2 := haw.2 rfl
      all_goals
        repeat' (first
          | (with_reducible refine auS ?_)
          | (first | simp only [mkS_size] | simp only [List.length_map, e1, wq, Nat.zero_add] | (with_reducible refine runR_call hwo ?_) | (with_reducible refine runR_callO 12 (hpc _) ?_))
          | (with_reducible refine auD ?_)
          | ((with_reducible refine auB ?_ ?_); all_goals first | ((with_reducible intro h); first | exact auH | simp only [h, runR_t, runR_f] | skip) | skip)
          | (first | (simp only [Int.toNat_natCast, exl, Nat.zero_add]) | (refine runR_n ⟨by (simp only [List.length_map]; omega), by trivial⟩ ?_) | fail))
        (all_goals first | exact auP | skip)
      all_goals refine retq_le (leG_freeze hW ⟨.d0, .d0, .d4⟩ rfl rfl ⟨rfl, rfl, by (dsimp only; rw [xset_len]; simp)⟩) ?_
      all_goals dsimp only
      all_goals rw [hset, xall (by simp)]
      all_goals
        all_goals with_reducible refine auF ?_
        all_goals (try first | with_reducible refine auR ?_ | exact auR0)
        all_goals (try simp only [hsM] at *)
      all_goals rfl
    · skip
      refine hspec_fn Try.func5 rfl ok_custref_Fed okr_custref_Fed rfl (by kernel_rfl) ?_
      intro Γ hW0 hN0 hL0
      have hW := hW0 rfl
      clear hW0 hN0 hL0
      unfold x_custref_Fed r_custref_Fed
      with_reducible refine auC ?_
      repeat' (first
        | ((with_reducible refine atGo ?_); (refine go_leG (leG_freezeP hW ⟨.d0, .d0, .d3⟩ rfl rfl ⟨rfl, rfl, Nat.succ_pos _⟩) ?_))
        | (with_reducible refine auS ?_)
        | (first | (with_reducible refine runR_call hchk ?_) | (with_reducible refine runR_call hw ?_) | (with_reducible refine runR_call hidx ?_) | (refine atCall 22 (runR_call (hcp _) ?_)) | (with_reducible refine runR_call hwo ?_) | simp only [mkS_size] | simp only [w1, w2, hsb, hm2, decide_false, Int.toNat_natCast, Nat.zero_add, exi] | simp only [decide_false])
        | (with_reducible refine auD ?_)
        | ((with_reducible refine auB ?_ ?_); all_goals first | ((with_reducible intro h); first | exact auH | simp only [h, runR_t, runR_f] | skip) | skip)
        | (first | fail | fail))
      (all_goals first | exact auP | skip)
      refine go_loopH (α := Nat × Nat) (fun a => [(⟨.d1, .d6, .d6⟩, .v (.int .i64 (a.1 : Nat)))]) (fun _ => [(7, none)]) (fun a => a.2) (fun a => ups.length - a.1) (fun a => a.1 ≤ ups.length ∧ (ups.drop a.1).any (clash ⟨8 * start, data, false⟩) = rr) (0, Γ.g0 + 5) ⟨Nat.zero_le _, hany⟩ ?_ ?_
      · skip
        refine le_mk ?_ ?_ (Nat.le_refl _)
        all_goals first | with_reducible refine auE ?_ | exact auE0
        all_goals (repeat' (first | exact trivial | exact rfl | apply And.intro))
      rintro ⟨k, g⟩ ⟨hk, hp⟩
      dsimp only at hk hp ⊢
      with_reducible refine auL ?_
      by_cases hlt : k < ups.length
      · obtain ⟨⟨ta, td, tl⟩, ht⟩ : ∃ t, ups[k]? = some t := ⟨_, List.getElem?_eq_getElem hlt⟩
        have htm := List.mem_of_getElem? ht
        have ext := xget_map Pt.enc ups k ⟨ta, td, tl⟩ ht
        have hto := ptOk_fact (chR_ge hch _ htm).2
        rw [List.drop_eq_getElem_cons hlt, show ups[k] = ⟨ta, td, tl⟩ from Option.some.inj ((List.getElem?_eq_getElem hlt).symm.trans ht), List.any_cons] at hp
        have hcn := clash_no (n := ⟨8 * start, data, false⟩) (o := ⟨ta, td, tl⟩)
        have hcy := clash_yes (n := ⟨8 * start, data, false⟩) (o := ⟨ta, td, tl⟩)
        unfold Pt.fin at hto hcn hcy
        dsimp only at hto hcn hcy
        have wt : IntKind.i64.wrap (ta + (td.length : Nat)) = ta + (td.length : Nat) := IntWalk.i64_in _ (by omega)
        cases hcl : clash ⟨8 * start, data, false⟩ ⟨ta, td, tl⟩ with
        | true =>
          rw [hcl, Bool.true_or] at hp
          first
            | (exfalso; rw [hrr] at hp; cases hp; done)
            | (have hc := hcy hcl
               clear hcn hcy hany hp
               cases tl
               all_goals simp only [Bool.false_eq_true, false_and, true_and, or_false, false_or] at hc
               all_goals
                 repeat' (first
                   | (with_reducible refine auS ?_)
                   | (first | (with_reducible refine runR_call hwo ?_) | simp only [mkS_size] | simp only [w2] | simp only [wt])
                   | (with_reducible refine auD ?_)
                   | ((with_reducible refine auB ?_ ?_); all_goals first | ((with_reducible intro h); first | exact auH | simp only [h, runR_t, runR_f] | skip) | skip)
                   | (first | (simp only [Int.toNat_natCast, ext]) | fail))
                 (all_goals first | exact auP | skip)
               all_goals
                 all_goals with_reducible refine auF ?_
                 all_goals (try first | with_reducible refine auR ?_ | exact auR0)
                 all_goals (try simp only [hsM] at *)
               all_goals rfl)
        | false =>
          rw [hcl, Bool.false_or] at hp
          obtain ⟨d1, d2, d3⟩ := hcn hcl
          clear hcn hcy
          cases tl
          all_goals simp only [Bool.false_eq_true, true_implies, false_implies] at d2 d3
          all_goals
            repeat' (first
              | (with_reducible refine auS ?_)
              | (first | (with_reducible refine runR_call hwo ?_) | simp only [mkS_size] | simp only [w2] | simp only [wt])
              | (with_reducible refine auD ?_)
              | ((with_reducible refine auB ?_ ?_); all_goals first | ((with_reducible intro h); first | exact auH | simp only [h, runR_t, runR_f] | skip) | skip)
              | (first | (simp only [Int.toNat_natCast, ext]) | fail))
            (all_goals first | exact auP | skip)
          all_goals refine nx_loop ⟨(k + 1, g + 1), ⟨hlt, hp⟩, by dsimp only; omega, ?_⟩
          all_goals
            refine le_mk ?_ ?_ (Nat.le_refl _)
            all_goals first | with_reducible refine auE ?_ | exact auE0
            all_goals (repeat' (first | exact trivial | exact rfl | apply And.intro))
          all_goals first
            | exact dint ((IntWalk.i64_in _ (by omega)).trans (by omega))
            | rfl
      obtain rfl : k = ups.length := by omega
      rw [List.drop_length] at hp
      clear hany hp hrr
      repeat' (first
        | ((with_reducible refine atGo ?_); (refine go_frzH hW 5 9 (by decide) L rfl rfl ?_))
        | (with_reducible refine auS ?_)
        | (first | simp only [w2] | (with_reducible refine runR_callO 12 (hco _) ?_) | ((with_reducible refine atCall 24 ?_); (simp only [List.length_map, hL1, hsn]); (refine runR_callL [9] (by decide) rfl rfl (hsort _) ?_)))
        | (with_reducible refine auD ?_)
        | ((with_reducible refine auB ?_ ?_); all_goals first | ((with_reducible intro h); first | exact auH | simp only [h, runR_t, runR_f] | skip) | skip)
        | (first | (refine runR_n ⟨by trivial, by trivial, by trivial, by trivial, by simp⟩ ?_) | (refine runR_n ⟨by rfl, by (unfold room maxLen; simp only [List.length_map, List.length_cons, List.length_nil]; omega)⟩ ?_) | fail))
      (all_goals first | exact auP | skip)
      refine go_loopH (α := Nat × B8 × Nat) (fun a => [(⟨.d3, .d1, .d4⟩, .v (.int .i64 (a.1 : Nat))), (⟨.d0, .d2, .d0⟩, .v (.string (mkS a.2.1)))]) (fun _ => [(10, none)]) (fun a => a.2.2) (fun a => L.length - a.1) (fun a => a.1 ≤ L.length ∧ accR L [] = accR (L.drop a.1) a.2.1 ∧ a.2.1.length ≤ 65515) (0, [], g + 3) ⟨Nat.zero_le _, rfl, Nat.zero_le _⟩ ?_ ?_
      · skip
        refine le_mk ?_ ?_ (Nat.le_refl _)
        all_goals first | with_reducible refine auE ?_ | exact auE0
        all_goals (repeat' (first | exact trivial | exact rfl | apply And.intro))
        all_goals rfl
      rintro ⟨k, acc, g⟩ ⟨hk, hp, hacc⟩
      dsimp only at hk hp hacc ⊢
      with_reducible refine auL ?_
      by_cases hlt : k < L.length
      · obtain ⟨t, ht⟩ : ∃ t, L[k]? = some t := ⟨_, List.getElem?_eq_getElem hlt⟩
        have ext := xget_map Pt.enc L k t ht
        have hto := ptOk_fact (chR_ge hch2 t (List.mem_of_getElem? ht)).2
        have hfi := hto.2.2.2.2.1
        unfold Pt.fin at hfi
        rw [List.drop_eq_getElem_cons hlt, show L[k] = t from Option.some.inj ((List.getElem?_eq_getElem hlt).symm.trans ht), accR] at hp
        by_cases he : t.at' = (acc.length : Nat)
        · rw [if_pos he] at hp
          repeat' (first
            | (with_reducible refine auS ?_)
            | (first | simp only [mkS_size] | simp only [mkS_app])
            | (with_reducible refine auD ?_)
            | ((with_reducible refine auB ?_ ?_); all_goals first | ((with_reducible intro h); first | exact auH | simp only [h, runR_t, runR_f] | skip) | skip)
            | (first | (simp only [Int.toNat_natCast, ext]) | (refine runR_n (by simp only [mkS_size]; omega) ?_) | fail))
          (all_goals first | exact auP | skip)
          refine nx_loop ⟨(k + 1, acc ++ t.data, g + 1), ⟨hlt, hp, by dsimp only; rw [List.length_append]; omega⟩, by dsimp only; omega, ?_⟩
          refine le_mk ?_ ?_ (Nat.le_refl _)
          all_goals first | with_reducible refine auE ?_ | exact auE0
          all_goals (repeat' (first | exact trivial | exact rfl | apply And.intro))
          all_goals first
            | exact dint ((IntWalk.i64_in _ (by omega)).trans (by omega))
            | rfl
        · rw [if_neg he] at hp
          repeat' (first
            | (with_reducible refine auS ?_)
            | (first | simp only [mkS_size] | simp only [mkS_app])
            | (with_reducible refine auD ?_)
            | ((with_reducible refine auB ?_ ?_); all_goals first | ((with_reducible intro h); first | exact auH | simp only [h, runR_t, runR_f] | skip) | skip)
            | (first | (simp only [Int.toNat_natCast, ext]) | fail))
          (all_goals first | exact auP | skip)
          refine nx_loop ⟨(k + 1, acc, g + 1), ⟨hlt, hp, hacc⟩, by dsimp only; omega, ?_⟩
          refine le_mk ?_ ?_ (Nat.le_refl _)
          all_goals first | with_reducible refine auE ?_ | exact auE0
          all_goals (repeat' (first | exact trivial | exact rfl | apply And.intro))
          all_goals first
            | exact dint ((IntWalk.i64_in _ (by omega)).trans (by omega))
            | rfl
      obtain rfl : k = L.length := by omega
      rw [List.drop_length, accR] at hp
      have hlast := lastP_get L (fun q => by rw [q] at hL1; simp at hL1)
      have exl := xget_map Pt.enc L (L.length - 1) (lastP L) hlast
      have hlo := ptOk_fact (chR_ge hch2 _ (List.mem_of_getElem? hlast)).2
      have e1 : IntKind.i64.wrap ((L.length : Int) - 1) = ((L.length - 1 : Nat) : Int) := by rw [IntWalk.i64_in _ (by omega)]; omega
      have hll : L.length - 1 < L.length := by omega
      have hfi := hlo.2.2.2.2.1
      generalize lastP L = q at *
      have wq : IntKind.i64.wrap (q.at' + (q.data.length : Nat)) = q.fin := by
        rw [IntWalk.i64_in _ (by unfold Pt.fin at hfi; omega)]
        rfl
      generalize q.fin = qf at *
      rw [hp] at haw
      rw [if_neg hm6]
      have hset : xset (l.map Hp.enc) i (splice (xget (l.map Hp.enc) i) 0 [.v (.int .u32 ufr), .v (.int .u32 uto), .v (.int .i64 upr), .v (.int .i64 uid), .v (.int .i64 utos), .v (.int .i64 ulife), .v (.string (mkS uopt)), dPs L]) = (l.set i ⟨ufr, uto, upr, uid, utos, ulife, uopt, L⟩).map Hp.enc := by
        rw [exi]
        exact xset_map Hp.enc l i ⟨ufr, uto, upr, uid, utos, ulife, uopt, L⟩
      obtain ⟨qa, qd, ql⟩ := q
      dsimp only at *
      cases ql
      all_goals try have haw2 := haw.2 rfl
      all_goals
        repeat' (first
          | (with_reducible refine auS ?_)
          | (first | simp only [mkS_size] | simp only [List.length_map, e1, wq, Nat.zero_add] | (with_reducible refine runR_call hwo ?_) | (with_reducible refine runR_callO 12 (hpc _) ?_))
          | (with_reducible refine auD ?_)
          | ((with_reducible refine auB ?_ ?_); all_goals first | ((with_reducible intro h); first | exact auH | simp only [h, runR_t, runR_f] | skip) | skip)
          | (first | (simp only [Int.toNat_natCast, exl, Nat.zero_add]) | (refine runR_n ⟨by (simp only [List.length_map]; omega), by trivial⟩ ?_) | fail))
        (all_goals first | exact auP | skip)
      all_goals refine retq_le (leG_freeze hW ⟨.d0, .d0, .d4⟩ rfl rfl ⟨rfl, rfl, by (dsimp only; rw [xset_len]; simp)⟩) ?_
      all_goals dsimp only
      all_goals rw [hset, xall (by simp)]
      all_goals
        all_goals with_reducible refine auF ?_
        all_goals (try first | with_reducible refine auR ?_ | exact auR0)
        all_goals (try simp only [hsM] at *)
      all_goals rfl
end Go.Proofs.Ytidogmmfakcfgaa
