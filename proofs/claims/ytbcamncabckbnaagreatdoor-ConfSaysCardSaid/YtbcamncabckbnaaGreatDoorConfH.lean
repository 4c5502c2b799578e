/-
  What the reference's reading of a plan needs: texts cut at line ends, words had, how many numbers a line tells.
-/
import Derived.Test.YtbcamncabckbnaaGreatDoorConfK
import Derived.Test.YtbcamncabckbnaaGreatDoorConfM
import Derived.Test.YtbcamncabckbnaaGreatDoorRulC
import Derived.Test.YtbcamncabckbnaaGreatDoorConfO
namespace Go.Proofs.YtbcamncabckbnaaGreatDoor
set_option linter.unusedVariables false
set_option linter.unusedSimpArgs false
theorem idx_infix {sub : W8} (hne : sub ≠ []) : ∀ l : W8, 0 ≤ Lib.index l sub ↔ sub <:+: l
  | [] => by
    rw [Lib.index]
    have : sub.isEmpty = false := by cases sub <;> simp_all
    rw [this]
    constructor
    · intro h; simp at h
    · intro h
      have := List.infix_nil.1 h
      exact absurd this hne
  | b :: l => by
    have ih := idx_infix hne l
    have hge := Lib.index_ge l sub
    rw [Lib.index, List.infix_cons_iff]
    by_cases hp : sub.isPrefixOf (b :: l) = true
    · rw [if_pos hp]
      exact ⟨fun _ => .inl (List.isPrefixOf_iff_prefix.1 hp), fun _ => Int.le_refl _⟩
    · rw [if_neg hp]
      have hp' : ¬ sub <+: b :: l := fun q => hp (List.isPrefixOf_iff_prefix.2 q)
      by_cases hm : Lib.index l sub = -1
      · have hb : (Lib.index l sub == -1) = true := by simpa using hm
        rw [if_pos hb]
        constructor
        · intro h; omega
        · rintro (h | h)
          · exact absurd h hp'
          · have := ih.2 h; omega
      · have hb : ¬ (Lib.index l sub == -1) = true := by simpa using hm
        rw [if_neg hb]
        constructor
        · intro _; exact .inr (ih.1 (by omega))
        · intro _; omega
theorem contains_had (H : List W8) (hH : HadOk H) (w : W8) (hw : w ∈ five5) : Spec Tryz.prog 30 [.v (.string (mkS (hadT H))), .v (.string (mkS (w ++ [32])))] (.v (.bool (decide (w ∈ H)))) := by
  have e : Lib.contains (hadT H) (w ++ [32]) = decide (w ∈ H) := by
    have h1 := idx_infix (sub := w ++ [32]) (by simp) (hadT H)
    have h2 := hadT_has hH.1 hw
    unfold Lib.contains
    by_cases hm : w ∈ H
    · have := h1.2 (h2.2 hm)
      simp [hm]
      omega
    · have : ¬ 0 ≤ Lib.index (hadT H) (w ++ [32]) := fun q => hm (h2.1 (h1.1 q))
      simp [hm]
      omega
  have hd : ∀ l : W8, (mkS l).data.toList = l := fun l => by simp [mkS]
  have hlen := hadOk_len hH
  refine spec_of_calls (by kernel_rfl) fun K w0 vs g0 hI ha => ?_
  obtain ⟨v1, v2, rfl, r1, r2⟩ := args2 ha
  cases r1
  cases r2
  obtain ⟨m, hm⟩ : IntC (w0.cell? ⟨0, 0, none⟩) := cellIs_int ((hI.glob (g := 0) (cs := [.tuple #[.nilIface]]) (by unfold gtab; simp)).2.2.1 0 _ rfl)
  refine (Tryz.strings_Contains (mkS (hadT H)) (mkS (w ++ [32])) m w0 (by rw [mkS_size]; omega) hm).mono fun e' w' ⟨he, hw'⟩ => ⟨_, he, ?_, ?_⟩
  · rw [hw']
    exact Ext.refl _ _
  · rw [hd, hd, e]
    exact .v _
theorem cutB_rest {c : UInt8} : ∀ l : W8, (cutB c l).2.2 = false → (cutB c l).2.1 = []
  | [], _ => rfl
  | b :: l, h => by
    unfold cutB at h ⊢
    split at h
    · cases h
    · rename_i hb
      rw [if_neg hb]
      exact cutB_rest l h
theorem goP_last (i : Nat) (p : Pl) (H : List W8) (l : W8) : goP i p H [l] = goP i p H [l, []] := by
  have e : ∀ (i : Nat) (p : Pl) (H : List W8), goP i p H [] = goP i p H [[]] := fun i p H => by rw [goP_empty, goP]
  cases h : wordsL l with
  | nil => rw [goP_skip0 h, goP_skip0 h, e]
  | cons w0 r => rw [goP_cons h, goP_cons h, e, e, e]
theorem goP_cut (i : Nat) (p : Pl) (H : List W8) (s : W8) : goP i p H (spl 10 s) = goP i p H ((cutB 10 s).1 :: spl 10 (cutB 10 s).2.1) := by
  rw [cutB_spl]
  cases h : (cutB 10 s).2.2 with
  | true => rw [if_pos rfl]
  | false =>
    rw [if_neg (by simp), cutB_rest s h]
    exact goP_last _ _ _ _
def cntL (c : UInt8) : Nat := if c = 97 then 1 else if c = 110 then 1 else if c = 118 then 0 else if c = 116 then 2 else if c = 98 then 2 else 0
theorem rOne_cnt (c : UInt8) (s : W8) (x : NS) : (rOne c s x).1.length = x.1.length + cntL c := by
  unfold rOne cntL rNum rAdr
  split
  · simp
  · split
    · simp
    · split
      · simp
      · split
        · simp
        · split
          · simp
          · simp
theorem rAll_cnt : ∀ (sh : W8) (r : List W8) (x : NS), sh.length = r.length → (rAll sh r x).1.length = x.1.length + (sh.map cntL).sum
  | [], [], x, _ => by simp [rAll]
  | c :: cs, s :: ss, x, h => by
    rw [rAll, rAll_cnt cs ss _ (by simpa using h), rOne_cnt]
    simp
    omega
  | [], _ :: _, _, h => by simp at h
  | _ :: _, [], _, h => by simp at h
theorem lineN_ok {w0 : W8} {r : List W8} (h : (lineN w0 r).2 = true) : condN w0 r := by
  by_cases hc : condN w0 r
  · exact hc
  · have : lineN w0 r = ([], false) := if_neg hc
    rw [this] at h
    cases h
theorem lineN_cnt {w0 : W8} {r : List W8} (h : condN w0 r) : (lineN w0 r).1.length = ((shapeR w0).1.map cntL).sum := by
  have e : lineN w0 r = rAll (shapeR w0).1 r ([], true) := if_pos h
  rw [e, rAll_cnt _ _ _ h.2]
  simp
end Go.Proofs.YtbcamncabckbnaaGreatDoor
namespace Go.Proofs.YtbcamncabckbnaaGreatDoor
set_option linter.unusedVariables false
set_option linter.unusedSimpArgs false
theorem le_pl4 {st : St} {np : Nat} {a1 a2 a3 a4 a5 a6 b : DV} (hp : lget st.H 2 = some ⟨np, 8, [[a1, a2, a3, a4, a5, a6, .v (.slice none 0 0), b]]⟩) : Le st ⟨st.tm, lset (lset st.H 2 (some ⟨np, 8, [[a1, a2, a3, a4, a5, a6, .sl 4 st.gen 10 0 0 false, b]]⟩)) 4 (some ⟨st.gen, 10, []⟩), st.gen + 1⟩ :=
  le_rowG 2 4 10 8 (by decide) hp rfl (fun i d d' h1 h2 => by
    match i, h1, h2 with
    | 6, h1, h2 => exact .inr ⟨(Option.some.inj h1).symm, _, (Option.some.inj h2).symm⟩
    | 0, h1, h2 => exact .inl ((Option.some.inj h2).symm.trans (Option.some.inj h1))
    | 1, h1, h2 => exact .inl ((Option.some.inj h2).symm.trans (Option.some.inj h1))
    | 2, h1, h2 => exact .inl ((Option.some.inj h2).symm.trans (Option.some.inj h1))
    | 3, h1, h2 => exact .inl ((Option.some.inj h2).symm.trans (Option.some.inj h1))
    | 4, h1, h2 => exact .inl ((Option.some.inj h2).symm.trans (Option.some.inj h1))
    | 5, h1, h2 => exact .inl ((Option.some.inj h2).symm.trans (Option.some.inj h1))
    | 7, h1, h2 => exact .inl ((Option.some.inj h2).symm.trans (Option.some.inj h1))
    | i + 8, h1, h2 => simp at h1) (by decide)
abbrev p4 (np m : Nat) (p : Pl) : AObj := ⟨np, 8, [p.enc (.sl 4 m 10 0 p.rs.length false)]⟩
theorem out9 {o : List Int} (h : o.length = 9) : ∃ a b c d e f g i j, o = [a, b, c, d, e, f, g, i, j] := by
  match o, h with
  | [a, b, c, d, e, f, g, i, j], _ => exact ⟨a, b, c, d, e, f, g, i, j, rfl⟩
theorem out1 {o : List Int} (h : o.length = 1) : ∃ a, o = [a] := by
  match o, h with
  | [a], _ => exact ⟨a, rfl⟩
theorem out2 {o : List Int} (h : o.length = 2) : ∃ a b, o = [a, b] := by
  match o, h with
  | [a, b], _ => exact ⟨a, b, rfl⟩
theorem rowH_len (l : List W8) : (rowS (l.map mkS)).length = l.length := by simp [rowS]
theorem hadT_nil : hadT [] = [] := rfl
set_option maxHeartbeats 16000000 in
theorem textPlan_spec (s : W8) (hmax : s.length ≤ 140737488355328) : Spec Tryz.prog 7 [.v (.string (mkS s))] (dRead (readR s)) := by
  by_cases hlen : 20000 < s.length
  · have e : readR s = (pl0, 0, 2) := by unfold readR; rw [if_pos hlen]
    rw [e, dRead_bad (by decide)]
    refine hspec_fn Tryz.func7 rfl ok_custref_TextPlan okr_custref_TextPlan rfl (by kernel_rfl) ?_
    intro Γ hW0 hN0 hL0
    have hW := hW0 rfl
    clear hW0 hN0 hL0
    unfold x_custref_TextPlan r_custref_TextPlan
    with_reducible refine auC ?_
    repeat' (first
      | (with_reducible refine auS ?_)
      | (simp only [mkS_size])
      | (with_reducible refine auD ?_)
      | ((with_reducible refine auB ?_ ?_); all_goals first | (intro h; first | exact auH | simp only [h, runR_t, runR_f] | skip) | skip)
      | fail)
    (all_goals first | exact auP | skip)
    all_goals with_reducible refine auF ?_
    all_goals (try first | with_reducible refine auR ?_ | exact auR0)
    all_goals (try simp only [hsM] at *)
    all_goals rfl
  have hR : readR s = fin1 (goP 0 pl0 [] (spl 10 s)) := by unfold readR; rw [if_neg hlen]
  rw [hR]
  generalize hG : goP 0 pl0 [] (spl 10 s) = G at *
  have em : (ByteArray.mk #[] : ByteArray) = mkS (hadT []) := rfl
  refine hspec_fn Tryz.func7 rfl ok_custref_TextPlan okr_custref_TextPlan rfl (by kernel_rfl) ?_
  intro Γ hW0 hN0 hL0
  have hW := hW0 rfl
  clear hW0 hN0 hL0
  unfold x_custref_TextPlan r_custref_TextPlan
  with_reducible refine auC ?_
  repeat' (first
    | ((with_reducible refine atGo ?_); (refine go_le (le_pl4 rfl) ?_))
    | (with_reducible refine auS ?_)
    | (first | (simp only [mkS_size, em]))
    | (with_reducible refine auD ?_)
    | ((with_reducible refine auB ?_ ?_); all_goals first | (intro h; first | exact auH | simp only [h, runR_t, runR_f] | skip) | skip)
    | fail)
  (all_goals first | exact auP | skip)
  refine go_loopH (α := Nat × Pl × List W8 × W8 × Nat × Nat) (fun x => [(⟨.d0, .d0, .d0⟩, .v (.string (mkS x.2.2.2.1))), (⟨.d0, .d0, .d7⟩, .v (.string (mkS (hadT x.2.2.1)))), (⟨.d0, .d1, .d0⟩, .v (.int .i64 ((x.1 + 1 : Nat) : Int)))]) (fun x => [(2, some (p4 (Γ.g0 + 2) x.2.2.2.2.1 x.2.1)), (3, none), (4, some ⟨x.2.2.2.2.1, 10, x.2.1.rs.map Rl.enc⟩)]) (fun x => x.2.2.2.2.2) (fun x => x.2.2.2.1.length)
    (fun x => x.2.2.2.1.length + x.1 ≤ s.length ∧ x.2.1.rs.length ≤ x.1 ∧ HadOk x.2.2.1 ∧ x.2.1.wf ∧ G = goP x.1 x.2.1 x.2.2.1 (spl 10 x.2.2.2.1)) (0, pl0, [], s, Γ.g0 + 3, Γ.g0 + 4) ⟨Nat.le_refl _, Nat.zero_le _, hadOk_nil, pl0_wf, hG.symm⟩ ?_ ?_
  · skip
    refine le_mk ?_ ?_ (Nat.le_refl _)
    all_goals first | with_reducible refine auE ?_ | exact auE0
    all_goals (repeat' (first | exact trivial | exact rfl | apply And.intro))
  rintro ⟨i, p, had, rest, rn, gn⟩ ⟨hle, hpl, hhad, hwf, hgo⟩
  dsimp only at hle hpl hhad hwf hgo ⊢
  with_reducible refine auL ?_
  have hln := hadOk_len hhad
  by_cases hrest : rest = []
  · subst hrest
    rw [show spl 10 ([] : W8) = [[]] from rfl, goP_empty] at hgo
    have hd : decide (mkS ([] : W8) = mkS (hadT [])) = true := decide_eq_true rfl
    have hchk := planRight_spec p false hwf (by unfold maxLen; omega)
    have hml3 : (p.rs.map Rl.enc).length = p.rs.length := by simp
    have hnf : nfLL Γ.g0 (p.rs.map Rl.enc) := nfLL_map (fun x => by simp [nfL, nfD])
    have hfz : frzLL ⟨rn, 10, p.rs.map Rl.enc⟩ [p.enc (.sl 4 rn 10 0 p.rs.length false)] [p.enc (.snap 10 (p.rs.map Rl.enc) false)] := by
      refine ⟨⟨rfl, rfl, rfl, rfl, rfl, rfl, .inl ⟨rfl, rfl, ?_, ?_⟩, rfl, rfl⟩, rfl⟩
      · show 0 + _ ≤ _
        rw [hml3]
        omega
      · show DV.snap _ _ _ = DV.snap _ _ _
        rw [xall (by rw [hml3])]
    rw [hgo]
    unfold fin1
    dsimp only
    by_cases h5 : had.length < 5
    · have h29 : decide ((((hadT had).length : Nat) : Int) = 29) = false := decide_eq_false (fun q => (hln.1.1 (by omega)) h5)
      rw [if_pos h5, dRead_bad (by show ¬ (7 : Int) = 0; decide)]
      repeat' (first
        | ((with_reducible refine atGo ?_); (refine go_leG (leG_freezeO hW 2 4 (by decide) rfl rfl hfz) ?_))
        | (with_reducible refine auS ?_)
        | (first | (simp only [em, hd, mkS_size, h29]) | (with_reducible refine runR_call hchk ?_))
        | (with_reducible refine auD ?_)
        | ((with_reducible refine auB ?_ ?_); all_goals first | (intro h; first | exact auH | simp only [h, runR_t, runR_f] | skip) | skip)
        | fail)
      (all_goals first | exact auP | skip)
      all_goals with_reducible refine auF ?_
      all_goals (try first | with_reducible refine auR ?_ | exact auR0)
      all_goals (try simp only [hsM] at *)
      all_goals rfl
    have h29 : decide ((((hadT had).length : Nat) : Int) = 29) = true := decide_eq_true (by have := hln.1.2 h5; omega)
    rw [if_neg h5]
    by_cases hE : plE p = 0
    · rw [if_pos hE]
      rw [hE] at hchk
      have e : dRead (p, 0, 0) = .tup [dPl p false, .v (.int .i64 0), .v (.int .i64 0)] := by
        unfold dRead dOut
        rw [if_pos rfl]
      rw [e]
      repeat' (first
        | ((with_reducible refine atGo ?_); (refine go_leG (leG_freezeO hW 2 4 (by decide) rfl rfl hfz) ?_))
        | (with_reducible refine auS ?_)
        | (first | (simp only [em, hd, mkS_size, h29]) | (with_reducible refine runR_call hchk ?_))
        | (with_reducible refine auD ?_)
        | ((with_reducible refine auB ?_ ?_); all_goals first | (intro h; first | exact auH | simp only [h, runR_t, runR_f] | skip) | skip)
        | fail)
      (all_goals first | exact auP | skip)
      all_goals with_reducible refine auF ?_
      all_goals (try first | with_reducible refine auR ?_ | exact auR0)
      all_goals (try simp only [hsM] at *)
      all_goals rfl
    · rw [if_neg hE, dRead_bad hE]
      generalize plE p = E at *
      repeat' (first
        | ((with_reducible refine atGo ?_); (refine go_leG (leG_freezeO hW 2 4 (by decide) rfl rfl hfz) ?_))
        | (with_reducible refine auS ?_)
        | (first | (simp only [em, hd, mkS_size, h29]) | (with_reducible refine runR_call hchk ?_))
        | (with_reducible refine auD ?_)
        | ((with_reducible refine auB ?_ ?_); all_goals first | (intro h; first | exact auH | simp only [h, runR_t, runR_f] | skip) | skip)
        | fail)
      (all_goals first | exact auP | skip)
      all_goals with_reducible refine auF ?_
      all_goals (try first | with_reducible refine auR ?_ | exact auR0)
      all_goals (try simp only [hsM] at *)
      all_goals rfl
  · have hd : decide (mkS rest = mkS (hadT [])) = false := decide_eq_false (fun q => hrest (mkS_inj.1 q))
    have hcut := cut_spec 10 rest (by omega)
    have e10 : (ByteArray.mk #[10] : ByteArray) = mkS [10] := rfl
    obtain ⟨hc1, hc2, hc3⟩ := cutB_len (c := 10) rest
    have hc3 := hc3 hrest
    rw [goP_cut] at hgo
    generalize (cutB 10 rest).1 = l at *
    generalize (cutB 10 rest).2.1 = rest' at *
    generalize (cutB 10 rest).2.2 = fnd at *
    have hwd := wordsOf_spec l (by omega)
    have w1 : IntKind.i64.wrap (((i + 1 : Nat) : Int) + 1) = ((i + 1 + 1 : Nat) : Int) := by rw [IntWalk.i64_in _ (by omega)]; omega
    cases hws : wordsL l with
    | nil =>
      rw [goP_skip0 hws] at hgo
      rw [hws] at hwd
      have hz0 : decide ((((rowS (([] : List W8).map mkS)).length : Nat) : Int) = 0) = true := by decide
      repeat' (first
        | (with_reducible refine auS ?_)
        | (first | (simp only [em, hd, e10, hz0, w1]) | (with_reducible refine runR_call hcut ?_) | (with_reducible refine runR_call hwd ?_))
        | (with_reducible refine auD ?_)
        | ((with_reducible refine auB ?_ ?_); all_goals first | (intro h; first | exact auH | simp only [h, runR_t, runR_f] | skip) | skip)
        | fail)
      (all_goals first | exact auP | skip)
      refine nx_loop ⟨(i + 1, p, had, rest', rn, gn), ⟨by show rest'.length + (i + 1) ≤ s.length; omega, Nat.le_succ_of_le hpl, hhad, hwf, hgo⟩, hc3, ?_⟩
      refine le_mk ?_ ?_ (Nat.le_refl _)
      all_goals first | with_reducible refine auE ?_ | exact auE0
      all_goals (repeat' (first | exact trivial | exact rfl | apply And.intro))
    | cons w0 r =>
      rw [goP_cons hws] at hgo
      rw [hws] at hwd
      have hml : ∀ w ∈ w0 :: r, w.length ≤ 1048576 ∧ w ≠ [] := fun w hw => by
        rw [← hws] at hw
        refine ⟨?_, (wordsL_mem hw).1⟩
        unfold wordsL at hw
        have := spl_mem_len 32 l w (List.mem_filter.1 hw).1
        omega
      have hw0 : w0 ≠ [] := (hml w0 (by simp)).2
      have hw0l : 0 < w0.length := List.length_pos_iff.2 hw0
      have hw0b := (hml w0 (by simp)).1
      have hx0 : xget (rowS ((w0 :: r).map mkS)) 0 = [.v (.string (mkS w0))] := rfl
      have hb := head35 hw0
      have hz : ∀ n : Nat, decide (((n + 1 : Nat) : Int) = 0) = false := fun n => decide_eq_false (by omega)
      by_cases h35 : w0.head? = some 35
      · rw [if_pos h35] at hgo
        rw [decide_eq_true h35] at hb
        repeat' (first
          | (with_reducible refine auS ?_)
          | (first | (simp only [em, hd, e10, w1, rowH_len, hz, hb, mkS_at, mkS_size]) | (with_reducible refine runR_call hcut ?_) | (with_reducible refine runR_call hwd ?_))
          | (with_reducible refine auD ?_)
          | ((with_reducible refine auB ?_ ?_); all_goals first | (intro h; first | exact auH | simp only [h, runR_t, runR_f] | skip) | skip)
          | (simp only [hx0]))
        (all_goals first | exact auP | skip)
        refine nx_loop ⟨(i + 1, p, had, rest', rn, gn), ⟨by show rest'.length + (i + 1) ≤ s.length; omega, Nat.le_succ_of_le hpl, hhad, hwf, hgo⟩, hc3, ?_⟩
        refine le_mk ?_ ?_ (Nat.le_refl _)
        all_goals first | with_reducible refine auE ?_ | exact auE0
        all_goals (repeat' (first | exact trivial | exact rfl | apply And.intro))
      rw [if_neg h35] at hgo
      rw [decide_eq_false h35] at hb
      have hrl : r.length ≤ 1048576 := by
        have h1 : (w0 :: r).length ≤ (spl 32 l).length := by rw [← hws]; unfold wordsL; exact List.length_filter_le _ _
        have := spl_le 32 l
        simp at h1
        omega
      have hnum := lineNumbers_spec w0 r false (fun w hw => (hml w (List.mem_cons_of_mem _ hw)).1) hrl
      obtain ⟨hok, happ⟩ := line_same p w0 r
      have hwf2 := lineB_wf hwf w0 (r, false)
      have hpl2 : (lineB p w0 (r, false)).1.rs.length ≤ i + 1 := by
        have : (lineB p w0 (r, false)).1.rs.length ≤ p.rs.length + 1 := by
          unfold lineB
          split
          · exact Nat.le_succ _
          · split
            · exact Nat.le_succ _
            · split
              · exact Nat.le_succ _
              · split
                · exact Nat.le_succ _
                · split
                  · exact Nat.le_succ _
                  · simp
        omega
      generalize (lineB p w0 (r, false)).1 = p' at *
      generalize (lineB p w0 (r, false)).2 = t' at *
      by_cases hbad : badL t' = true
      · rw [if_pos hbad] at hgo
        rw [hgo, dRead_bad (by show ¬ (10 : Int) = 0; decide)]
        rw [hbad] at hok
        unfold dLN at hnum
        rw [hok] at hnum
        by_cases hc : condN w0 r
        · rw [if_pos hc] at hnum
          generalize zR (lineN w0 r).1 = Z at *
          repeat' (first
            | (with_reducible refine auS ?_)
            | (first | (simp only [em, hd, e10, w1, rowH_len, hz, hb, mkS_at, mkS_size]) | (with_reducible refine runR_call hcut ?_) | (with_reducible refine runR_call hwd ?_) | (with_reducible refine runR_call hnum ?_))
            | (with_reducible refine auD ?_)
            | ((with_reducible refine auB ?_ ?_); all_goals first | (intro h; first | exact auH | simp only [h, runR_t, runR_f] | skip) | skip)
            | (simp only [hx0]))
          (all_goals first | exact auP | skip)
          all_goals with_reducible refine auF ?_
          all_goals (try first | with_reducible refine auR ?_ | exact auR0)
          all_goals (try simp only [hsM] at *)
          all_goals rfl
        · rw [if_neg hc] at hnum
          repeat' (first
            | (with_reducible refine auS ?_)
            | (first | (simp only [em, hd, e10, w1, rowH_len, hz, hb, mkS_at, mkS_size]) | (with_reducible refine runR_call hcut ?_) | (with_reducible refine runR_call hwd ?_) | (with_reducible refine runR_call hnum ?_))
            | (with_reducible refine auD ?_)
            | ((with_reducible refine auB ?_ ?_); all_goals first | (intro h; first | exact auH | simp only [h, runR_t, runR_f] | skip) | skip)
            | (simp only [hx0]))
          (all_goals first | exact auP | skip)
          all_goals with_reducible refine auF ?_
          all_goals (try first | with_reducible refine auR ?_ | exact auR0)
          all_goals (try simp only [hsM] at *)
          all_goals rfl
      rw [if_neg hbad] at hgo
      have hok1 : (lineN w0 r).2 = true := by rw [hok]; simpa using hbad
      have hpp := happ hok1
      have hcnd := lineN_ok hok1
      have hcnt := lineN_cnt hcnd
      unfold dLN at hnum
      rw [if_pos hcnd, hok1] at hnum
      generalize (lineN w0 r).1 = o at *
      have c1 : (ByteArray.mk #[112, 97, 115, 115] : ByteArray) = mkS wPass := rfl
      have c2 : (ByteArray.mk #[100, 114, 111, 112] : ByteArray) = mkS wDrop := rfl
      by_cases hpd : w0 = wPass ∨ w0 = wDrop
      · rw [if_pos hpd] at hgo
        have hcs : (shapeR w0).1 = [116, 116, 110, 98, 98] := by rcases hpd with rfl | rfl <;> decide
        rw [hcs] at hcnt
        obtain ⟨o0, o1, o2, o3, o4, o5, o6, o7, o8, rfl⟩ := out9 (hcnt.trans (by decide))
        have hp2 : p' = { p with rs := p.rs ++ [⟨o0, o1, o2, o3, o4, o5, o6, o7, o8, decide (w0 = wPass)⟩] } := by
          rw [← hpp]
          unfold applyN
          rw [if_pos hpd]
          rfl
        subst hp2
        have hbd := hwf2.2 _ (List.mem_append.2 (.inr (List.mem_singleton.2 rfl)))
        have u0 : IntKind.u32.wrap o0 = o0 := by have := hbd.1; dsimp only at this; rw [u32_mod]; omega
        have u2 : IntKind.u32.wrap o2 = o2 := by have := hbd.2; dsimp only at this; rw [u32_mod]; omega
        have x1 : ∀ x : Rl, (p.rs ++ [x]).length = p.rs.length + 1 := fun x => by simp
        have x2 : ∀ x : Rl, (p.rs ++ [x]).map Rl.enc = p.rs.map Rl.enc ++ [x.enc] := fun x => by simp
        have hone := rl_one p.rs
        have hml3 : (p.rs.map Rl.enc).length = p.rs.length := by simp
        have dq : decide (mkS w0 = mkS wPass) = decide (w0 = wPass) := decide_eq_decide.2 mkS_inj
        have hzR : zR [o0, o1, o2, o3, o4, o5, o6, o7, o8] = [[.v (.int .i64 o0)], [.v (.int .i64 o1)], [.v (.int .i64 o2)], [.v (.int .i64 o3)], [.v (.int .i64 o4)], [.v (.int .i64 o5)], [.v (.int .i64 o6)], [.v (.int .i64 o7)], [.v (.int .i64 o8)]] := rfl
        rw [hzR] at hnum
        rcases hpd with rfl | rfl
        all_goals
          have d1 : decide (mkS wPass = mkS wPass) = true := decide_eq_true rfl
          have d2 : decide (mkS wDrop = mkS wPass) = false := decide_eq_false (by rw [mkS_inj]; decide)
          have d3 : decide (mkS wDrop = mkS wDrop) = true := decide_eq_true rfl
          have d4 : decide (wPass = wPass) = true := by decide
          have d5 : decide (wDrop = wPass) = false := by decide
          repeat' (first
            | (with_reducible refine auS ?_)
            | (first | (simp only [em, hd, e10, w1, rowH_len, hz, hb, mkS_at, mkS_size, c1, c2, d1, d2, d3, u0, u2]) | (with_reducible refine runR_call hcut ?_) | (with_reducible refine runR_call hwd ?_) | (with_reducible refine runR_call hnum ?_))
            | (with_reducible refine auD ?_)
            | ((with_reducible refine auB ?_ ?_); all_goals first | (intro h; first | exact auH | simp only [h, runR_t, runR_f] | skip) | skip)
            | (first | (simp only [hx0]) | ((with_reducible refine atN ?_); first | (refine runR_n ⟨by trivial, by trivial, by trivial, by trivial, hml3.symm⟩ ?_) | (refine runR_n ⟨hone, by rw [hml3]; unfold room maxLen; simp only [List.length_cons, List.length_nil]; omega⟩ ?_)) | fail))
          (all_goals first | exact auP | skip)
        all_goals
          refine nx_loop ⟨(i + 1, _, had, rest', gn + 1, gn + 2), ⟨by show rest'.length + (i + 1) ≤ s.length; omega, hpl2, hhad, hwf2, hgo⟩, hc3, ?_⟩
          refine le_mk ?_ ?_ (Nat.le_refl _)
          all_goals first | with_reducible refine auE ?_ | exact auE0
          all_goals (repeat' (first | exact trivial | exact rfl | apply And.intro))
        all_goals simp [p4, Pl.enc, Rl.enc]
      · rw [if_neg hpd] at hgo
        have hf5 := shape_five hcnd.1 hpd
        have hcon := contains_had had hhad w0 hf5
        have d1 : decide (mkS w0 = mkS wPass) = false := decide_eq_false (fun q => hpd (.inl (mkS_inj.1 q)))
        have d2 : decide (mkS w0 = mkS wDrop) = false := decide_eq_false (fun q => hpd (.inr (mkS_inj.1 q)))
        have e32 : (ByteArray.mk #[32] : ByteArray) = mkS [32] := rfl
        by_cases hin : w0 ∈ had
        · rw [if_pos hin] at hgo
          rw [decide_eq_true hin] at hcon
          rw [hgo, dRead_bad (by show ¬ (8 : Int) = 0; decide)]
          generalize zR o = Z at *
          repeat' (first
            | (with_reducible refine auS ?_)
            | (first | (simp only [em, hd, e10, e32, w1, rowH_len, hz, hb, mkS_at, mkS_size, c1, c2, d1, d2, mkS_app]) | (with_reducible refine runR_call hcut ?_) | (with_reducible refine runR_call hwd ?_) | (with_reducible refine runR_call hnum ?_) | (with_reducible refine runR_call hcon ?_))
            | (with_reducible refine auD ?_)
            | ((with_reducible refine auB ?_ ?_); all_goals first | (intro h; first | exact auH | simp only [h, runR_t, runR_f] | skip) | skip)
            | (first | (simp only [hx0]) | (refine runR_n (by simp only [mkS_size, List.length_cons, List.length_nil]; omega) ?_) | fail))
          (all_goals first | exact auP | skip)
          all_goals with_reducible refine auF ?_
          all_goals (try first | with_reducible refine auR ?_ | exact auR0)
          all_goals (try simp only [hsM] at *)
          all_goals rfl
        rw [if_neg hin] at hgo
        rw [decide_eq_false hin] at hcon
        have hhad2 := hadOk_snoc hhad hf5 hin
        have hsn := hadT_snoc had w0
        have f1 : (ByteArray.mk #[111, 117, 116, 115, 105, 100, 101] : ByteArray) = mkS wOut := rfl
        have f2 : (ByteArray.mk #[112, 111, 114, 116, 115] : ByteArray) = mkS wPorts := rfl
        have f3 : (ByteArray.mk #[108, 105, 102, 101] : ByteArray) = mkS wLife := rfl
        have f4 : (ByteArray.mk #[114, 97, 116, 101] : ByteArray) = mkS wRate := rfl
        have f5 : (ByteArray.mk #[101, 108, 115, 101] : ByteArray) = mkS wElse := rfl
        have dd : ∀ a b : W8, decide (mkS a = mkS b) = decide (a = b) := fun a b => decide_eq_decide.2 mkS_inj
        have hl5 : ∀ w ∈ five5, w.length ≤ 7 := by decide
        have hl5 := hl5 w0 hf5
        have hsn2 : hadT had ++ (w0 ++ [32]) = hadT (had ++ [w0]) := by rw [hsn]; simp
        unfold five5 at hf5
        simp only [List.mem_cons, List.not_mem_nil, or_false] at hf5
        rcases hf5 with rfl | rfl | rfl | rfl | rfl
        · obtain ⟨a, rfl⟩ := out1 (hcnt.trans (by decide))
          have hp2 : p' = { p with ou := a } := by rw [← hpp]; rfl
          subst hp2
          have u0 : IntKind.u32.wrap a = a := by have := hwf2.1; dsimp only at this; rw [u32_mod]; omega
          have hzR : zR [a] = [[.v (.int .i64 a)]] := rfl
          have g1 : decide (wOut = wOut) = true := by decide
          rw [hzR] at hnum
          repeat' (first
            | (with_reducible refine auS ?_)
            | (first | (simp only [em, hd, e10, e32, w1, rowH_len, hz, hb, mkS_at, mkS_size, c1, c2, d1, d2, mkS_app, hsn2, f1, f2, f3, f4, f5, dd, u0, g1]) | (with_reducible refine runR_call hcut ?_) | (with_reducible refine runR_call hwd ?_) | (with_reducible refine runR_call hnum ?_) | (with_reducible refine runR_call hcon ?_))
            | (with_reducible refine auD ?_)
            | ((with_reducible refine auB ?_ ?_); all_goals first | (intro h; first | exact auH | simp only [h, runR_t, runR_f] | skip) | skip)
            | (first | (simp only [hx0]) | (refine runR_n (by simp only [mkS_size, List.length_append, List.length_cons, List.length_nil]; omega) ?_) | fail))
          (all_goals first | exact auP | skip)
          refine nx_loop ⟨(i + 1, _, had ++ [wOut], rest', rn, gn), ⟨by show rest'.length + (i + 1) ≤ s.length; omega, hpl2, hhad2, hwf2, hgo⟩, hc3, ?_⟩
          refine le_mk ?_ ?_ (Nat.le_refl _)
          all_goals first | with_reducible refine auE ?_ | exact auE0
          all_goals (repeat' (first | exact trivial | exact rfl | apply And.intro))
          all_goals first
            | rfl
            | fail
        · obtain ⟨a, b, rfl⟩ := out2 (hcnt.trans (by decide))
          have hp2 : p' = { p with lt := a, st := b } := by rw [← hpp]; rfl
          subst hp2
          have hzR : zR [a, b] = [[.v (.int .i64 a)], [.v (.int .i64 b)]] := rfl
          have g1 : decide (wPorts = wPorts) = true := by decide
          have g2 : decide (wPorts = wOut) = false := by decide
          rw [hzR] at hnum
          repeat' (first
            | (with_reducible refine auS ?_)
            | (first | (simp only [em, hd, e10, e32, w1, rowH_len, hz, hb, mkS_at, mkS_size, c1, c2, d1, d2, mkS_app, hsn2, f1, f2, f3, f4, f5, dd, g1, g2]) | (with_reducible refine runR_call hcut ?_) | (with_reducible refine runR_call hwd ?_) | (with_reducible refine runR_call hnum ?_) | (with_reducible refine runR_call hcon ?_))
            | (with_reducible refine auD ?_)
            | ((with_reducible refine auB ?_ ?_); all_goals first | (intro h; first | exact auH | simp only [h, runR_t, runR_f] | skip) | skip)
            | (first | (simp only [hx0]) | (refine runR_n (by simp only [mkS_size, List.length_append, List.length_cons, List.length_nil]; omega) ?_) | fail))
          (all_goals first | exact auP | skip)
          refine nx_loop ⟨(i + 1, _, had ++ [wPorts], rest', rn, gn), ⟨by show rest'.length + (i + 1) ≤ s.length; omega, hpl2, hhad2, hwf2, hgo⟩, hc3, ?_⟩
          refine le_mk ?_ ?_ (Nat.le_refl _)
          all_goals first | with_reducible refine auE ?_ | exact auE0
          all_goals (repeat' (first | exact trivial | exact rfl | apply And.intro))
          all_goals first
            | rfl
            | fail
        · obtain ⟨a, rfl⟩ := out1 (hcnt.trans (by decide))
          have hp2 : p' = { p with lf := a } := by rw [← hpp]; rfl
          subst hp2
          have hzR : zR [a] = [[.v (.int .i64 a)]] := rfl
          have g1 : decide (wLife = wLife) = true := by decide
          have g2 : decide (wLife = wOut) = false := by decide
          have g3 : decide (wLife = wPorts) = false := by decide
          rw [hzR] at hnum
          repeat' (first
            | (with_reducible refine auS ?_)
            | (first | (simp only [em, hd, e10, e32, w1, rowH_len, hz, hb, mkS_at, mkS_size, c1, c2, d1, d2, mkS_app, hsn2, f1, f2, f3, f4, f5, dd, g1, g2, g3]) | (with_reducible refine runR_call hcut ?_) | (with_reducible refine runR_call hwd ?_) | (with_reducible refine runR_call hnum ?_) | (with_reducible refine runR_call hcon ?_))
            | (with_reducible refine auD ?_)
            | ((with_reducible refine auB ?_ ?_); all_goals first | (intro h; first | exact auH | simp only [h, runR_t, runR_f] | skip) | skip)
            | (first | (simp only [hx0]) | (refine runR_n (by simp only [mkS_size, List.length_append, List.length_cons, List.length_nil]; omega) ?_) | fail))
          (all_goals first | exact auP | skip)
          refine nx_loop ⟨(i + 1, _, had ++ [wLife], rest', rn, gn), ⟨by show rest'.length + (i + 1) ≤ s.length; omega, hpl2, hhad2, hwf2, hgo⟩, hc3, ?_⟩
          refine le_mk ?_ ?_ (Nat.le_refl _)
          all_goals first | with_reducible refine auE ?_ | exact auE0
          all_goals (repeat' (first | exact trivial | exact rfl | apply And.intro))
          all_goals first
            | rfl
            | fail
        · obtain ⟨a, b, rfl⟩ := out2 (hcnt.trans (by decide))
          have hp2 : p' = { p with ra := a, mo := b } := by rw [← hpp]; rfl
          subst hp2
          have hzR : zR [a, b] = [[.v (.int .i64 a)], [.v (.int .i64 b)]] := rfl
          have g1 : decide (wRate = wRate) = true := by decide
          have g2 : decide (wRate = wOut) = false := by decide
          have g3 : decide (wRate = wPorts) = false := by decide
          have g4 : decide (wRate = wLife) = false := by decide
          rw [hzR] at hnum
          repeat' (first
            | (with_reducible refine auS ?_)
            | (first | (simp only [em, hd, e10, e32, w1, rowH_len, hz, hb, mkS_at, mkS_size, c1, c2, d1, d2, mkS_app, hsn2, f1, f2, f3, f4, f5, dd, g1, g2, g3, g4]) | (with_reducible refine runR_call hcut ?_) | (with_reducible refine runR_call hwd ?_) | (with_reducible refine runR_call hnum ?_) | (with_reducible refine runR_call hcon ?_))
            | (with_reducible refine auD ?_)
            | ((with_reducible refine auB ?_ ?_); all_goals first | (intro h; first | exact auH | simp only [h, runR_t, runR_f] | skip) | skip)
            | (first | (simp only [hx0]) | (refine runR_n (by simp only [mkS_size, List.length_append, List.length_cons, List.length_nil]; omega) ?_) | fail))
          (all_goals first | exact auP | skip)
          refine nx_loop ⟨(i + 1, _, had ++ [wRate], rest', rn, gn), ⟨by show rest'.length + (i + 1) ≤ s.length; omega, hpl2, hhad2, hwf2, hgo⟩, hc3, ?_⟩
          refine le_mk ?_ ?_ (Nat.le_refl _)
          all_goals first | with_reducible refine auE ?_ | exact auE0
          all_goals (repeat' (first | exact trivial | exact rfl | apply And.intro))
          all_goals first
            | rfl
            | fail
        · have hr1 : r.length = 1 := by rw [← hcnd.2]; decide
          obtain ⟨y, rfl⟩ : ∃ y, r = [y] := by
            match r, hr1 with
            | [y], _ => exact ⟨y, rfl⟩
          have hx1 : xget (rowS ((wElse :: [y]).map mkS)) 1 = [.v (.string (mkS y))] := rfl
          have hp2 : p' = { p with el := decide (y = wPass) } := by
            rw [← hpp]
            show { p with el := decide (some y = some wPass) } = _
            simp
          subst hp2
          have hzR : zR o = zR o := rfl
          have g1 : decide (wElse = wElse) = true := by decide
          have g2 : decide (wElse = wOut) = false := by decide
          have g3 : decide (wElse = wPorts) = false := by decide
          have g4 : decide (wElse = wLife) = false := by decide
          have g5 : decide (wElse = wRate) = false := by decide
          rw [hzR] at hnum
          repeat' (first
            | (with_reducible refine auS ?_)
            | (first | (simp only [em, hd, e10, e32, w1, rowH_len, hz, hb, mkS_at, mkS_size, c1, c2, d1, d2, mkS_app, hsn2, f1, f2, f3, f4, f5, dd, g1, g2, g3, g4, g5, hx1]) | (with_reducible refine runR_call hcut ?_) | (with_reducible refine runR_call hwd ?_) | (with_reducible refine runR_call hnum ?_) | (with_reducible refine runR_call hcon ?_))
            | (with_reducible refine auD ?_)
            | ((with_reducible refine auB ?_ ?_); all_goals first | (intro h; first | exact auH | simp only [h, runR_t, runR_f] | skip) | skip)
            | (first | (simp only [hx0]) | (refine runR_n (by simp only [mkS_size, List.length_append, List.length_cons, List.length_nil]; omega) ?_) | fail))
          (all_goals first | exact auP | skip)
          refine nx_loop ⟨(i + 1, _, had ++ [wElse], rest', rn, gn), ⟨by show rest'.length + (i + 1) ≤ s.length; omega, hpl2, hhad2, hwf2, hgo⟩, hc3, ?_⟩
          refine le_mk ?_ ?_ (Nat.le_refl _)
          all_goals first | with_reducible refine auE ?_ | exact auE0
          all_goals (repeat' (first | exact trivial | exact rfl | apply And.intro))
          all_goals first
            | rfl
            | fail
end Go.Proofs.YtbcamncabckbnaaGreatDoor
