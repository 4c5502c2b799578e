/-
  The reference's words of a line: all numbers of a line.
-/
import Derived.Test.YtbcamncabckbnaaGreatDoorConfN
import Derived.Test.YtbcamncabckbnaaGreatDoorConfL
namespace Go.Proofs.YtbcamncabckbnaaGreatDoor
set_option linter.unusedVariables false
set_option linter.unusedSimpArgs false
theorem le_no {st : St} {no : Nat} (hp : lget st.H 1 = some ⟨no, 1, [[.v (.slice none 0 0)]]⟩) : Le st ⟨st.tm, lset (lset st.H 1 (some ⟨no, 1, [[.sl 1 st.gen 1 0 0 false]]⟩)) 9 (some ⟨st.gen, 1, []⟩), st.gen + 1⟩ :=
  le_rowG 1 9 1 1 (by decide) hp rfl (fun i d d' h1 h2 => by
    match i, h1, h2 with
    | 0, h1, h2 => exact .inr ⟨(Option.some.inj h1).symm, _, (Option.some.inj h2).symm⟩
    | i + 1, h1, h2 => simp at h1) (by decide)
theorem rowM_len (l : List W8) : (rowS (l.map mkS)).length = l.length := by simp [rowS]
def condN (w0 : W8) (r : List W8) : Prop := (shapeR w0).2 = true ∧ (shapeR w0).1.length = r.length
instance (w0 : W8) (r : List W8) : Decidable (condN w0 r) := inferInstanceAs (Decidable (_ ∧ _))
def dLN (w0 : W8) (r : List W8) : DV := if condN w0 r then .tup [.snap 1 (zR (lineN w0 r).1) false, .v (.bool (lineN w0 r).2)] else .tup [.v (.slice none 0 0), .v (.bool false)]
theorem shape_let : ∀ w0 : W8, (shapeR w0).1.length ≤ 5 ∧ ∀ c ∈ (shapeR w0).1, c = 97 ∨ c = 110 ∨ c = 118 ∨ c = 116 ∨ c = 98 := fun w0 => by
  unfold shapeR
  split
  · decide
  · split
    · decide
    · split
      · decide
      · split
        · decide
        · split
          · decide
          · exact ⟨by decide, fun c hc => by cases hc⟩
theorem rAll_drop {sh : W8} {r : List W8} {i : Nat} {c : UInt8} {s : W8} (hc : sh[i]? = some c) (hs : r[i]? = some s) (x : NS) : rAll (sh.drop i) (r.drop i) x = rAll (sh.drop (i + 1)) (r.drop (i + 1)) (rOne c s x) := by
  have h1 := (List.getElem?_eq_some_iff.1 hc)
  have h2 := (List.getElem?_eq_some_iff.1 hs)
  rw [List.drop_eq_getElem_cons h1.1, List.drop_eq_getElem_cons h2.1, h1.2, h2.2, rAll]
theorem rOne_len (c : UInt8) (s : W8) (x : NS) : (rOne c s x).1.length ≤ x.1.length + 2 := by
  unfold rOne rNum rAdr
  split
  · simp
  · split
    · simp
    · split
      · simp
      · split
        · simp
        · split
          · simp
          · simp
set_option maxHeartbeats 8000000 in
theorem lineNumbers_spec (w0 : W8) (r : List W8) (cl : Bool) (hw : ∀ w ∈ r, w.length ≤ 1048576) (hr : r.length ≤ 1048576) : Spec Tryz.prog 29 [.snap 1 (rowS ((w0 :: r).map mkS)) cl] (dLN w0 r) := by
  have hsh := lineShape_spec w0
  obtain ⟨hs5, hlet⟩ := shape_let w0
  have hx0 : xget (rowS ((w0 :: r).map mkS)) 0 = [.v (.string (mkS w0))] := rfl
  have hz : ∀ n : Nat, decide (((n + 1 : Nat) : Int) = 0) = false := fun n => decide_eq_false (by omega)
  have hsub : IntKind.i64.wrap (((r.length + 1 : Nat) : Int) - 1) = (r.length : Nat) := by rw [IntWalk.i64_in _ (by omega)]; omega
  have hdr : xtake (xdrop (rowS ((w0 :: r).map mkS)) 1) (((r.length + 1 : Nat) : Int) - 1).toNat = rowS (r.map mkS) := by
    show xtake (xdrop (rowS (r.map mkS)) 0) _ = _
    exact xall (by rw [rowM_len]; omega)
  by_cases hc : condN w0 r
  · have hn : lineN w0 r = rAll (shapeR w0).1 r ([], true) := if_pos hc
    unfold dLN
    rw [if_pos hc, hn]
    obtain ⟨hc1, hc2⟩ := hc
    rw [hc1] at hsh
    have hne : decide ((((shapeR w0).1.length : Nat) : Int) = (r.length : Nat)) = true := decide_eq_true (by omega)
    generalize (shapeR w0).1 = sh at *
    refine hspec_fn Tryz.func29 rfl ok_custref_lineNumbers okr_custref_lineNumbers rfl (by kernel_rfl) ?_
    intro Γ hW0 hN0 hL0
    have hW := hW0 rfl
    clear hW0 hN0 hL0
    unfold x_custref_lineNumbers r_custref_lineNumbers
    with_reducible refine auC ?_
    repeat' (first
      | ((with_reducible refine atGo ?_); (refine go_le (le_no rfl) ?_))
      | (with_reducible refine auS ?_)
      | (first | (simp only [mkS_size, hne, hsub, rowM_len]) | (with_reducible refine runR_call hsh ?_))
      | (with_reducible refine auD ?_)
      | ((with_reducible refine auB ?_ ?_); all_goals first | (intro h; first | exact auH | simp only [h, runR_t, runR_f] | skip) | skip)
      | (first | (simp only [hx0, hdr, rowM_len]) | fail))
    have hdr2 : rowS (r.map mkS) = rowS (r.map mkS) := rfl
    refine go_loopH (α := Nat × NS × Nat × Nat) (fun x => [(⟨.d0, .d4, .d7⟩, .v (.int .i64 (x.1 : Nat)))]) (fun x => [(0, some (kO Γ.g0 x.2.1)), (1, some (nO (Γ.g0 + 1) x.2.2.1 x.2.1)), (9, some ⟨x.2.2.1, 1, zR x.2.1.1⟩), (10, none)]) (fun x => x.2.2.2) (fun x => r.length - x.1) (fun x => x.1 ≤ r.length ∧ x.2.1.1.length ≤ 2 * x.1 ∧ rAll sh r ([], true) = rAll (sh.drop x.1) (r.drop x.1) x.2.1) (0, ([], true), Γ.g0 + 2, Γ.g0 + 3) ⟨Nat.zero_le _, Nat.zero_le _, rfl⟩ ?_ ?_
    · skip
      refine le_mk ?_ ?_ (Nat.le_refl _)
      all_goals first | with_reducible refine auE ?_ | exact auE0
      all_goals (repeat' (first | exact trivial | exact rfl | apply And.intro))
    rintro ⟨j, ⟨xl, xb⟩, rn, gn⟩ ⟨hj, hxl, hgo⟩
    dsimp only at hj hxl hgo ⊢
    with_reducible refine auL ?_
    by_cases hlt : j < r.length
    · obtain ⟨w, hwj⟩ : ∃ w, r[j]? = some w := ⟨_, List.getElem?_eq_getElem hlt⟩
      obtain ⟨c, hcj⟩ : ∃ c, sh[j]? = some c := ⟨_, List.getElem?_eq_getElem (by omega)⟩
      have hx2 := xget_row hwj
      have hwl := hw w (List.mem_of_getElem? hwj)
      rw [rAll_drop hcj hwj] at hgo
      have hbn0 : bN sh j = c.toNat := bN_some hcj
      have c6 : (ByteArray.mk #[112, 97, 115, 115] : ByteArray) = mkS wPass := rfl
      have c7 : (ByteArray.mk #[100, 114, 111, 112] : ByteArray) = mkS wDrop := rfl
      have hm := hlet c (List.mem_of_getElem? hcj)
      have hcl := cutB_len (c := 47) w
      have hcl2 := cutB_len (c := 45) w
      rcases hm with rfl | rfl | rfl | rfl | rfl
      · have hbn : ((bN sh j : Nat) : Int) = 97 := by rw [hbn0]; rfl
        have qa := fun no rn nk => cadrC 1 0 no rn nk w (xl, xb) hwl (by show xl.length ≤ _; omega)
        have qc := hsh
        repeat' (first
          | ((with_reducible refine atGo ?_); (refine go_le (le_place 10 9 rfl (fun _ => rfl)) ?_))
          | (with_reducible refine auS ?_)
          | (first | (simp only [mkS_size, mkS_at, Int.toNat_natCast, hbn, decide_true, decide_false, rowM_len, eq_self]) | ((with_reducible refine atCall 51 ?_); fail) | ((with_reducible refine atCall 53 ?_); (refine runR_callG [1, 9, 0] [10] [1, 9, 0, 10] rfl (by decide) rfl rfl (qa _ _ _) ?_)) | (with_reducible refine runR_call qc ?_))
          | (with_reducible refine auD ?_)
          | ((with_reducible refine auB ?_ ?_); all_goals first | (intro h; first | exact auH | simp only [h, runR_t, runR_f] | skip) | skip)
          | (first | (simp only [Int.toNat_natCast, Nat.zero_add, hx2, rowM_len]) | fail))
        (all_goals first | exact auP | skip)
        refine nx_loop ⟨(j + 1, rOne 97 w (xl, xb), gn, gn + 1), ⟨hlt, Nat.le_trans (rOne_len 97 w (xl, xb)) (by show xl.length + 2 ≤ 2 * (j + 1); omega), hgo⟩, Nat.sub_lt_sub_left hlt (Nat.lt_succ_self j), ?_⟩
        refine le_mk ?_ ?_ (Nat.le_refl _)
        all_goals first | with_reducible refine auE ?_ | exact auE0
        all_goals (repeat' (first | exact trivial | exact rfl | apply And.intro))
        all_goals first
          | exact dint ((IntWalk.i64_in _ (by omega)).trans (by omega))
          | fail
      · have hbn : ((bN sh j : Nat) : Int) = 110 := by rw [hbn0]; rfl
        have qa := fun no rn nk => cadrC 1 0 no rn nk w (xl, xb) hwl (by show xl.length ≤ _; omega)
        have qn := fun no rn nk => cnumC 1 0 no rn nk w (xl, xb) hwl (by show xl.length ≤ _; omega)
        have qc := hsh
        repeat' (first
          | ((with_reducible refine atGo ?_); (refine go_le (le_place 10 9 rfl (fun _ => rfl)) ?_))
          | (with_reducible refine auS ?_)
          | (first | (simp only [mkS_size, mkS_at, Int.toNat_natCast, hbn, decide_true, decide_false, rowM_len, eq_self]) | ((with_reducible refine atCall 51 ?_); (refine runR_callG [1, 9, 0] [10] [1, 9, 0, 10] rfl (by decide) rfl rfl (qn _ _ _) ?_)) | ((with_reducible refine atCall 53 ?_); (refine runR_callG [1, 9, 0] [10] [1, 9, 0, 10] rfl (by decide) rfl rfl (qa _ _ _) ?_)) | (with_reducible refine runR_call qc ?_))
          | (with_reducible refine auD ?_)
          | ((with_reducible refine auB ?_ ?_); all_goals first | (intro h; first | exact auH | simp only [h, runR_t, runR_f] | skip) | skip)
          | (first | (simp only [Int.toNat_natCast, Nat.zero_add, hx2, rowM_len]) | fail))
        (all_goals first | exact auP | skip)
        refine nx_loop ⟨(j + 1, rOne 110 w (xl, xb), gn, gn + 1), ⟨hlt, Nat.le_trans (rOne_len 110 w (xl, xb)) (by show xl.length + 2 ≤ 2 * (j + 1); omega), hgo⟩, Nat.sub_lt_sub_left hlt (Nat.lt_succ_self j), ?_⟩
        refine le_mk ?_ ?_ (Nat.le_refl _)
        all_goals first | with_reducible refine auE ?_ | exact auE0
        all_goals (repeat' (first | exact trivial | exact rfl | apply And.intro))
        all_goals first
          | exact dint ((IntWalk.i64_in _ (by omega)).trans (by omega))
          | fail
      · have hbn : ((bN sh j : Nat) : Int) = 118 := by rw [hbn0]; rfl
        have qa := fun no rn nk => cadrC 1 0 no rn nk w (xl, xb) hwl (by show xl.length ≤ _; omega)
        have qc := hsh
        have d1 : decide (mkS w = mkS wPass) = decide (w = wPass) := decide_eq_decide.2 mkS_inj
        have d2 : decide (mkS w = mkS wDrop) = decide (w = wDrop) := decide_eq_decide.2 mkS_inj
        have e118 : rOne 118 w (xl, xb) = (xl, xb && (decide (w = wPass) || decide (w = wDrop))) := rfl
        rw [e118] at hgo
        generalize decide (w = wPass) = p1 at *
        generalize decide (w = wDrop) = p2 at *
        cases xb <;> cases p1 <;> cases p2
        all_goals
          repeat' (first
            | (with_reducible refine auS ?_)
            | (first | (simp only [mkS_size, mkS_at, Int.toNat_natCast, hbn, decide_true, decide_false, rowM_len, c6, c7, d1, d2]))
            | (with_reducible refine auD ?_)
            | ((with_reducible refine auB ?_ ?_); all_goals first | (intro h; first | exact auH | simp only [h, runR_t, runR_f] | skip) | skip)
            | (first | (simp only [Int.toNat_natCast, Nat.zero_add, hx2, rowM_len]) | fail))
          (all_goals first | exact auP | skip)
          refine nx_loop ⟨(j + 1, (xl, _), rn, gn), ⟨hlt, by show xl.length ≤ 2 * (j + 1); omega, hgo⟩, Nat.sub_lt_sub_left hlt (Nat.lt_succ_self j), ?_⟩
          refine le_mk ?_ ?_ (Nat.le_refl _)
          all_goals first | with_reducible refine auE ?_ | exact auE0
          all_goals (repeat' (first | exact trivial | exact rfl | apply And.intro))
          all_goals exact dint ((IntWalk.i64_in _ (by omega)).trans (by omega))
      · have hbn : ((bN sh j : Nat) : Int) = 116 := by rw [hbn0]; rfl
        have qc := cut_spec 47 w hwl
        have e47 : (ByteArray.mk #[47] : ByteArray) = mkS [47] := rfl
        have e116 : rOne 116 w (xl, xb) = rNum (cutB 47 w).2.1 (rAdr (cutB 47 w).1 (xl, xb && (cutB 47 w).2.2)) := rfl
        have hlen := rOne_len 116 w (xl, xb)
        rw [e116] at hgo hlen
        generalize (cutB 47 w).1 = A at *
        generalize (cutB 47 w).2.1 = B at *
        generalize (cutB 47 w).2.2 = C at *
        have qa := fun no rn nk => cadrC 1 0 no rn nk A (xl, xb && C) (by omega) (by show xl.length ≤ _; omega)
        have qn := fun no rn nk => cnumC 1 0 no rn nk B (rAdr A (xl, xb && C)) (by omega) (by show (xl ++ [_]).length ≤ _; simp; omega)
        generalize hN : rNum B (rAdr A (xl, xb && C)) = N at *
        cases xb <;> cases C
        all_goals
          repeat' (first
            | ((with_reducible refine atGo ?_); (refine go_le (le_place 10 9 rfl (fun _ => rfl)) ?_))
            | (with_reducible refine auS ?_)
            | (first | (simp only [mkS_size, mkS_at, Int.toNat_natCast, hbn, decide_true, decide_false, rowM_len, e47]) | ((with_reducible refine atCall 51 ?_); (refine runR_callG [1, 9, 0] [10] [1, 9, 0, 10] rfl (by decide) rfl rfl (qn _ _ _) ?_)) | ((with_reducible refine atCall 53 ?_); (refine runR_callG [1, 9, 0] [10] [1, 9, 0, 10] rfl (by decide) rfl rfl (qa _ _ _) ?_)) | (with_reducible refine runR_call qc ?_))
            | (with_reducible refine auD ?_)
            | ((with_reducible refine auB ?_ ?_); all_goals first | (intro h; first | exact auH | simp only [h, runR_t, runR_f] | skip) | skip)
            | (first | (simp only [Int.toNat_natCast, Nat.zero_add, hx2, rowM_len]) | fail))
          (all_goals first | exact auP | skip)
          refine nx_loop ⟨(j + 1, N, gn + 1, gn + 2), ⟨hlt, by show N.1.length ≤ 2 * (j + 1); dsimp only at hlen; omega, hgo⟩, Nat.sub_lt_sub_left hlt (Nat.lt_succ_self j), ?_⟩
          refine le_mk ?_ ?_ (Nat.le_refl _)
          all_goals first | with_reducible refine auE ?_ | exact auE0
          all_goals (repeat' (first | exact trivial | exact rfl | apply And.intro))
          all_goals first
            | exact dint ((IntWalk.i64_in _ (by omega)).trans (by omega))
            | fail
      · have hbn : ((bN sh j : Nat) : Int) = 98 := by rw [hbn0]; rfl
        have qc := cut_spec 45 w hwl
        have e45 : (ByteArray.mk #[45] : ByteArray) = mkS [45] := rfl
        have e98 : rOne 98 w (xl, xb) = rNum (cutB 45 w).2.1 (rNum (cutB 45 w).1 (xl, xb && (cutB 45 w).2.2)) := rfl
        have hlen := rOne_len 98 w (xl, xb)
        rw [e98] at hgo hlen
        generalize (cutB 45 w).1 = A at *
        generalize (cutB 45 w).2.1 = B at *
        generalize (cutB 45 w).2.2 = C at *
        have qa := fun no rn nk => cnumC 1 0 no rn nk A (xl, xb && C) (by omega) (by show xl.length ≤ _; omega)
        have qn := fun no rn nk => cnumC 1 0 no rn nk B (rNum A (xl, xb && C)) (by omega) (by show (xl ++ [_]).length ≤ _; simp; omega)
        generalize hM : rNum A (xl, xb && C) = M at *
        generalize hN : rNum B M = N at *
        cases xb <;> cases C
        all_goals
          repeat' (first
            | ((with_reducible refine atGo ?_); (refine go_le (le_place 10 9 rfl (fun _ => rfl)) ?_))
            | (with_reducible refine auS ?_)
            | (first | (simp only [mkS_size, mkS_at, Int.toNat_natCast, hbn, decide_true, decide_false, rowM_len, e45]) | ((with_reducible refine atCall 51 ?_); first | (refine runR_callG [1, 9, 0] [10] [1, 9, 0, 10] rfl (by decide) rfl rfl (qn _ _ _) ?_) | (refine runR_callG [1, 9, 0] [10] [1, 9, 0, 10] rfl (by decide) rfl rfl (qa _ _ _) ?_)) | (with_reducible refine runR_call qc ?_))
            | (with_reducible refine auD ?_)
            | ((with_reducible refine auB ?_ ?_); all_goals first | (intro h; first | exact auH | simp only [h, runR_t, runR_f] | skip) | skip)
            | (first | (simp only [Int.toNat_natCast, Nat.zero_add, hx2, rowM_len]) | fail))
          (all_goals first | exact auP | skip)
          refine nx_loop ⟨(j + 1, N, gn + 1, gn + 2), ⟨hlt, by show N.1.length ≤ 2 * (j + 1); dsimp only at hlen; omega, hgo⟩, Nat.sub_lt_sub_left hlt (Nat.lt_succ_self j), ?_⟩
          refine le_mk ?_ ?_ (Nat.le_refl _)
          all_goals first | with_reducible refine auE ?_ | exact auE0
          all_goals (repeat' (first | exact trivial | exact rfl | apply And.intro))
          all_goals first
            | exact dint ((IntWalk.i64_in _ (by omega)).trans (by omega))
            | fail
    · obtain rfl : j = r.length := by omega
      rw [List.drop_length] at hgo
      have hfin : rAll (sh.drop r.length) [] (xl, xb) = (xl, xb) := by
        cases sh.drop r.length <;> rfl
      rw [hfin] at hgo
      rw [hgo]
      have hfz : frzLL ⟨rn, 1, zR xl⟩ [[.sl 1 rn 1 0 xl.length false]] [[.snap 1 (zR xl) false]] := by
        refine ⟨⟨.inl ⟨rfl, rfl, ?_, ?_⟩, rfl⟩, rfl⟩
        · show 0 + _ ≤ _
          rw [zR_len]
          omega
        · show DV.snap _ _ _ = DV.snap _ _ _
          rw [xall (by rw [zR_len])]
      have hnf := zR_nf xl Γ.g0
      repeat' (first
        | ((with_reducible refine atGo ?_); (refine go_leG (leG_freezeO hW 1 9 (by decide) rfl rfl hfz) ?_))
        | (with_reducible refine auS ?_)
        | fail
        | (with_reducible refine auD ?_)
        | ((with_reducible refine auB ?_ ?_); all_goals first | (intro h; first | exact auH | simp only [h, runR_t, runR_f] | skip) | skip)
        | (first | (simp only [rowM_len]) | fail))
      (all_goals first | exact auP | skip)
      all_goals with_reducible refine auF ?_
      all_goals (try first | with_reducible refine auR ?_ | exact auR0)
      all_goals (try simp only [hsM] at *)
      all_goals rfl
  · unfold dLN
    rw [if_neg hc]
    cases h2 : (shapeR w0).2 with
    | false =>
      rw [h2] at hsh
      generalize (shapeR w0).1 = sh at *
      refine hspec_fn Tryz.func29 rfl ok_custref_lineNumbers okr_custref_lineNumbers rfl (by kernel_rfl) ?_
      intro Γ hW0 hN0 hL0
      have hW := hW0 rfl
      clear hW0 hN0 hL0
      unfold x_custref_lineNumbers r_custref_lineNumbers
      with_reducible refine auC ?_
      repeat' (first
        | (with_reducible refine auS ?_)
        | (first | (simp only [mkS_size, hsub, rowM_len]) | (with_reducible refine runR_call hsh ?_))
        | (with_reducible refine auD ?_)
        | ((with_reducible refine auB ?_ ?_); all_goals first | (intro h; first | exact auH | simp only [h, runR_t, runR_f] | skip) | skip)
        | (first | (simp only [hx0, rowM_len]) | fail))
      (all_goals first | exact auP | skip)
      all_goals with_reducible refine auF ?_
      all_goals (try first | with_reducible refine auR ?_ | exact auR0)
      all_goals (try simp only [hsM] at *)
    | true =>
      rw [h2] at hsh
      have hne : decide ((((shapeR w0).1.length : Nat) : Int) = (r.length : Nat)) = false := decide_eq_false (fun q => hc ⟨h2, by omega⟩)
      generalize (shapeR w0).1 = sh at *
      refine hspec_fn Tryz.func29 rfl ok_custref_lineNumbers okr_custref_lineNumbers rfl (by kernel_rfl) ?_
      intro Γ hW0 hN0 hL0
      have hW := hW0 rfl
      clear hW0 hN0 hL0
      unfold x_custref_lineNumbers r_custref_lineNumbers
      with_reducible refine auC ?_
      repeat' (first
        | (with_reducible refine auS ?_)
        | (first | (simp only [mkS_size, hne, hsub, rowM_len]) | (with_reducible refine runR_call hsh ?_))
        | (with_reducible refine auD ?_)
        | ((with_reducible refine auB ?_ ?_); all_goals first | (intro h; first | exact auH | simp only [h, runR_t, runR_f] | skip) | skip)
        | (first | (simp only [hx0, rowM_len]) | fail))
      (all_goals first | exact auP | skip)
      all_goals with_reducible refine auF ?_
      all_goals (try first | with_reducible refine auR ?_ | exact auR0)
      all_goals (try simp only [hsM] at *)
end Go.Proofs.YtbcamncabckbnaaGreatDoor
