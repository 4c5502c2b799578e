/-
  ConfSays: whatever is handed in, the law's function returns true. Of the package-level variables, those that the row lists hold what it says; the one that it names alone holds some int.
-/
import Derived.Test.YtbcamncabckbnaaGreatDoorConfG
import Derived.Test.YtbcamncabckbnaaGreatDoorConfH
import Derived.Test.YtbcamncabckbnaaGreatDoorConfY
import Derived.Test.YtbcamncabckbnaaGreatDoorDoorS
namespace Go.Proofs.YtbcamncabckbnaaGreatDoor
open Go.ChangeShapes Go.WideShapes Go.ChangeAt Go.RowKit
set_option linter.unusedVariables false
set_option linter.unusedSimpArgs false
def shsConfSays : List Sh := [.cons (.int .u32) (.cons (.int .i64) (.cons (.int .i64) (.cons (.int .i64) (.cons (.int .i64) (.cons (.int .i64) (.cons (.slice 80 10 (.cons (.cons (.int .u32) (.cons (.int .i64) (.nil))) (.cons (.cons (.int .u32) (.cons (.int .i64) (.nil))) (.cons (.int .i64) (.cons (.int .i64) (.cons (.int .i64) (.cons (.int .i64) (.cons (.int .i64) (.cons (.bool) (.nil)))))))))) (.cons (.bool) (.nil)))))))), .str]
set_option maxHeartbeats 1000000 in
theorem law_ok (p Q : Pl) (s : W8) (hp : p.wf) (hl : p.rs.length ≤ maxLen) (T : ByteArray) (I J : Int) (hw : Spec Tryz.prog 4 [dPl p false] (.tup [.v (.string T), .v (.int .i64 (plE p))])) (ht : Spec Tryz.prog 5 [dPl p false] (.tup [.v (.string T), .v (.int .i64 (plE p))]))
    (h3 : Spec Tryz.prog 6 [.v (.string (mkS s))] (.tup [(dPl Q false), .v (.int .i64 I), .v (.int .i64 J)])) (h4 : Spec Tryz.prog 7 [.v (.string (mkS s))] (.tup [(dPl Q false), .v (.int .i64 I), .v (.int .i64 J)]))
    (h5 : Spec Tryz.prog 10 [(dPl Q false), (dPl Q false)] (.v (.bool true))) : Spec Tryz.prog 3 [dPl p false, .v (.string (mkS s))] (.v (.bool true)) := by
  have h1 := confCheck_spec p false hp hl
  have h2 := planRight_spec p false hp hl
  generalize plE p = E at *
  refine hspec_fn Tryz.func3 rfl ok_custlaw_ConfSays okr_custlaw_ConfSays rfl (by kernel_rfl) ?_
  intro Γ hW0 hN0 hL0
  have hW := hW0 rfl
  clear hW0 hN0 hL0
  unfold x_custlaw_ConfSays r_custlaw_ConfSays
  with_reducible refine auC ?_
  repeat' (first
    | (with_reducible refine auS ?_)
    | (first | (simp only [eq_self, decide_true, beq_self_eq_true, Bool.and_self]) | (with_reducible refine runR_call h1 ?_) | (with_reducible refine runR_call h2 ?_) | (with_reducible refine runR_call hw ?_) | (with_reducible refine runR_call ht ?_) | (with_reducible refine runR_call h3 ?_) | (with_reducible refine runR_call h4 ?_) | (with_reducible refine runR_call h5 ?_))
    | (with_reducible refine auD ?_)
    | ((with_reducible refine auB ?_ ?_); all_goals first | (intro h; first | exact auH | simp only [h, runR_t, runR_f] | skip) | skip)
    | fail)
  (all_goals first | exact auP | skip)
  all_goals first
    | (exfalso; simp at h; done)
    | skip
  all_goals with_reducible refine auF ?_
  all_goals (try first | with_reducible refine auR ?_ | exact auR0)
  all_goals (try simp only [hsM] at *)
  all_goals first
    | rfl
    | exact dbool (by simp)
set_option maxHeartbeats 1000000 in
theorem law_bad (p Q : Pl) (s : W8) (hp : p.wf) (hl : p.rs.length ≤ maxLen) (T : ByteArray) (I J : Int) (hw : Spec Tryz.prog 4 [dPl p false] (.tup [.v (.string T), .v (.int .i64 (plE p))])) (ht : Spec Tryz.prog 5 [dPl p false] (.tup [.v (.string T), .v (.int .i64 (plE p))]))
    (h3 : Spec Tryz.prog 6 [.v (.string (mkS s))] (.tup [(.agg (Q.enc (.v (.slice none 0 0)))), .v (.int .i64 I), .v (.int .i64 J)])) (h4 : Spec Tryz.prog 7 [.v (.string (mkS s))] (.tup [(.agg (Q.enc (.v (.slice none 0 0)))), .v (.int .i64 I), .v (.int .i64 J)]))
    (h5 : Spec Tryz.prog 10 [(.agg (Q.enc (.v (.slice none 0 0)))), (.agg (Q.enc (.v (.slice none 0 0))))] (.v (.bool true))) : Spec Tryz.prog 3 [dPl p false, .v (.string (mkS s))] (.v (.bool true)) := by
  have h1 := confCheck_spec p false hp hl
  have h2 := planRight_spec p false hp hl
  generalize plE p = E at *
  refine hspec_fn Tryz.func3 rfl ok_custlaw_ConfSays okr_custlaw_ConfSays rfl (by kernel_rfl) ?_
  intro Γ hW0 hN0 hL0
  have hW := hW0 rfl
  clear hW0 hN0 hL0
  unfold x_custlaw_ConfSays r_custlaw_ConfSays
  with_reducible refine auC ?_
  repeat' (first
    | (with_reducible refine auS ?_)
    | (first | (simp only [eq_self, decide_true, beq_self_eq_true, Bool.and_self]) | (with_reducible refine runR_call h1 ?_) | (with_reducible refine runR_call h2 ?_) | (with_reducible refine runR_call hw ?_) | (with_reducible refine runR_call ht ?_) | (with_reducible refine runR_call h3 ?_) | (with_reducible refine runR_call h4 ?_) | (with_reducible refine runR_call h5 ?_))
    | (with_reducible refine auD ?_)
    | ((with_reducible refine auB ?_ ?_); all_goals first | (intro h; first | exact auH | simp only [h, runR_t, runR_f] | skip) | skip)
    | fail)
  (all_goals first | exact auP | skip)
  all_goals first
    | (exfalso; simp at h; done)
    | skip
  all_goals with_reducible refine auF ?_
  all_goals (try first | with_reducible refine auR ?_ | exact auR0)
  all_goals (try simp only [hsM] at *)
  all_goals first
    | rfl
    | exact dbool (by simp)
theorem readR_len (s : W8) (h : (readR s).2.2 = 0) : (readR s).1.rs.length ≤ maxLen := by
  have h0 : pl0.rs.length ≤ maxLen := Nat.zero_le _
  unfold readR at h ⊢
  split
  · exact h0
  · rename_i hn
    rw [if_neg hn] at h
    generalize goP 0 pl0 [] (spl 10 s) = G at *
    match G, h with
    | .inr x, h => exact h0
    | .inl x, h =>
      unfold fin1 at h ⊢
      dsimp only at h ⊢
      split
      · exact h0
      · split
        · rename_i he
          have : rErr x.1.rs = 0 := by
            unfold plE at he
            split at he
            · exact he
            · exact absurd he (by decide)
          have := (rErr_ok this).1
          unfold maxLen
          show x.1.rs.length ≤ _
          omega
        · exact h0
theorem says_law (p : Pl) (s : W8) (hp : p.wf) (hl : p.rs.length ≤ maxLen) (hs : s.length ≤ 140737488351232) : Spec Tryz.prog 3 [dPl p false, .v (.string (mkS s))] (.v (.bool true)) := by
  have h3 := read_spec s (by omega)
  have h4 := textPlan_spec s (by omega)
  obtain ⟨T, hw, ht⟩ : ∃ T : ByteArray, Spec Tryz.prog 4 [dPl p false] (.tup [.v (.string T), .v (.int .i64 (plE p))]) ∧ Spec Tryz.prog 5 [dPl p false] (.tup [.v (.string T), .v (.int .i64 (plE p))]) := by
    by_cases he : plE p = 0
    · refine ⟨mkS (planT p), ?_⟩
      rw [he]
      exact ⟨write_ok p false hp he, planText_ok p false hp he⟩
    · exact ⟨mkS [], write_bad p false hp hl he, planText_bad p false hp hl he⟩
  by_cases hR : (readR s).2.2 = 0
  · have e : dRead (readR s) = .tup [dPl (readR s).1 false, .v (.int .i64 (readR s).2.1), .v (.int .i64 (readR s).2.2)] := by unfold dRead dOut; rw [if_pos hR]
    rw [e] at h3 h4
    by_cases hQ : (readR s).1.rs.length ≤ maxLen
    · exact law_ok p _ s hp hl T _ _ hw ht h3 h4 (samePlan_spec _ hQ)
    · exact absurd (readR_len s hR) hQ
  · rw [dRead_bad hR] at h3 h4
    exact law_bad p _ s hp hl T _ _ hw ht h3 h4 (samePlan_nil _)
theorem u32_wf {x : Int} (h : (Lit.int .u32 x).wf = true) : 0 ≤ x ∧ x < 4294967296 := by
  have h2 : IntKind.u32.min ≤ x ∧ x ≤ IntKind.u32.max := by simpa [Lit.wf] using h
  have e1 : IntKind.u32.min = 0 := by decide
  have e2 : IntKind.u32.max = 4294967295 := by decide
  rw [e1, e2] at h2
  omega
theorem ol1 (l : List ((Int × Int × Unit) × (Int × Int × Unit) × Int × Int × Int × Int × Int × Bool × Unit)) (f : _ → Rl) (h : l.length ≤ maxLen) : (l.map f).length ≤ maxLen := by rw [List.length_map]; exact h
abbrev rlT := (Int × Int × Unit) × (Int × Int × Unit) × Int × Int × Int × Int × Int × Bool × Unit
abbrev rlOf (t : rlT) : Rl := ⟨t.1.1, t.1.2.1, t.2.1.1, t.2.1.2.1, t.2.2.1, t.2.2.2.1, t.2.2.2.2.1, t.2.2.2.2.2.1, t.2.2.2.2.2.2.1, t.2.2.2.2.2.2.2.1⟩
theorem sv_ConfSays (a b c d e f : Int) (l : List rlT) (o : Bool) (s : ByteArray) (u1 u2 : Unit) : valSs shsConfSays ((a, b, c, d, e, f, l, o, u1), s, u2) = [dPl ⟨a, b, c, d, e, f, l.map rlOf, o⟩ false, .v (.string (mkS s.data.toList))] := by
  rw [mkS_data]
  show _ = [DV.agg (Pl.enc ⟨a, b, c, d, e, f, l.map rlOf, o⟩ (.snap 10 ((l.map rlOf).map Rl.enc) false)), _]
  rw [List.map_map]
  rfl
theorem len_data (s : ByteArray) : s.data.toList.length = s.size := by
  cases s
  simp [ByteArray.size]
theorem globs_of_laid {W : World} (h : laidMetH Tryz.prog Rows.confSaysRow.laid W) (hsh : W.ShapedOpen Tryz.prog) : GlobW W := by
  rw [MakeChecks.laidMetH_plain _ _ _ (by kernel_rfl)] at h
  intro g cs hg
  unfold gtab at hg
  simp only [List.mem_cons, List.not_mem_nil, or_false, Prod.mk.injEq] at hg
  rcases hg with ⟨rfl, rfl⟩ | ⟨rfl, rfl⟩ | ⟨rfl, rfl⟩ | ⟨rfl, rfl⟩ | ⟨rfl, rfl⟩
  · exact glob_tab h (name := "math/bits.deBruijn64tab") (k := .u8) (zs := deBrN.map fun (n : Nat) => (n : Int)) (n := 64) (e := 5) (t := 141) (List.mem_of_getElem? (i := 1) rfl) (by kernel_rfl) (by kernel_rfl) Tryz.underlying141 Tryz.underlying5 (by kernel_rfl) (by kernel_rfl)
  · exact glob_tab h (name := "internal/strconv.uint64pow10") (k := .u64) (zs := Lib.pow10Tab) (n := 20) (e := 71) (t := 123) (List.mem_of_getElem? (i := 2) rfl) (by kernel_rfl) (by kernel_rfl) Tryz.underlying123 Tryz.underlying71 (by kernel_rfl) (by kernel_rfl)
  · exact glob_ifc h (name := "strconv.ErrRange") (List.mem_of_getElem? (i := 4) rfl) (t := 40) (by kernel_rfl) (by kernel_rfl) Tryz.underlying40
  · exact glob_ifc h (name := "strconv.ErrSyntax") (List.mem_of_getElem? (i := 5) rfl) (t := 40) (by kernel_rfl) (by kernel_rfl) Tryz.underlying40
  · exact glob_int (t := 3) hsh (of_decide_eq_true (by kernel_rfl)) (by kernel_rfl) (by kernel_rfl) (by kernel_rfl) Tryz.underlying3
theorem coreConfSays (W : World) (args : Array Value) (hL : laidMetH Tryz.prog Rows.confSaysRow.laid W) (hsh : W.ShapedOpen Tryz.prog) (h : opnAll W W.heap.size shsConfSays args.toList) :
    Calls Tryz.prog 3 args W fun e W' => e = .returned (.bool true) ∧ Below W.heap.size W W' := by
  refine law_core rfl h (fun x hx => ?_) (globs_of_laid hL hsh)
  obtain ⟨⟨a, b, c, d, e, f, l, o, u1⟩, s, u2⟩ := x
  obtain ⟨⟨ha, -, -, -, -, -, ⟨-, hl, hd⟩, -⟩, hs, -⟩ := hx
  refine Eq.mpr (congrArg (fun l => Spec Tryz.prog 3 l (.v (.bool true))) (sv_ConfSays a b c d e f l o s u1 u2)) (says_law ⟨a, b, c, d, e, f, l.map rlOf, o⟩ s.data.toList ⟨u32_wf ha, fun t ht => ?_⟩ (ol1 l rlOf hl) (Nat.le_trans (Nat.le_of_eq (len_data s)) hs))
  obtain ⟨y, hy, rfl⟩ := List.mem_map.1 ht
  have := hd y hy
  exact ⟨u32_wf this.1.1, u32_wf this.2.1.1⟩
/-! THE ROW: the frame round 'core', and its card -/
theorem ownConfSays : ownKnob Tryz.prog.godebug = none := by kernel_rfl
theorem fitConfSays : (List.range shsConfSays.length).all (fun i => match shsConfSays[i]?, Tryz.f3.params.toList[i]? with | some s, some t => s.fit Tryz.prog none t | _, _ => false) = true := by kernel_rfl
theorem laidConfSays : laidOutB Tryz.prog = true := by kernel_rfl
theorem readConfSays : Tryz.f3.params.toList.all (fun t => Tryz.prog.readableRec t && decide (t < Tryz.prog.types.size)) = true := by kernel_rfl
theorem metConfSays (os : Os) (args : Array Value) : laidMetH Tryz.prog Rows.confSaysRow.laid ((World.laidAll Tryz.prog os Rows.confSaysRow.laid).forCall (fun _ _ => 0) ⟨#[], args, []⟩).memory :=
  (MakeChecks.laidMetH_plain _ _ _ (by kernel_rfl)).mpr (laidMet_laidAll _ (by kernel_rfl) (by kernel_rfl))
set_option maxRecDepth 100000 in
theorem liftedConfSays (os : Os) (started : os.Started) (H : Type) (enc : TypeId × Value → H) :
    ReturnsInHanded {} Tryz.checked os 3 .any (fun w args => (Rows.confSaysSpec.pre enc Tryz.prog Tryz.f3 [] false w args ∧ laidMetH Tryz.prog Rows.confSaysRow.laid w) ∧ sizedMet enc Tryz.prog Tryz.f3 (OpenSpec.ofChange Rows.confSaysSpec) false w args) (Rows.confSaysSpec.post enc Tryz.prog Tryz.f3 false true false false) :=
  law_lifted_laidS (C := Tryz.checked) (enc := enc) ownConfSays started (by kernel_rfl) Tryz.func3
    (ChangeSpec.witness_shaped (enc := enc) (C := Tryz.checked) (os := os) (X := fun w _ => laidMetH Tryz.prog Rows.confSaysRow.laid w) false (World.laidAll Tryz.prog os Rows.confSaysRow.laid) #[.agg #[.int .u32 0, .int .i64 0, .int .i64 0, .int .i64 0, .int .i64 0, .int .i64 0, .slice none 0 0, .bool false], .string ByteArray.empty] 8 rfl (World.shaped_of_ZipB (by kernel_rfl) (by kernel_rfl)) (by kernel_rfl) (by kernel_rfl) (by kernel_rfl) (metConfSays os _))
    shsConfSays (by kernel_rfl) fitConfSays rfl (fun ds h => by
      match ds, h with
      | [d0, d1], _ => exact ⟨rfl, rfl, rfl⟩) 4 (by kernel_rfl) Tryz.underlying4 laidConfSays readConfSays coreConfSays
theorem overConfSays : Rows.confSaysRow.holds Tryz.pinned (OpenSpec.ofChange Rows.confSaysSpec) :=
  OpenClaim.holds_of_wide 3 Tryz.f3 rfl rfl rfl rfl rfl rfl rfl ⟨rfl, rfl, rfl, rfl, rfl⟩ rfl rfl rfl rfl rfl (by kernel_rfl) Tryz.func3 (by kernel_rfl)
    (of_decide_eq_true (by kernel_rfl)) (by unfold Func.isWrapper; rw [if_neg (of_decide_eq_false (by kernel_rfl))]; exact ⟨rfl, rfl⟩)
    (fun os started H enc _ => liftedConfSays os started H enc)
/-- THE STATEMENT: the tied card. -/
theorem provedConfSays : Rows.ConfSaysCardSaid :=
  Claim7.holds_tied_plain_at .later [] [.data, .data, .data, .data, .sentinel, .sentinel, .pinned] true (true, "11b347162c4bc3edca4bfb6b359d4de93521d4f5799a50bacd42821b2cb7ef60") true
    overConfSays (fun _ h => by cases h) (by kernel_rfl) (fun _ h => by cases h) confSays_row_tie rfl ⟨rfl, rfl⟩ (by kernel_rfl) rfl
    (fun f fn hf hfn => by
      obtain rfl : f = 3 := Option.some.inj ((show Tryz.prog.funcNamed Rows.confSaysRow.func = some 3 by kernel_rfl).symm.trans hf) |>.symm
      obtain rfl : fn = Tryz.f3 := (Option.some.inj (Tryz.func3.symm.trans hfn)).symm
      exact ⟨by kernel_rfl, fun j t ht => by
        have hall : (Tryz.f3.params.toList.all fun u => !Tryz.prog.wantsStandIn u) = true := by kernel_rfl
        have hm : t ∈ Tryz.f3.params.toList := by simpa using Array.mem_of_getElem? ht
        exact (show Tryz.prog.wantsStandIn t = false by simpa using List.all_eq_true.1 hall t hm)⟩)
    (by kernel_rfl)
#print axioms provedConfSays
end Go.Proofs.YtbcamncabckbnaaGreatDoor
