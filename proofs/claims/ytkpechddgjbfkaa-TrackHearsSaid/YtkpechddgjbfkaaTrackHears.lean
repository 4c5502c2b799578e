/-
  TrackHears: whatever is handed in, the law's function returns true. No condition.
-/
import Derived.Test.YtkpechddgjbfkaaTrackE
import Derived.Test.YtkpechddgjbfkaaLawFw
import Derived.Test.YtkpechddgjbfkaaRows
namespace Go.Proofs.Ytkpechddgjbfkaa
open Go.ChangeShapes Go.WideShapes Go.ChangeAt Go.RowKit
set_option linter.unusedVariables false
set_option linter.unusedSimpArgs false

def shsTrackHears : List Sh := [.slice 48 7 (.cons (.cons (.int .u32) (.cons (.int .u32) (.cons (.int .i64) (.cons (.int .i64) (.nil))))) (.cons (.int .i64) (.cons (.int .i64) (.cons (.int .i64) (.nil))))), .cons (.int .u32) (.cons (.int .u32) (.cons (.int .i64) (.cons (.int .i64) (.nil)))), .int .i64, .int .i64]

set_option maxRecDepth 10000 in
set_option maxHeartbeats 2000000 in
theorem hears_core (l : List Tk) (a b c d fl now : Int) (r : List Tk × Bool × Int) (hl : r.1.length ≤ maxLen)
    (h1 : Spec Try.prog 23 [.snap 7 (l.map Tk.enc) false, dR a b c d, .v (.int .i64 fl), .v (.int .i64 now)] (hD r))
    (h2 : Spec Try.prog 24 [.snap 7 (l.map Tk.enc) false, dR a b c d, .v (.int .i64 fl), .v (.int .i64 now)] (hD r)) :
    Spec Try.prog 5 [.snap 7 (l.map Tk.enc) false, dR a b c d, .v (.int .i64 fl), .v (.int .i64 now)] (.v (.bool true)) := by
  obtain ⟨m, q, e⟩ := r
  refine hspec_fn Try.func5 rfl ok_custlaw_TrackHears okr_custlaw_TrackHears rfl (by kernel_rfl) ?_
  intro Γ hW0 hN0 hL0
  have hW := hW0 rfl
  clear hW0 hN0 hL0
  unfold x_custlaw_TrackHears r_custlaw_TrackHears
  repeat' (first
    | (with_reducible refine go_seq ?_)
    | (with_reducible refine go_region ?_)
    | (with_reducible refine go_regionD mixed_ok ?_)
    | (with_reducible refine go_cond ?_)
    | (with_reducible refine go_skip ?_)
    | (with_reducible refine go_block ?_)
    | (with_reducible refine nx_code ?_)
    | (with_reducible refine nx_block ?_)
    | (with_reducible refine go_ret ?_)
    | (with_reducible refine nx_nil ?_)
    | (with_reducible refine go_exit ?_)
    | (with_reducible refine ex_code ?_)
    | (with_reducible refine ex_loop ?_)
    | (with_reducible refine ex_here ?_)
    | ((with_reducible refine ex_past ?_ ?_); (exact by decide))
    | ((with_reducible refine endD_intro ?_ ?_); (exact by kernel_rfl))
    | ((with_reducible refine runR_n ?_ ?_); (solve | ((repeat' (first | exact trivial | exact rfl | apply And.intro)) <;> (first | exact rfl | (intro hq; cases hq; done) | decide | omega | (simp only [List.length_map, List.length_append, List.length_cons, List.length_nil, List.length_replicate]; done) | (simp only [room, maxLen, allOnes, oneV, List.length_map, List.length_append, List.length_cons, List.length_nil, List.length_replicate] at *; omega) | (simp only [decide_eq_true_eq, decide_eq_false_iff_not, Bool.not_eq_true', Bool.not_eq_false', Bool.and_eq_true, Bool.or_eq_true, Bool.and_eq_false_iff, Bool.or_eq_false_iff, Int.not_le, Int.not_lt, Decidable.not_not, ne_eq, not_true_eq_false, not_false_eq_true, decide_true, decide_false, Bool.not_true, Bool.not_false, Bool.false_eq_true, reduceCtorEq, List.length_map, beq_self_eq_true, Bool.and_true, Bool.true_and, Bool.false_and, Bool.and_false] at * <;> omega)))))
    | (first | (with_reducible refine runR_call h1 ?_) | (with_reducible refine runR_call h2 ?_) | (with_reducible refine runR_call (tcheck_spec l) ?_) | (with_reducible refine runR_call (trright_spec l) ?_) | (with_reducible refine runR_call (tkeq_same m false false hl) ?_))
    | (dsimp only [run, undef, runR_ok, runR_t, runR_f, gd, gd2, skipR, ex1, pickR, boxR, loadR, loadO, storeR, storeO, nilR, fieldAR, fieldR, partOf, binR, intBin, unR, boolR, kindEq, shiftOp, onlyIf, orB, convR, extR, lenR, indexSlR, indexArrR, putE, updL, keysOf, lget, lset, evT, evs, Env.get, Env.set, N8.get, N8.set, env0, cellsD, oneD, oneV, andB, allOne, lenB, mapV, dget, ddrop, dtake, splice, xget, xset, partsD, partsOk, partsE, partsEOk, repl, elemsR, elemsO, xdrop, xtake, allOnes, appN, appOwn, appNew, appY, cellEq_i, cellEq_b, cellEq_s, consO, cmpAll, allB, negB, eqsO, eqsR, eqbR, minR, evO, bndO, keepB, snapCut, slCut, nilCut, sliceR, isS, isnilL, isnilX, isnilR, strBin, sbinR, slenR, strAtR, substrB, substrR, makeR, clearO, clearR, sliceW1, sliceW2, sliceW3, sliceWR, appWO, appWR, okByte, okBytes, b2sR, appD, callvR, cond, condK_t, condK_f, argsE, slots0, List.length_cons, List.length_nil, Bool.true_or, Bool.false_or, Bool.or_true, Bool.or_false, bnf, bnt, Nat.add_zero, Nat.zero_add, Nat.reduceAdd, Nat.reduceMul, Int.reduceToNat, endS])
    | (with_reducible refine runR_b (fun h => ?_) (fun h => ?_) <;> first | (exfalso; (simp only [decide_eq_true_eq, decide_eq_false_iff_not, Bool.not_eq_true', Bool.not_eq_false', Bool.and_eq_true, Bool.or_eq_true, Bool.and_eq_false_iff, Bool.or_eq_false_iff, Int.not_le, Int.not_lt, Decidable.not_not, ne_eq, not_true_eq_false, not_false_eq_true, decide_true, decide_false, Bool.not_true, Bool.not_false, Bool.false_eq_true, reduceCtorEq, List.length_map, beq_self_eq_true, Bool.and_true, Bool.true_and, Bool.false_and, Bool.and_false] at * <;> omega); done) | simp only [h, runR_t, runR_f])
    | (with_reducible refine condK_bl ?_ ?_)
    | (with_reducible refine condK_b (fun h => ?_) (fun h => ?_) <;> first | (exfalso; (simp only [decide_eq_true_eq, decide_eq_false_iff_not, Bool.not_eq_true', Bool.not_eq_false', Bool.and_eq_true, Bool.or_eq_true, Bool.and_eq_false_iff, Bool.or_eq_false_iff, Int.not_le, Int.not_lt, Decidable.not_not, ne_eq, not_true_eq_false, not_false_eq_true, decide_true, decide_false, Bool.not_true, Bool.not_false, Bool.false_eq_true, reduceCtorEq, List.length_map, beq_self_eq_true, Bool.and_true, Bool.true_and, Bool.false_and, Bool.and_false] at * <;> omega); done) | skip)
    | fail)
  (all_goals first | (exfalso; (try simp only [List.length_map] at *); first | omega | (simp only [decide_eq_true_eq, decide_eq_false_iff_not, Bool.not_eq_true', Bool.not_eq_false', Bool.and_eq_true, Bool.or_eq_true, Bool.and_eq_false_iff, Bool.or_eq_false_iff, Int.not_le, Int.not_lt, Decidable.not_not, ne_eq, not_true_eq_false, not_false_eq_true, decide_true, decide_false, Bool.not_true, Bool.not_false, Bool.false_eq_true, reduceCtorEq, List.length_map, beq_self_eq_true, Bool.and_true, Bool.true_and, Bool.false_and, Bool.and_false] at * <;> omega)) | skip)
  all_goals first
    | (exfalso; simp at *; done)
    | skip
  all_goals with_reducible refine ret_spec (by (try dsimp only [RetOK, resOk, resDs, resD, resV, cellV, cellO, cellP, cellOk, htake, nfD, nfL, nfLL, nfH, lget, partOf, xget, ddrop, dtake, dget, Env.get, N8.get, env0, List.length_cons, List.length_nil, Env.set, N8.set, lset, updL]); (repeat' (first | exact trivial | exact rfl | decide | apply And.intro))) (by (try dsimp only [RetOK, resOk, resDs, resD, resV, cellV, cellO, cellP, cellOk, htake, nfD, nfL, nfLL, nfH, lget, partOf, xget, ddrop, dtake, dget, Env.get, N8.get, env0, List.length_cons, List.length_nil, Env.set, N8.set, lset, updL]); (repeat' (first | exact trivial | exact nfLL_map (fun x => by simp [nfL, nfD, nfD]) | apply And.intro))) ?_
  all_goals (try dsimp only [RetOK, resOk, resDs, resD, resV, cellV, cellO, cellP, cellOk, htake, nfD, nfL, nfLL, nfH, lget, partOf, xget, ddrop, dtake, dget, Env.get, N8.get, env0, List.length_cons, List.length_nil, Env.set, N8.set, lset, updL])
  all_goals (try simp only [decide_eq_true_eq, decide_eq_false_iff_not, Bool.not_eq_true', Bool.not_eq_false', Bool.and_eq_true, Bool.or_eq_true, Bool.and_eq_false_iff, Bool.or_eq_false_iff] at *)
  all_goals first
    | rfl
    | (refine dbool ?_; simp)
theorem hears_spec (l : List Tk) (a b c d fl now : Int) (hr : room l.length 48) : Spec Try.prog 5 [.snap 7 (l.map Tk.enc) false, dR a b c d, .v (.int .i64 fl), .v (.int .i64 now)] (.v (.bool true)) := by
  have hr' := hr
  unfold room maxLen at hr'
  by_cases he : trErr l = 0
  · have hl := (trErr_good he).1
    have hy : (yng l now).length ≤ l.length := List.length_filter_le _ _
    cases hb : argB l a b c d fl now with
    | false => exact hears_core l a b c d fl now (l, false, 1) hr.1 (hear_arg l a b c d fl now hr he hb) (heardr_arg l a b c d fl now he hb)
    | true =>
      have hfl : 0 ≤ fl ∧ fl ≤ 255 := by
        unfold argB at hb
        simp only [Bool.and_eq_true, decide_eq_true_eq] at hb
        exact hb.2.1
      obtain ⟨syn, ack, fin, rst, hf⟩ := flags_ex hfl
      rcases firstI_cases (fun t : Tk => t.along a b c d) (yng l now) 0 with ⟨h1, -⟩ | ⟨i, t, hi, -, -, h1⟩
      · refine hears_core l a b c d fl now (heard0 l a b c d now syn ack fin rst) ?_ (hear_none l a b c d fl now hr he hb syn ack fin rst hf h1) (heardr_none l a b c d fl now he hb syn ack fin rst hf h1)
        unfold heard0 maxLen
        split
        · show (yng l now).length ≤ _; omega
        · split
          · show l.length ≤ _; omega
          · show (yng l now ++ [_]).length ≤ _; rw [List.length_append, List.length_singleton]; omega
      · rw [Nat.zero_add] at h1
        have hs := hear_some l a b c d fl now hr he hb syn ack fin rst hf i t hi h1
        have hm : (heard1 l a b c d now syn ack fin rst i t).1.length ≤ maxLen := by
          unfold heard1 maxLen
          split
          · show (List.take i (yng l now) ++ List.drop (i + 1) (yng l now)).length ≤ _
            rw [List.length_append, List.length_take, List.length_drop]; omega
          · split
            · show (yng l now).length ≤ _; omega
            · show (List.take i (yng l now) ++ List.drop (i + 1) (yng l now) ++ [_]).length ≤ _
              rw [List.length_append, List.length_append, List.length_take, List.length_drop, List.length_singleton]; omega
        cases rst with
        | true => exact hears_core l a b c d fl now _ hm hs (heardr_rst l a b c d fl now he hb syn ack fin hf i t hi h1)
        | false => exact hears_core l a b c d fl now _ hm hs (heardr_nr l a b c d fl now he hb syn ack fin hf i t hi h1)
  · exact hears_core l a b c d fl now (l, false, trErr l) hr.1 (hear_e1 l a b c d fl now hr he) (heardr_e1 l a b c d fl now he)
theorem room_map {α β : Type} (f : α → β) (l : List α) (b : Nat) (h1 : l.length * b ≤ 140737488351232) (h2 : l.length ≤ maxLen) : room (l.map f).length b := by
  rw [List.length_map]
  exact ⟨h2, by omega⟩
theorem sv_TrackHears (l : List ((Int × Int × Int × Int × Unit) × (Int × Int × Int × Unit))) (a b c d fl now : Int) (u v : Unit) : valSs shsTrackHears (l, (a, b, c, d, u), fl, now, v) = [.snap 7 ((l.map fun t => (⟨t.1.1, t.1.2.1, t.1.2.2.1, t.1.2.2.2.1, t.2.1, t.2.2.1, t.2.2.2.1⟩ : Tk)).map Tk.enc) false, dR a b c d, .v (.int .i64 fl), .v (.int .i64 now)] := by
  rw [List.map_map]
  rfl
theorem coreTrackHears (W : World) (args : Array Value) (h : opnAll W W.heap.size shsTrackHears args.toList) :
    Calls Try.prog 5 args W fun e W' => e = .returned (.bool true) ∧ Below W.heap.size W W' := by
  refine law_core rfl h (fun x hx => ?_)
  obtain ⟨l, ⟨a, b, c, d, u⟩, fl, now, v⟩ := x
  have h1 : l.length * 48 ≤ 140737488351232 := hx.1.1
  have h2 : l.length ≤ maxLen := hx.1.2.1
  exact Eq.mpr (congrArg (fun l => Spec Try.prog 5 l (.v (.bool true))) (sv_TrackHears l a b c d fl now u v)) (hears_spec _ a b c d fl now (room_map _ _ 48 h1 h2))
/-! THE ROW: the frame round 'core' -/
theorem ownTrackHears : ownKnob Try.prog.godebug = none := by kernel_rfl
theorem fitTrackHears : (List.range shsTrackHears.length).all (fun i => match shsTrackHears[i]?, Try.f5.params.toList[i]? with | some s, some t => s.fit Try.prog none t | _, _ => false) = true := by kernel_rfl
theorem laidTrackHears : laidOutB Try.prog = true := by kernel_rfl
theorem readTrackHears : Try.f5.params.toList.all (fun t => Try.prog.readableRec t && decide (t < Try.prog.types.size)) = true := by kernel_rfl
set_option maxRecDepth 100000 in
theorem liftedTrackHears (os : Os) (started : os.Started) (H : Type) (enc : TypeId × Value → H) :
    ReturnsInHanded {} Try.checked os 5 .any (Rows.trackHearsSpec.pre6 enc Try.prog Try.f5 Rows.trackHearsRow.domain false) (Rows.trackHearsSpec.post enc Try.prog Try.f5 false true false false) :=
  law_lifted (C := Try.checked) (enc := enc) ownTrackHears started (by kernel_rfl) Try.func5
    (ChangeSpec.witness6 (enc := enc) (C := Try.checked) false ⟨#[], #[.slice none 0 0, .agg #[.int .u32 0, .int .u32 0, .int .i64 0, .int .i64 0], .int .i64 0, .int .i64 0], []⟩ 8 (by kernel_rfl) (by kernel_rfl) (by kernel_rfl) (by kernel_rfl))
    shsTrackHears (by kernel_rfl) fitTrackHears rfl (fun ds h => by
      match ds, h with
      | [d0, d1, d2, d3], _ => exact ⟨rfl, rfl, rfl⟩) 4 (by kernel_rfl) Try.underlying4 laidTrackHears readTrackHears coreTrackHears
theorem overTrackHears : Rows.trackHearsRow.holds Try.pinned (OpenSpec.ofChange Rows.trackHearsSpec) :=
  OpenClaim.holds_of_wide 5 Try.f5 rfl rfl rfl rfl rfl rfl rfl ⟨rfl, rfl, rfl, rfl, rfl⟩ rfl rfl rfl rfl rfl (by kernel_rfl) Try.func5 (by kernel_rfl)
    (of_decide_eq_true (by kernel_rfl)) (by unfold Func.isWrapper; rw [if_neg (of_decide_eq_false (by kernel_rfl))]; exact ⟨rfl, rfl⟩)
    (fun os started H enc _ => liftedTrackHears os started H enc)
/-- THE STATEMENT -/
theorem provedTrackHears : Rows.TrackHearsSaid := overTrackHears
#print axioms provedTrackHears
end Go.Proofs.Ytkpechddgjbfkaa
