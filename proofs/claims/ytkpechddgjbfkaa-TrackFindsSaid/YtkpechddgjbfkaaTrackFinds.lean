/-
  TrackFinds: whatever is handed in, the law's function returns true. No condition.
-/
import Derived.Test.YtkpechddgjbfkaaTrackZ
import Derived.Test.YtkpechddgjbfkaaFwB
import Derived.Test.YtkpechddgjbfkaaLawFw
import Derived.Test.YtkpechddgjbfkaaRows
namespace Go.Proofs.Ytkpechddgjbfkaa
open Go.ChangeShapes Go.WideShapes Go.ChangeAt Go.RowKit
set_option linter.unusedVariables false
set_option linter.unusedSimpArgs false

def shsTrackFinds : List Sh := [.slice 48 7 (.cons (.cons (.int .u32) (.cons (.int .u32) (.cons (.int .i64) (.cons (.int .i64) (.nil))))) (.cons (.int .i64) (.cons (.int .i64) (.cons (.int .i64) (.nil))))), .cons (.int .u32) (.cons (.int .u32) (.cons (.int .i64) (.cons (.int .i64) (.nil)))), .int .i64]

def tk0 : Tk := ⟨0, 0, 0, 0, 0, 0, 0⟩
set_option maxRecDepth 10000 in
set_option maxHeartbeats 2000000 in
/-- The law, where the loop comes to what Find has told. -/
theorem finds_core (l : List Tk) (a b c d now : Int) (hl : l.length ≤ maxLen) (T : Tk) (F : Bool) (st : Nat → Tk × Bool) (h0 : st 0 = (tk0, false)) (hlast : st l.length = (T, F))
    (hnext : ∀ k t, l[k]? = some t → st (k + 1) = if fnErr l now = 0 ∧ t.along a b c d = true ∧ t.old now = false then (t, true) else st k)
    (hfind : Spec Try.prog 19 [.snap 7 (l.map Tk.enc) false, dR a b c d, .v (.int .i64 now)] (.tup [dT T.a T.b T.c T.d T.s T.o T.x, .v (.bool F), .v (.int .i64 (fnErr l now))])) :
    Spec Try.prog 4 [.snap 7 (l.map Tk.enc) false, dR a b c d, .v (.int .i64 now)] (.v (.bool true)) := by
  have hc := fnErr_cases l now
  refine hspec_fn Try.func4 rfl ok_custlaw_TrackFinds okr_custlaw_TrackFinds rfl (by kernel_rfl) ?_
  intro Γ hW0
  have hW := hW0 rfl
  clear hW0
  unfold x_custlaw_TrackFinds r_custlaw_TrackFinds
  repeat' (first
    | (with_reducible refine go_seqR ?_)
    | (with_reducible refine go_seqD ?_)
    | (with_reducible refine go_seqB ?_)
    | (with_reducible refine go_seqL ?_)
    | (with_reducible refine go_region ?_)
    | (with_reducible refine go_regionD mixed_ok ?_)
    | (with_reducible refine go_cond ?_)
    | (with_reducible refine go_skip ?_)
    | (with_reducible refine go_block ?_)
    | (with_reducible refine nx_code ?_)
    | (with_reducible refine nx_block ?_)
    | (with_reducible refine go_ret ?_)
    | (with_reducible refine nx_nil ?_)
    | (with_reducible refine go_exit ?_)
    | (with_reducible refine ex_code ?_)
    | (with_reducible refine ex_loop ?_)
    | (with_reducible refine ex_here ?_)
    | ((with_reducible refine ex_past ?_ ?_); (exact by decide))
    | ((with_reducible refine endD_intro ?_ ?_); (exact by kernel_rfl))
    | ((with_reducible refine runR_n ?_ ?_); (solve | ((repeat' (first | exact trivial | exact rfl | apply And.intro)) <;> (first | exact rfl | decide | omega | (simp only [List.length_map, List.length_append, List.length_cons, List.length_nil, List.length_replicate]; done) | (simp only [room, maxLen, allOnes, oneV, List.length_map, List.length_append, List.length_cons, List.length_nil, List.length_replicate] at *; omega) | (simp only [decide_eq_true_eq, decide_eq_false_iff_not, Bool.not_eq_true', Bool.not_eq_false', Bool.and_eq_true, Bool.or_eq_true, Bool.and_eq_false_iff, Bool.or_eq_false_iff, Int.not_le, Int.not_lt, Decidable.not_not, ne_eq, not_true_eq_false, not_false_eq_true, decide_true, decide_false, Bool.not_true, Bool.not_false, Bool.false_eq_true, reduceCtorEq, List.length_map, beq_self_eq_true, Bool.and_true, Bool.true_and, Bool.false_and, Bool.and_false] at * <;> omega)))))
    | (first | (with_reducible refine runR_call hfind ?_) | (with_reducible refine runR_call (trright_spec l) ?_))
    | (dsimp only [run, undef, runR_ok, runR_t, runR_f, gd, gd2, skipR, ex1, pickR, boxR, loadR, loadO, storeR, storeO, nilR, fieldAR, fieldR, partOf, binR, intBin, unR, boolR, kindEq, shiftOp, onlyIf, orB, convR, extR, lenR, indexSlR, indexArrR, putE, updL, keysOf, lget, lset, evT, evs, Env.get, Env.set, N8.get, N8.set, env0, cellsD, oneD, oneV, andB, allOne, lenB, mapV, dget, ddrop, dtake, splice, xget, xset, partsD, partsOk, partsE, partsEOk, repl, elemsR, elemsO, xdrop, xtake, allOnes, appN, appOwn, appNew, appY, cellEq_i, cellEq_b, cellEq_s, consO, cmpAll, allB, negB, eqsO, eqsR, eqbR, minR, evO, bndO, keepB, snapCut, slCut, nilCut, sliceR, isS, isnilL, isnilX, isnilR, strBin, sbinR, slenR, appD, callvR, cond, condK_t, condK_f, argsE, slots0, List.length_cons, List.length_nil, Bool.true_or, Bool.false_or, Bool.or_true, Bool.or_false, Bool.not_true, Bool.not_false, Nat.add_zero, Nat.zero_add, Nat.reduceAdd, Nat.reduceMul, Int.reduceToNat, endS])
    | (with_reducible refine runR_b (fun h => ?_) (fun h => ?_) <;> first | (exfalso; (simp only [decide_eq_true_eq, decide_eq_false_iff_not, Bool.not_eq_true', Bool.not_eq_false', Bool.and_eq_true, Bool.or_eq_true, Bool.and_eq_false_iff, Bool.or_eq_false_iff, Int.not_le, Int.not_lt, Decidable.not_not, ne_eq, not_true_eq_false, not_false_eq_true, decide_true, decide_false, Bool.not_true, Bool.not_false, Bool.false_eq_true, reduceCtorEq, List.length_map, beq_self_eq_true, Bool.and_true, Bool.true_and, Bool.false_and, Bool.and_false] at * <;> omega); done) | simp only [h, runR_t, runR_f])
    | (with_reducible refine condK_bl ?_ ?_)
    | (with_reducible refine condK_b (fun h => ?_) (fun h => ?_) <;> first | (exfalso; (simp only [decide_eq_true_eq, decide_eq_false_iff_not, Bool.not_eq_true', Bool.not_eq_false', Bool.and_eq_true, Bool.or_eq_true, Bool.and_eq_false_iff, Bool.or_eq_false_iff, Int.not_le, Int.not_lt, Decidable.not_not, ne_eq, not_true_eq_false, not_false_eq_true, decide_true, decide_false, Bool.not_true, Bool.not_false, Bool.false_eq_true, reduceCtorEq, List.length_map, beq_self_eq_true, Bool.and_true, Bool.true_and, Bool.false_and, Bool.and_false] at * <;> omega); done) | skip)
    | fail)
  refine go_midH (α := Unit) (fun _ => [(⟨.d0, .d1, .d3⟩, .v (.int .i64 (fnErr l now)))]) (fun _ => []) (fun _ => Γ.g0 + 1 + 1 + 1) (fun _ => True) ?_ ?_
  · skip
    repeat' (first
      | (with_reducible refine go_seq ?_)
      | (with_reducible refine go_region ?_)
      | (with_reducible refine go_regionD mixed_ok ?_)
      | (with_reducible refine go_cond ?_)
      | (with_reducible refine go_skip ?_)
      | (with_reducible refine go_block ?_)
      | (with_reducible refine nx_code ?_)
      | (with_reducible refine nx_block ?_)
      | (with_reducible refine go_ret ?_)
      | (with_reducible refine nx_nil ?_)
      | (with_reducible refine go_exit ?_)
      | (with_reducible refine ex_code ?_)
      | (with_reducible refine ex_loop ?_)
      | (with_reducible refine ex_here ?_)
      | ((with_reducible refine ex_past ?_ ?_); (exact by decide))
      | ((with_reducible refine endD_intro ?_ ?_); (exact by kernel_rfl))
      | ((with_reducible refine runR_n ?_ ?_); (solve | ((repeat' (first | exact trivial | exact rfl | apply And.intro)) <;> (first | exact rfl | decide | omega | (simp only [List.length_map, List.length_append, List.length_cons, List.length_nil, List.length_replicate]; done) | (simp only [room, maxLen, allOnes, oneV, List.length_map, List.length_append, List.length_cons, List.length_nil, List.length_replicate] at *; omega) | (simp only [decide_eq_true_eq, decide_eq_false_iff_not, Bool.not_eq_true', Bool.not_eq_false', Bool.and_eq_true, Bool.or_eq_true, Bool.and_eq_false_iff, Bool.or_eq_false_iff, Int.not_le, Int.not_lt, Decidable.not_not, ne_eq, not_true_eq_false, not_false_eq_true, decide_true, decide_false, Bool.not_true, Bool.not_false, Bool.false_eq_true, reduceCtorEq, List.length_map, beq_self_eq_true, Bool.and_true, Bool.true_and, Bool.false_and, Bool.and_false] at * <;> omega)))))
      | (with_reducible refine runR_call (between_spec _ _ _) ?_)
      | (dsimp only [run, undef, runR_ok, runR_t, runR_f, gd, gd2, skipR, ex1, pickR, boxR, loadR, loadO, storeR, storeO, nilR, fieldAR, fieldR, partOf, binR, intBin, unR, boolR, kindEq, shiftOp, onlyIf, orB, convR, extR, lenR, indexSlR, indexArrR, putE, updL, keysOf, lget, lset, evT, evs, Env.get, Env.set, N8.get, N8.set, env0, cellsD, oneD, oneV, andB, allOne, lenB, mapV, dget, ddrop, dtake, splice, xget, xset, partsD, partsOk, partsE, partsEOk, repl, elemsR, elemsO, xdrop, xtake, allOnes, appN, appOwn, appNew, appY, cellEq_i, cellEq_b, cellEq_s, consO, cmpAll, allB, negB, eqsO, eqsR, eqbR, minR, evO, bndO, keepB, snapCut, slCut, nilCut, sliceR, isS, isnilL, isnilX, isnilR, strBin, sbinR, slenR, appD, callvR, cond, condK_t, condK_f, argsE, slots0, List.length_cons, List.length_nil, Bool.true_or, Bool.false_or, Bool.or_true, Bool.or_false, Bool.not_true, Bool.not_false, Nat.add_zero, Nat.zero_add, Nat.reduceAdd, Nat.reduceMul, Int.reduceToNat, endS])
      | (with_reducible refine runR_b (fun h => ?_) (fun h => ?_) <;> first | (exfalso; (simp only [decide_eq_true_eq, decide_eq_false_iff_not, Bool.not_eq_true', Bool.not_eq_false', Bool.and_eq_true, Bool.or_eq_true, Bool.and_eq_false_iff, Bool.or_eq_false_iff, Int.not_le, Int.not_lt, Decidable.not_not, ne_eq, not_true_eq_false, not_false_eq_true, decide_true, decide_false, Bool.not_true, Bool.not_false, Bool.false_eq_true, reduceCtorEq, List.length_map, beq_self_eq_true, Bool.and_true, Bool.true_and, Bool.false_and, Bool.and_false] at * <;> omega); done) | simp only [h, runR_t, runR_f])
      | (with_reducible refine condK_bl ?_ ?_)
      | (with_reducible refine condK_b (fun h => ?_) (fun h => ?_) <;> first | (exfalso; (simp only [decide_eq_true_eq, decide_eq_false_iff_not, Bool.not_eq_true', Bool.not_eq_false', Bool.and_eq_true, Bool.or_eq_true, Bool.and_eq_false_iff, Bool.or_eq_false_iff, Int.not_le, Int.not_lt, Decidable.not_not, ne_eq, not_true_eq_false, not_false_eq_true, decide_true, decide_false, Bool.not_true, Bool.not_false, Bool.false_eq_true, reduceCtorEq, List.length_map, beq_self_eq_true, Bool.and_true, Bool.true_and, Bool.false_and, Bool.and_false] at * <;> omega); done) | skip)
      | fail)
    (all_goals first | (exfalso; (try simp only [List.length_map] at *); first | omega | (simp only [decide_eq_true_eq, decide_eq_false_iff_not, Bool.not_eq_true', Bool.not_eq_false', Bool.and_eq_true, Bool.or_eq_true, Bool.and_eq_false_iff, Bool.or_eq_false_iff, Int.not_le, Int.not_lt, Decidable.not_not, ne_eq, not_true_eq_false, not_false_eq_true, decide_true, decide_false, Bool.not_true, Bool.not_false, Bool.false_eq_true, reduceCtorEq, List.length_map, beq_self_eq_true, Bool.and_true, Bool.true_and, Bool.false_and, Bool.and_false] at * <;> omega)) | skip)
    all_goals (refine nx_loop ⟨(), trivial, ?_⟩)
    all_goals
    refine le_mk ?_ ?_ (Nat.le_refl _)
    all_goals dsimp only [leE, leC, leR, leN, leD, leH, leO, writesX, dstsX, appS, havE, setsE, Env.get, Env.set, N8.get, N8.set, updL, lget, lset, env0]
    all_goals (repeat' (first | exact trivial | exact rfl | apply And.intro))
    all_goals (refine dint ?_; (simp only [decide_eq_true_eq, decide_eq_false_iff_not, Bool.not_eq_true', Bool.not_eq_false', Bool.and_eq_true, Bool.or_eq_true, Bool.and_eq_false_iff, Bool.or_eq_false_iff, Int.not_le, Int.not_lt, Decidable.not_not, ne_eq, not_true_eq_false, not_false_eq_true, decide_true, decide_false, Bool.not_true, Bool.not_false, Bool.false_eq_true, reduceCtorEq, List.length_map, beq_self_eq_true, Bool.and_true, Bool.true_and, Bool.false_and, Bool.and_false] at * <;> omega))
  rintro _ -
  dsimp only [writesX, dstsX, appS, havE, setsE, Env.get, Env.set, N8.get, N8.set, updL, lget, lset, env0]
  repeat' (first
    | (with_reducible refine go_seqR ?_)
    | (with_reducible refine go_seqD ?_)
    | (with_reducible refine go_seqB ?_)
    | (with_reducible refine go_seqL ?_)
    | (with_reducible refine go_region ?_)
    | (with_reducible refine go_regionD mixed_ok ?_)
    | (with_reducible refine go_cond ?_)
    | (with_reducible refine go_skip ?_)
    | (with_reducible refine go_block ?_)
    | (with_reducible refine nx_code ?_)
    | (with_reducible refine nx_block ?_)
    | (with_reducible refine go_ret ?_)
    | (with_reducible refine nx_nil ?_)
    | (with_reducible refine go_exit ?_)
    | (with_reducible refine ex_code ?_)
    | (with_reducible refine ex_loop ?_)
    | (with_reducible refine ex_here ?_)
    | ((with_reducible refine ex_past ?_ ?_); (exact by decide))
    | ((with_reducible refine endD_intro ?_ ?_); (exact by kernel_rfl))
    | ((with_reducible refine runR_n ?_ ?_); (solve | ((repeat' (first | exact trivial | exact rfl | apply And.intro)) <;> (first | exact rfl | decide | omega | (simp only [List.length_map, List.length_append, List.length_cons, List.length_nil, List.length_replicate]; done) | (simp only [room, maxLen, allOnes, oneV, List.length_map, List.length_append, List.length_cons, List.length_nil, List.length_replicate] at *; omega) | (simp only [decide_eq_true_eq, decide_eq_false_iff_not, Bool.not_eq_true', Bool.not_eq_false', Bool.and_eq_true, Bool.or_eq_true, Bool.and_eq_false_iff, Bool.or_eq_false_iff, Int.not_le, Int.not_lt, Decidable.not_not, ne_eq, not_true_eq_false, not_false_eq_true, decide_true, decide_false, Bool.not_true, Bool.not_false, Bool.false_eq_true, reduceCtorEq, List.length_map, beq_self_eq_true, Bool.and_true, Bool.true_and, Bool.false_and, Bool.and_false] at * <;> omega)))))
    | fail
    | (dsimp only [run, undef, runR_ok, runR_t, runR_f, gd, gd2, skipR, ex1, pickR, boxR, loadR, loadO, storeR, storeO, nilR, fieldAR, fieldR, partOf, binR, intBin, unR, boolR, kindEq, shiftOp, onlyIf, orB, convR, extR, lenR, indexSlR, indexArrR, putE, updL, keysOf, lget, lset, evT, evs, Env.get, Env.set, N8.get, N8.set, env0, cellsD, oneD, oneV, andB, allOne, lenB, mapV, dget, ddrop, dtake, splice, xget, xset, partsD, partsOk, partsE, partsEOk, repl, elemsR, elemsO, xdrop, xtake, allOnes, appN, appOwn, appNew, appY, cellEq_i, cellEq_b, cellEq_s, consO, cmpAll, allB, negB, eqsO, eqsR, eqbR, minR, evO, bndO, keepB, snapCut, slCut, nilCut, sliceR, isS, isnilL, isnilX, isnilR, strBin, sbinR, slenR, appD, callvR, cond, condK_t, condK_f, argsE, slots0, List.length_cons, List.length_nil, Bool.true_or, Bool.false_or, Bool.or_true, Bool.or_false, Bool.not_true, Bool.not_false, Nat.add_zero, Nat.zero_add, Nat.reduceAdd, Nat.reduceMul, Int.reduceToNat, endS])
    | (with_reducible refine runR_b (fun h => ?_) (fun h => ?_) <;> first | (exfalso; (simp only [decide_eq_true_eq, decide_eq_false_iff_not, Bool.not_eq_true', Bool.not_eq_false', Bool.and_eq_true, Bool.or_eq_true, Bool.and_eq_false_iff, Bool.or_eq_false_iff, Int.not_le, Int.not_lt, Decidable.not_not, ne_eq, not_true_eq_false, not_false_eq_true, decide_true, decide_false, Bool.not_true, Bool.not_false, Bool.false_eq_true, reduceCtorEq, List.length_map, beq_self_eq_true, Bool.and_true, Bool.true_and, Bool.false_and, Bool.and_false] at * <;> omega); done) | simp only [h, runR_t, runR_f])
    | (with_reducible refine condK_bl ?_ ?_)
    | (with_reducible refine condK_b (fun h => ?_) (fun h => ?_) <;> first | (exfalso; (simp only [decide_eq_true_eq, decide_eq_false_iff_not, Bool.not_eq_true', Bool.not_eq_false', Bool.and_eq_true, Bool.or_eq_true, Bool.and_eq_false_iff, Bool.or_eq_false_iff, Int.not_le, Int.not_lt, Decidable.not_not, ne_eq, not_true_eq_false, not_false_eq_true, decide_true, decide_false, Bool.not_true, Bool.not_false, Bool.false_eq_true, reduceCtorEq, List.length_map, beq_self_eq_true, Bool.and_true, Bool.true_and, Bool.false_and, Bool.and_false] at * <;> omega); done) | skip)
    | fail)
  refine go_loopH (α := Nat × Nat) (fun p => [(⟨.d0, .d1, .d4⟩, .v (.bool (st p.1).2)), (⟨.d0, .d4, .d3⟩, .v (.int .i64 (p.1 : Nat)))]) (fun p => [(2, some ⟨Γ.g0 + 1 + 1, 7, [(st p.1).1.enc]⟩), (3, none)]) (fun p => p.2) (fun p => l.length - p.1) (fun p => p.1 ≤ l.length) (0, Γ.g0 + 1 + 1 + 1) (Nat.zero_le _) ?_ ?_
  · skip
    refine le_mk ?_ ?_ (Nat.le_refl _)
    all_goals dsimp only [leE, leC, leR, leN, leD, leH, leO, writesX, dstsX, appS, havE, setsE, Env.get, Env.set, N8.get, N8.set, updL, lget, lset, env0]
    all_goals (repeat' (first | exact trivial | exact rfl | apply And.intro))
    all_goals (rw [h0] <;> rfl)
  · rintro ⟨k, g⟩ hk
    dsimp only at hk ⊢
    dsimp only [writesX, dstsX, appS, havE, setsE, Env.get, Env.set, N8.get, N8.set, updL, lget, lset, env0]
    by_cases hlt : k < l.length
    · obtain ⟨t, ht⟩ : ∃ t, l[k]? = some t := ⟨_, List.getElem?_eq_getElem hlt⟩
      have ex := xget_tk ht
      have hn := hnext k t ht
      unfold Tk.along Tk.old at hn
      have hfm : trErr l = 0 → t.form = true := fun h => goodT_form (trErr_good h).2 (List.mem_iff_getElem?.2 ⟨k, ht⟩)
      repeat' (first
        | (with_reducible refine go_seq ?_)
        | (with_reducible refine go_region ?_)
        | (with_reducible refine go_regionD mixed_ok ?_)
        | (with_reducible refine go_cond ?_)
        | (with_reducible refine go_skip ?_)
        | (with_reducible refine go_block ?_)
        | (with_reducible refine nx_code ?_)
        | (with_reducible refine nx_block ?_)
        | (with_reducible refine go_ret ?_)
        | (with_reducible refine nx_nil ?_)
        | (with_reducible refine go_exit ?_)
        | (with_reducible refine ex_code ?_)
        | (with_reducible refine ex_loop ?_)
        | (with_reducible refine ex_here ?_)
        | ((with_reducible refine ex_past ?_ ?_); (exact by decide))
        | ((with_reducible refine endD_intro ?_ ?_); (exact by kernel_rfl))
        | ((with_reducible refine runR_n ?_ ?_); (solve | ((repeat' (first | exact trivial | exact rfl | apply And.intro)) <;> (first | exact rfl | decide | omega | (simp only [List.length_map, List.length_append, List.length_cons, List.length_nil, List.length_replicate]; done) | (simp only [room, maxLen, allOnes, oneV, List.length_map, List.length_append, List.length_cons, List.length_nil, List.length_replicate] at *; omega) | (simp only [decide_eq_true_eq, decide_eq_false_iff_not, Bool.not_eq_true', Bool.not_eq_false', Bool.and_eq_true, Bool.or_eq_true, Bool.and_eq_false_iff, Bool.or_eq_false_iff, Int.not_le, Int.not_lt, Decidable.not_not, ne_eq, not_true_eq_false, not_false_eq_true, decide_true, decide_false, Bool.not_true, Bool.not_false, Bool.false_eq_true, reduceCtorEq, List.length_map, beq_self_eq_true, Bool.and_true, Bool.true_and, Bool.false_and, Bool.and_false] at * <;> omega)))))
        | (first | (with_reducible refine runR_call (along_spec _ _ _ _ _ _ _ _ _ _ _) ?_) | (with_reducible refine runR_call (talkold_spec _ _ _ _ _ _ _ _ (form_bd (hfm (by (simp only [decide_eq_true_eq, decide_eq_false_iff_not, Bool.not_eq_true', Bool.not_eq_false', Bool.and_eq_true, Bool.or_eq_true, Bool.and_eq_false_iff, Bool.or_eq_false_iff, Int.not_le, Int.not_lt, Decidable.not_not, ne_eq, not_true_eq_false, not_false_eq_true, decide_true, decide_false, Bool.not_true, Bool.not_false, Bool.false_eq_true, reduceCtorEq, List.length_map, beq_self_eq_true, Bool.and_true, Bool.true_and, Bool.false_and, Bool.and_false] at * <;> omega)))).1 (form_bd (hfm (by (simp only [decide_eq_true_eq, decide_eq_false_iff_not, Bool.not_eq_true', Bool.not_eq_false', Bool.and_eq_true, Bool.or_eq_true, Bool.and_eq_false_iff, Bool.or_eq_false_iff, Int.not_le, Int.not_lt, Decidable.not_not, ne_eq, not_true_eq_false, not_false_eq_true, decide_true, decide_false, Bool.not_true, Bool.not_false, Bool.false_eq_true, reduceCtorEq, List.length_map, beq_self_eq_true, Bool.and_true, Bool.true_and, Bool.false_and, Bool.and_false] at * <;> omega)))).2 (by (simp only [decide_eq_true_eq, decide_eq_false_iff_not, Bool.not_eq_true', Bool.not_eq_false', Bool.and_eq_true, Bool.or_eq_true, Bool.and_eq_false_iff, Bool.or_eq_false_iff, Int.not_le, Int.not_lt, Decidable.not_not, ne_eq, not_true_eq_false, not_false_eq_true, decide_true, decide_false, Bool.not_true, Bool.not_false, Bool.false_eq_true, reduceCtorEq, List.length_map, beq_self_eq_true, Bool.and_true, Bool.true_and, Bool.false_and, Bool.and_false] at * <;> omega))) ?_))
        | (dsimp only [run, undef, runR_ok, runR_t, runR_f, gd, gd2, skipR, ex1, pickR, boxR, loadR, loadO, storeR, storeO, nilR, fieldAR, fieldR, partOf, binR, intBin, unR, boolR, kindEq, shiftOp, onlyIf, orB, convR, extR, lenR, indexSlR, indexArrR, putE, updL, keysOf, lget, lset, evT, evs, Env.get, Env.set, N8.get, N8.set, env0, cellsD, oneD, oneV, andB, allOne, lenB, mapV, dget, ddrop, dtake, splice, xget, xset, partsD, partsOk, partsE, partsEOk, repl, elemsR, elemsO, xdrop, xtake, allOnes, appN, appOwn, appNew, appY, cellEq_i, cellEq_b, cellEq_s, consO, cmpAll, allB, negB, eqsO, eqsR, eqbR, minR, evO, bndO, keepB, snapCut, slCut, nilCut, sliceR, isS, isnilL, isnilX, isnilR, strBin, sbinR, slenR, appD, callvR, cond, condK_t, condK_f, argsE, slots0, List.length_cons, List.length_nil, Bool.true_or, Bool.false_or, Bool.or_true, Bool.or_false, Bool.not_true, Bool.not_false, Nat.add_zero, Nat.zero_add, Nat.reduceAdd, Nat.reduceMul, Int.reduceToNat, endS])
        | (with_reducible refine runR_b (fun h => ?_) (fun h => ?_) <;> first | (exfalso; (simp only [decide_eq_true_eq, decide_eq_false_iff_not, Bool.not_eq_true', Bool.not_eq_false', Bool.and_eq_true, Bool.or_eq_true, Bool.and_eq_false_iff, Bool.or_eq_false_iff, Int.not_le, Int.not_lt, Decidable.not_not, ne_eq, not_true_eq_false, not_false_eq_true, decide_true, decide_false, Bool.not_true, Bool.not_false, Bool.false_eq_true, reduceCtorEq, List.length_map, beq_self_eq_true, Bool.and_true, Bool.true_and, Bool.false_and, Bool.and_false] at * <;> omega); done) | simp only [h, runR_t, runR_f])
        | (with_reducible refine condK_bl ?_ ?_)
        | (with_reducible refine condK_b (fun h => ?_) (fun h => ?_) <;> first | (exfalso; (simp only [decide_eq_true_eq, decide_eq_false_iff_not, Bool.not_eq_true', Bool.not_eq_false', Bool.and_eq_true, Bool.or_eq_true, Bool.and_eq_false_iff, Bool.or_eq_false_iff, Int.not_le, Int.not_lt, Decidable.not_not, ne_eq, not_true_eq_false, not_false_eq_true, decide_true, decide_false, Bool.not_true, Bool.not_false, Bool.false_eq_true, reduceCtorEq, List.length_map, beq_self_eq_true, Bool.and_true, Bool.true_and, Bool.false_and, Bool.and_false] at * <;> omega); done) | skip)
        | (simp only [Int.toNat_natCast, ex]))
      (all_goals first | (exfalso; (try simp only [List.length_map] at *); first | omega | (simp only [decide_eq_true_eq, decide_eq_false_iff_not, Bool.not_eq_true', Bool.not_eq_false', Bool.and_eq_true, Bool.or_eq_true, Bool.and_eq_false_iff, Bool.or_eq_false_iff, Int.not_le, Int.not_lt, Decidable.not_not, ne_eq, not_true_eq_false, not_false_eq_true, decide_true, decide_false, Bool.not_true, Bool.not_false, Bool.false_eq_true, reduceCtorEq, List.length_map, beq_self_eq_true, Bool.and_true, Bool.true_and, Bool.false_and, Bool.and_false] at * <;> omega)) | skip)
      all_goals (refine nx_loop ⟨(k + 1, g + 1), Nat.succ_le_of_lt hlt, Nat.sub_lt_sub_left hlt (Nat.lt_succ_self k), ?_⟩)
      all_goals
      refine le_mk ?_ ?_ (Nat.le_refl _)
      all_goals dsimp only [leE, leC, leR, leN, leD, leH, leO, writesX, dstsX, appS, havE, setsE, Env.get, Env.set, N8.get, N8.set, updL, lget, lset, env0]
      all_goals (repeat' (first | exact trivial | exact rfl | apply And.intro))
      all_goals first
        | exact dint ((IntWalk.i64_in _ (by unfold maxLen at hl; omega)).trans (by omega))
        | (rw [hn]; simp_all)
    · skip
      repeat' (first
        | (with_reducible refine go_seq ?_)
        | (with_reducible refine go_region ?_)
        | (with_reducible refine go_regionD mixed_ok ?_)
        | (with_reducible refine go_cond ?_)
        | (with_reducible refine go_skip ?_)
        | (with_reducible refine go_block ?_)
        | (with_reducible refine nx_code ?_)
        | (with_reducible refine nx_block ?_)
        | (with_reducible refine go_ret ?_)
        | (with_reducible refine nx_nil ?_)
        | (with_reducible refine go_exit ?_)
        | (with_reducible refine ex_code ?_)
        | (with_reducible refine ex_loop ?_)
        | (with_reducible refine ex_here ?_)
        | ((with_reducible refine ex_past ?_ ?_); (exact by decide))
        | ((with_reducible refine endD_intro ?_ ?_); (exact by kernel_rfl))
        | ((with_reducible refine runR_n ?_ ?_); (solve | ((repeat' (first | exact trivial | exact rfl | apply And.intro)) <;> (first | exact rfl | decide | omega | (simp only [List.length_map, List.length_append, List.length_cons, List.length_nil, List.length_replicate]; done) | (simp only [room, maxLen, allOnes, oneV, List.length_map, List.length_append, List.length_cons, List.length_nil, List.length_replicate] at *; omega) | (simp only [decide_eq_true_eq, decide_eq_false_iff_not, Bool.not_eq_true', Bool.not_eq_false', Bool.and_eq_true, Bool.or_eq_true, Bool.and_eq_false_iff, Bool.or_eq_false_iff, Int.not_le, Int.not_lt, Decidable.not_not, ne_eq, not_true_eq_false, not_false_eq_true, decide_true, decide_false, Bool.not_true, Bool.not_false, Bool.false_eq_true, reduceCtorEq, List.length_map, beq_self_eq_true, Bool.and_true, Bool.true_and, Bool.false_and, Bool.and_false] at * <;> omega)))))
        | fail
        | (dsimp only [run, undef, runR_ok, runR_t, runR_f, gd, gd2, skipR, ex1, pickR, boxR, loadR, loadO, storeR, storeO, nilR, fieldAR, fieldR, partOf, binR, intBin, unR, boolR, kindEq, shiftOp, onlyIf, orB, convR, extR, lenR, indexSlR, indexArrR, putE, updL, keysOf, lget, lset, evT, evs, Env.get, Env.set, N8.get, N8.set, env0, cellsD, oneD, oneV, andB, allOne, lenB, mapV, dget, ddrop, dtake, splice, xget, xset, partsD, partsOk, partsE, partsEOk, repl, elemsR, elemsO, xdrop, xtake, allOnes, appN, appOwn, appNew, appY, cellEq_i, cellEq_b, cellEq_s, consO, cmpAll, allB, negB, eqsO, eqsR, eqbR, minR, evO, bndO, keepB, snapCut, slCut, nilCut, sliceR, isS, isnilL, isnilX, isnilR, strBin, sbinR, slenR, appD, callvR, cond, condK_t, condK_f, argsE, slots0, List.length_cons, List.length_nil, Bool.true_or, Bool.false_or, Bool.or_true, Bool.or_false, Bool.not_true, Bool.not_false, Nat.add_zero, Nat.zero_add, Nat.reduceAdd, Nat.reduceMul, Int.reduceToNat, endS])
        | (with_reducible refine runR_b (fun h => ?_) (fun h => ?_) <;> first | (exfalso; (simp only [decide_eq_true_eq, decide_eq_false_iff_not, Bool.not_eq_true', Bool.not_eq_false', Bool.and_eq_true, Bool.or_eq_true, Bool.and_eq_false_iff, Bool.or_eq_false_iff, Int.not_le, Int.not_lt, Decidable.not_not, ne_eq, not_true_eq_false, not_false_eq_true, decide_true, decide_false, Bool.not_true, Bool.not_false, Bool.false_eq_true, reduceCtorEq, List.length_map, beq_self_eq_true, Bool.and_true, Bool.true_and, Bool.false_and, Bool.and_false] at * <;> omega); done) | simp only [h, runR_t, runR_f])
        | (with_reducible refine condK_bl ?_ ?_)
        | (with_reducible refine condK_b (fun h => ?_) (fun h => ?_) <;> first | (exfalso; (simp only [decide_eq_true_eq, decide_eq_false_iff_not, Bool.not_eq_true', Bool.not_eq_false', Bool.and_eq_true, Bool.or_eq_true, Bool.and_eq_false_iff, Bool.or_eq_false_iff, Int.not_le, Int.not_lt, Decidable.not_not, ne_eq, not_true_eq_false, not_false_eq_true, decide_true, decide_false, Bool.not_true, Bool.not_false, Bool.false_eq_true, reduceCtorEq, List.length_map, beq_self_eq_true, Bool.and_true, Bool.true_and, Bool.false_and, Bool.and_false] at * <;> omega); done) | skip)
        | fail)
      (all_goals first | (exfalso; (try simp only [List.length_map] at *); first | omega | (simp only [decide_eq_true_eq, decide_eq_false_iff_not, Bool.not_eq_true', Bool.not_eq_false', Bool.and_eq_true, Bool.or_eq_true, Bool.and_eq_false_iff, Bool.or_eq_false_iff, Int.not_le, Int.not_lt, Decidable.not_not, ne_eq, not_true_eq_false, not_false_eq_true, decide_true, decide_false, Bool.not_true, Bool.not_false, Bool.false_eq_true, reduceCtorEq, List.length_map, beq_self_eq_true, Bool.and_true, Bool.true_and, Bool.false_and, Bool.and_false] at * <;> omega)) | skip)
      all_goals (obtain rfl : k = l.length := by omega)
      all_goals (simp only [hlast] at *)
      all_goals with_reducible refine ret_spec (by (try dsimp only [RetOK, resOk, resDs, resD, resV, cellV, cellO, cellP, cellOk, htake, nfD, nfL, nfLL, nfH, lget, partOf, xget, ddrop, dtake, dget, Env.get, N8.get, env0, List.length_cons, List.length_nil, Env.set, N8.set, lset, updL]); (repeat' (first | exact trivial | exact rfl | decide | apply And.intro))) (by (try dsimp only [RetOK, resOk, resDs, resD, resV, cellV, cellO, cellP, cellOk, htake, nfD, nfL, nfLL, nfH, lget, partOf, xget, ddrop, dtake, dget, Env.get, N8.get, env0, List.length_cons, List.length_nil, Env.set, N8.set, lset, updL]); (repeat' (first | exact trivial | exact nfLL_map (fun x => by simp [nfL, nfD, nfD]) | apply And.intro))) ?_
      all_goals (try dsimp only [RetOK, resOk, resDs, resD, resV, cellV, cellO, cellP, cellOk, htake, nfD, nfL, nfLL, nfH, lget, partOf, xget, ddrop, dtake, dget, Env.get, N8.get, env0, List.length_cons, List.length_nil, Env.set, N8.set, lset, updL])
      all_goals (try simp only [decide_eq_true_eq, decide_eq_false_iff_not, Bool.not_eq_true', Bool.not_eq_false', Bool.and_eq_true, Bool.or_eq_true, Bool.and_eq_false_iff, Bool.or_eq_false_iff] at *)
      all_goals (refine dbool ?_; simp_all)
/-- The last one along w that is not old, of a track that is right, is the first along w, if that is not old. -/
def lastT (l : List Tk) (e : Int) (a b c d now : Int) : Nat → Tk × Bool
  | 0 => (tk0, false)
  | k + 1 => match l[k]? with
    | some t => if e = 0 ∧ t.along a b c d = true ∧ t.old now = false then (t, true) else lastT l e a b c d now k
    | none => lastT l e a b c d now k
theorem lastT_next {l : List Tk} {e a b c d now : Int} (k : Nat) (t : Tk) (h : l[k]? = some t) : lastT l e a b c d now (k + 1) = if e = 0 ∧ t.along a b c d = true ∧ t.old now = false then (t, true) else lastT l e a b c d now k := by
  simp only [lastT, h]
theorem lastT_none {l : List Tk} {e a b c d now : Int} (h : ∀ t ∈ l, ¬ (e = 0 ∧ t.along a b c d = true ∧ t.old now = false)) : ∀ k, lastT l e a b c d now k = (tk0, false)
  | 0 => rfl
  | k + 1 => by
    cases hk : l[k]? with
    | none => simp only [lastT, hk]; exact lastT_none h k
    | some t => rw [lastT_next k t hk, if_neg (h t (List.mem_of_getElem? hk))]; exact lastT_none h k
theorem lastT_at {l : List Tk} {e a b c d now : Int} {i : Nat} {t : Tk} (hi : l[i]? = some t) (ht : e = 0 ∧ t.along a b c d = true ∧ t.old now = false) (ho : ∀ j y, l[j]? = some y → j ≠ i → y.along a b c d = false) : ∀ k, i < k → lastT l e a b c d now k = (t, true)
  | 0, h => by omega
  | k + 1, h => by
    cases hk : l[k]? with
    | none =>
      simp only [lastT, hk]
      have := (List.getElem?_eq_some_iff.1 hi).1
      have := List.getElem?_eq_none_iff.1 hk
      exact lastT_at hi ht ho k (by omega)
    | some y =>
      rw [lastT_next k y hk]
      by_cases hki : k = i
      · subst hki
        rw [hi] at hk
        obtain rfl := Option.some.inj hk
        rw [if_pos ht]
      · rw [if_neg (fun q => by rw [ho k y hk hki] at q; cases q.2.1)]
        exact lastT_at hi ht ho k (by omega)
theorem finds_spec (l : List Tk) (a b c d now : Int) (hl : l.length ≤ maxLen) : Spec Try.prog 4 [.snap 7 (l.map Tk.enc) false, dR a b c d, .v (.int .i64 now)] (.v (.bool true)) := by
  by_cases h0 : fnErr l now = 0
  · rcases firstI_cases (fun t : Tk => t.along a b c d) l 0 with ⟨h1, h2⟩ | ⟨i, t, h1, h2, h3⟩
    · refine finds_core l a b c d now hl tk0 false (lastT l (fnErr l now) a b c d now) rfl (lastT_none (fun t ht q => by rw [h2 t ht] at q; cases q.2.1) _) lastT_next ?_
      rw [h0]
      exact find_none l a b c d now h0 h2
    · rw [Nat.zero_add] at h3
      have hf := find_at l a b c d now h0 i t h1 h3
      have hg : goodT [] l = true := (trErr_good (by have := fnErr_cases l now; omega)).2
      have hu : ∀ j y, l[j]? = some y → j ≠ i → y.along a b c d = false := fun j y hj hne => by
        cases hy : y.along a b c d with
        | false => rfl
        | true => exact absurd (goodT_one hg hj h1 hy h2) hne
      cases ho : t.old now with
      | true =>
        rw [ho] at hf
        refine finds_core l a b c d now hl tk0 false (lastT l (fnErr l now) a b c d now) rfl (lastT_none (fun y hy q => ?_) _) lastT_next (by rw [h0]; exact hf)
        obtain ⟨j, hj⟩ := List.mem_iff_getElem?.1 hy
        by_cases hne : j = i
        · subst hne
          rw [h1] at hj
          obtain rfl := Option.some.inj hj
          rw [ho] at q
          cases q.2.2
        · rw [hu j y hj hne] at q
          cases q.2.1
      | false =>
        rw [ho] at hf
        exact finds_core l a b c d now hl t true (lastT l (fnErr l now) a b c d now) rfl (lastT_at h1 ⟨h0, h2, ho⟩ hu _ (List.getElem?_eq_some_iff.1 h1).1) lastT_next (by rw [h0]; exact hf)
  · refine finds_core l a b c d now hl tk0 false (lastT l (fnErr l now) a b c d now) rfl (lastT_none (fun t ht q => h0 q.1) _) lastT_next ?_
    exact find_bad l a b c d now h0
theorem sv_TrackFinds (l : List ((Int × Int × Int × Int × Unit) × (Int × Int × Int × Unit))) (a b c d now : Int) (u v : Unit) : valSs shsTrackFinds (l, (a, b, c, d, u), now, v) = [.snap 7 ((l.map fun t => (⟨t.1.1, t.1.2.1, t.1.2.2.1, t.1.2.2.2.1, t.2.1, t.2.2.1, t.2.2.2.1⟩ : Tk)).map Tk.enc) false, dR a b c d, .v (.int .i64 now)] := by
  rw [List.map_map]
  rfl
theorem coreTrackFinds (W : World) (args : Array Value) (h : opnAll W W.heap.size shsTrackFinds args.toList) :
    Calls Try.prog 4 args W fun e W' => e = .returned (.bool true) ∧ Below W.heap.size W W' := by
  refine law_core rfl h (fun x hx => ?_)
  obtain ⟨l, ⟨a, b, c, d, u⟩, now, v⟩ := x
  exact Eq.mpr (congrArg (fun l => Spec Try.prog 4 l (.v (.bool true))) (sv_TrackFinds l a b c d now u v)) (finds_spec _ a b c d now (Nat.le_trans (Nat.le_of_eq (List.length_map _)) hx.1.2.1))
/-! THE ROW: the frame round 'core' -/
theorem ownTrackFinds : ownKnob Try.prog.godebug = none := by kernel_rfl
theorem fitTrackFinds : (List.range shsTrackFinds.length).all (fun i => match shsTrackFinds[i]?, Try.f4.params.toList[i]? with | some s, some t => s.fit Try.prog none t | _, _ => false) = true := by kernel_rfl
theorem laidTrackFinds : laidOutB Try.prog = true := by kernel_rfl
theorem readTrackFinds : Try.f4.params.toList.all (fun t => Try.prog.readableRec t && decide (t < Try.prog.types.size)) = true := by kernel_rfl
set_option maxRecDepth 100000 in
theorem liftedTrackFinds (os : Os) (started : os.Started) (H : Type) (enc : TypeId × Value → H) :
    ReturnsInHanded {} Try.checked os 4 .any (Rows.trackFindsSpec.pre6 enc Try.prog Try.f4 Rows.trackFindsRow.domain false) (Rows.trackFindsSpec.post enc Try.prog Try.f4 false true false false) :=
  law_lifted (C := Try.checked) (enc := enc) ownTrackFinds started (by kernel_rfl) Try.func4
    (ChangeSpec.witness6 (enc := enc) (C := Try.checked) false ⟨#[], #[.slice none 0 0, .agg #[.int .u32 0, .int .u32 0, .int .i64 0, .int .i64 0], .int .i64 0], []⟩ 8 (by kernel_rfl) (by kernel_rfl) (by kernel_rfl) (by kernel_rfl))
    shsTrackFinds (by kernel_rfl) fitTrackFinds rfl (fun ds h => by
      match ds, h with
      | [d0, d1, d2], _ => exact ⟨rfl, rfl, rfl⟩) 4 (by kernel_rfl) Try.underlying4 laidTrackFinds readTrackFinds coreTrackFinds
theorem overTrackFinds : Rows.trackFindsRow.holds Try.pinned (OpenSpec.ofChange Rows.trackFindsSpec) :=
  OpenClaim.holds_of_wide 4 Try.f4 rfl rfl rfl rfl rfl rfl rfl ⟨rfl, rfl, rfl, rfl, rfl⟩ rfl rfl rfl rfl rfl (by kernel_rfl) Try.func4 (by kernel_rfl)
    (of_decide_eq_true (by kernel_rfl)) (by unfold Func.isWrapper; rw [if_neg (of_decide_eq_false (by kernel_rfl))]; exact ⟨rfl, rfl⟩)
    (fun os started H enc _ => liftedTrackFinds os started H enc)
/-- THE STATEMENT -/
theorem provedTrackFinds : Rows.TrackFindsSaid := overTrackFinds
#print axioms provedTrackFinds
end Go.Proofs.Ytkpechddgjbfkaa
