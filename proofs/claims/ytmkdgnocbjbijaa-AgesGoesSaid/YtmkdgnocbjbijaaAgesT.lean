/-
  Rooms by their age: New, Take; two orders compared.
-/
import Derived.Test.YtmkdgnocbjbijaaAgesZ
namespace Go.Proofs.Ytmkdgnocbjbijaa
set_option linter.unusedVariables false
set_option linter.unusedSimpArgs false
theorem agnew_spec (n : Int) : Spec Try.prog 20 [.v (.int .i64 n)] (.tup [dA (if 1 ≤ n ∧ n ≤ 64 then n else 0) [], .v (.int .i64 (if 1 ≤ n ∧ n ≤ 64 then 0 else 1))]) := by
  refine spec_nil (D := .tup [.agg [.v (.int .i64 (if 1 ≤ n ∧ n ≤ 64 then n else 0)), .v (.slice none 0 0)], .v (.int .i64 (if 1 ≤ n ∧ n ≤ 64 then 0 else 1))]) ?_ ⟨⟨.inl rfl, .inr ⟨rfl, 2, rfl⟩, rfl⟩, .inl rfl, rfl⟩
  by_cases hn : 1 ≤ n ∧ n ≤ 64
  · rw [if_pos hn, if_pos hn]
    refine hspec_fn Try.func20 rfl ok_ages_New okr_ages_New rfl (by kernel_rfl) ?_
    intro Γ hW0 hN0 hL0
    have hW := hW0 rfl
    clear hW0 hN0 hL0
    unfold x_ages_New r_ages_New
    repeat' (first
      | (with_reducible refine go_seq ?_)
      | (with_reducible refine go_region ?_)
      | (with_reducible refine go_regionD mixed_ok ?_)
      | (with_reducible refine go_cond ?_)
      | (with_reducible refine go_skip ?_)
      | (with_reducible refine go_block ?_)
      | (with_reducible refine nx_code ?_)
      | (with_reducible refine nx_block ?_)
      | (with_reducible refine go_ret ?_)
      | (with_reducible refine nx_nil ?_)
      | (with_reducible refine go_exit ?_)
      | (with_reducible refine ex_code ?_)
      | (with_reducible refine ex_loop ?_)
      | (with_reducible refine ex_here ?_)
      | ((with_reducible refine ex_past ?_ ?_); (exact by decide))
      | ((with_reducible refine endD_intro ?_ ?_); (exact by kernel_rfl))
      | ((with_reducible refine runR_n ?_ ?_); (solve | ((repeat' (first | exact trivial | exact rfl | apply And.intro)) <;> (first | exact rfl | (intro hq; cases hq; done) | decide | omega | (simp only [List.length_map, List.length_append, List.length_cons, List.length_nil, List.length_replicate]; done) | (simp only [room, maxLen, allOnes, oneV, List.length_map, List.length_append, List.length_cons, List.length_nil, List.length_replicate] at *; omega) | (simp only [decide_eq_true_eq, decide_eq_false_iff_not, Bool.not_eq_true', Bool.not_eq_false', Bool.and_eq_true, Bool.or_eq_true, Bool.and_eq_false_iff, Bool.or_eq_false_iff, Int.not_le, Int.not_lt, Decidable.not_not, ne_eq, not_true_eq_false, not_false_eq_true, decide_true, decide_false, Bool.not_true, Bool.not_false, Bool.false_eq_true, reduceCtorEq, List.length_map, beq_self_eq_true, Bool.and_true, Bool.true_and, Bool.false_and, Bool.and_false] at * <;> omega)))))
      | fail
      | (dsimp only [run, undef, runR_ok, runR_t, runR_f, gd, gd2, skipR, ex1, pickR, boxR, loadR, loadO, storeR, storeO, nilR, fieldAR, fieldR, partOf, binR, intBin, unR, boolR, kindEq, shiftOp, onlyIf, orB, convR, extR, lenR, indexSlR, indexArrR, putE, updL, keysOf, lget, lset, evT, evs, Env.get, Env.set, N8.get, N8.set, env0, cellsD, oneD, oneV, andB, allOne, lenB, mapV, dget, ddrop, dtake, splice, xget, xset, partsD, partsOk, partsE, partsEOk, repl, elemsR, elemsO, xdrop, xtake, allOnes, appN, appOwn, appNew, appY, cellEq_i, cellEq_b, cellEq_s, consO, cmpAll, allB, negB, eqsO, eqsR, eqbR, minR, evO, bndO, keepB, snapCut, slCut, nilCut, sliceR, isS, isnilL, isnilX, isnilR, strBin, sbinR, slenR, strAtR, substrB, substrR, makeR, clearO, clearR, sliceW1, sliceW2, sliceW3, sliceWR, appWO, appWR, okByte, okBytes, b2sR, appD, callvR, cond, condK_t, condK_f, argsE, slots0, List.length_cons, List.length_nil, Bool.true_or, Bool.false_or, Bool.or_true, Bool.or_false, bnf, bnt, Nat.add_zero, Nat.zero_add, Nat.reduceAdd, Nat.reduceMul, Int.reduceToNat, endS])
      | (with_reducible refine runR_b (fun h => ?_) (fun h => ?_) <;> first | (exfalso; (simp only [decide_eq_true_eq, decide_eq_false_iff_not, Bool.not_eq_true', Bool.not_eq_false', Bool.and_eq_true, Bool.or_eq_true, Bool.and_eq_false_iff, Bool.or_eq_false_iff, Int.not_le, Int.not_lt, Decidable.not_not, ne_eq, not_true_eq_false, not_false_eq_true, decide_true, decide_false, Bool.not_true, Bool.not_false, Bool.false_eq_true, reduceCtorEq, List.length_map, beq_self_eq_true, Bool.and_true, Bool.true_and, Bool.false_and, Bool.and_false] at * <;> omega); done) | simp only [h, runR_t, runR_f])
      | (with_reducible refine condK_bl ?_ ?_)
      | (with_reducible refine condK_b (fun h => ?_) (fun h => ?_) <;> first | (exfalso; (simp only [decide_eq_true_eq, decide_eq_false_iff_not, Bool.not_eq_true', Bool.not_eq_false', Bool.and_eq_true, Bool.or_eq_true, Bool.and_eq_false_iff, Bool.or_eq_false_iff, Int.not_le, Int.not_lt, Decidable.not_not, ne_eq, not_true_eq_false, not_false_eq_true, decide_true, decide_false, Bool.not_true, Bool.not_false, Bool.false_eq_true, reduceCtorEq, List.length_map, beq_self_eq_true, Bool.and_true, Bool.true_and, Bool.false_and, Bool.and_false] at * <;> omega); done) | skip)
      | fail)
    (all_goals first | (exfalso; (try simp only [List.length_map] at *); first | omega | (simp only [decide_eq_true_eq, decide_eq_false_iff_not, Bool.not_eq_true', Bool.not_eq_false', Bool.and_eq_true, Bool.or_eq_true, Bool.and_eq_false_iff, Bool.or_eq_false_iff, Int.not_le, Int.not_lt, Decidable.not_not, ne_eq, not_true_eq_false, not_false_eq_true, decide_true, decide_false, Bool.not_true, Bool.not_false, Bool.false_eq_true, reduceCtorEq, List.length_map, beq_self_eq_true, Bool.and_true, Bool.true_and, Bool.false_and, Bool.and_false] at * <;> omega)) | skip)
    all_goals with_reducible refine ret_spec (by (try dsimp only [RetOK, resOk, resDs, resD, resV, cellV, cellO, cellP, cellOk, htake, nfD, nfL, nfLL, nfH, lget, partOf, xget, ddrop, dtake, dget, Env.get, N8.get, env0, List.length_cons, List.length_nil, Env.set, N8.set, lset, updL]); (repeat' (first | exact trivial | exact rfl | decide | apply And.intro))) (by (try dsimp only [RetOK, resOk, resDs, resD, resV, cellV, cellO, cellP, cellOk, htake, nfD, nfL, nfLL, nfH, lget, partOf, xget, ddrop, dtake, dget, Env.get, N8.get, env0, List.length_cons, List.length_nil, Env.set, N8.set, lset, updL]); (repeat' (first | exact trivial | exact nfLL_map (fun x => by simp [nfL, nfD, nfD]) | apply And.intro))) ?_
    all_goals (try dsimp only [RetOK, resOk, resDs, resD, resV, cellV, cellO, cellP, cellOk, htake, nfD, nfL, nfLL, nfH, lget, partOf, xget, ddrop, dtake, dget, Env.get, N8.get, env0, List.length_cons, List.length_nil, Env.set, N8.set, lset, updL])
    all_goals (try simp only [decide_eq_true_eq, decide_eq_false_iff_not, Bool.not_eq_true', Bool.not_eq_false', Bool.and_eq_true, Bool.or_eq_true, Bool.and_eq_false_iff, Bool.or_eq_false_iff] at *)
  · rw [if_neg hn, if_neg hn]
    refine hspec_fn Try.func20 rfl ok_ages_New okr_ages_New rfl (by kernel_rfl) ?_
    intro Γ hW0 hN0 hL0
    have hW := hW0 rfl
    clear hW0 hN0 hL0
    unfold x_ages_New r_ages_New
    repeat' (first
      | (with_reducible refine go_seq ?_)
      | (with_reducible refine go_region ?_)
      | (with_reducible refine go_regionD mixed_ok ?_)
      | (with_reducible refine go_cond ?_)
      | (with_reducible refine go_skip ?_)
      | (with_reducible refine go_block ?_)
      | (with_reducible refine nx_code ?_)
      | (with_reducible refine nx_block ?_)
      | (with_reducible refine go_ret ?_)
      | (with_reducible refine nx_nil ?_)
      | (with_reducible refine go_exit ?_)
      | (with_reducible refine ex_code ?_)
      | (with_reducible refine ex_loop ?_)
      | (with_reducible refine ex_here ?_)
      | ((with_reducible refine ex_past ?_ ?_); (exact by decide))
      | ((with_reducible refine endD_intro ?_ ?_); (exact by kernel_rfl))
      | ((with_reducible refine runR_n ?_ ?_); (solve | ((repeat' (first | exact trivial | exact rfl | apply And.intro)) <;> (first | exact rfl | (intro hq; cases hq; done) | decide | omega | (simp only [List.length_map, List.length_append, List.length_cons, List.length_nil, List.length_replicate]; done) | (simp only [room, maxLen, allOnes, oneV, List.length_map, List.length_append, List.length_cons, List.length_nil, List.length_replicate] at *; omega) | (simp only [decide_eq_true_eq, decide_eq_false_iff_not, Bool.not_eq_true', Bool.not_eq_false', Bool.and_eq_true, Bool.or_eq_true, Bool.and_eq_false_iff, Bool.or_eq_false_iff, Int.not_le, Int.not_lt, Decidable.not_not, ne_eq, not_true_eq_false, not_false_eq_true, decide_true, decide_false, Bool.not_true, Bool.not_false, Bool.false_eq_true, reduceCtorEq, List.length_map, beq_self_eq_true, Bool.and_true, Bool.true_and, Bool.false_and, Bool.and_false] at * <;> omega)))))
      | fail
      | (dsimp only [run, undef, runR_ok, runR_t, runR_f, gd, gd2, skipR, ex1, pickR, boxR, loadR, loadO, storeR, storeO, nilR, fieldAR, fieldR, partOf, binR, intBin, unR, boolR, kindEq, shiftOp, onlyIf, orB, convR, extR, lenR, indexSlR, indexArrR, putE, updL, keysOf, lget, lset, evT, evs, Env.get, Env.set, N8.get, N8.set, env0, cellsD, oneD, oneV, andB, allOne, lenB, mapV, dget, ddrop, dtake, splice, xget, xset, partsD, partsOk, partsE, partsEOk, repl, elemsR, elemsO, xdrop, xtake, allOnes, appN, appOwn, appNew, appY, cellEq_i, cellEq_b, cellEq_s, consO, cmpAll, allB, negB, eqsO, eqsR, eqbR, minR, evO, bndO, keepB, snapCut, slCut, nilCut, sliceR, isS, isnilL, isnilX, isnilR, strBin, sbinR, slenR, strAtR, substrB, substrR, makeR, clearO, clearR, sliceW1, sliceW2, sliceW3, sliceWR, appWO, appWR, okByte, okBytes, b2sR, appD, callvR, cond, condK_t, condK_f, argsE, slots0, List.length_cons, List.length_nil, Bool.true_or, Bool.false_or, Bool.or_true, Bool.or_false, bnf, bnt, Nat.add_zero, Nat.zero_add, Nat.reduceAdd, Nat.reduceMul, Int.reduceToNat, endS])
      | (with_reducible refine runR_b (fun h => ?_) (fun h => ?_) <;> first | (exfalso; (simp only [decide_eq_true_eq, decide_eq_false_iff_not, Bool.not_eq_true', Bool.not_eq_false', Bool.and_eq_true, Bool.or_eq_true, Bool.and_eq_false_iff, Bool.or_eq_false_iff, Int.not_le, Int.not_lt, Decidable.not_not, ne_eq, not_true_eq_false, not_false_eq_true, decide_true, decide_false, Bool.not_true, Bool.not_false, Bool.false_eq_true, reduceCtorEq, List.length_map, beq_self_eq_true, Bool.and_true, Bool.true_and, Bool.false_and, Bool.and_false] at * <;> omega); done) | simp only [h, runR_t, runR_f])
      | (with_reducible refine condK_bl ?_ ?_)
      | (with_reducible refine condK_b (fun h => ?_) (fun h => ?_) <;> first | (exfalso; (simp only [decide_eq_true_eq, decide_eq_false_iff_not, Bool.not_eq_true', Bool.not_eq_false', Bool.and_eq_true, Bool.or_eq_true, Bool.and_eq_false_iff, Bool.or_eq_false_iff, Int.not_le, Int.not_lt, Decidable.not_not, ne_eq, not_true_eq_false, not_false_eq_true, decide_true, decide_false, Bool.not_true, Bool.not_false, Bool.false_eq_true, reduceCtorEq, List.length_map, beq_self_eq_true, Bool.and_true, Bool.true_and, Bool.false_and, Bool.and_false] at * <;> omega); done) | skip)
      | fail)
    (all_goals first | (exfalso; (try simp only [List.length_map] at *); first | omega | (simp only [decide_eq_true_eq, decide_eq_false_iff_not, Bool.not_eq_true', Bool.not_eq_false', Bool.and_eq_true, Bool.or_eq_true, Bool.and_eq_false_iff, Bool.or_eq_false_iff, Int.not_le, Int.not_lt, Decidable.not_not, ne_eq, not_true_eq_false, not_false_eq_true, decide_true, decide_false, Bool.not_true, Bool.not_false, Bool.false_eq_true, reduceCtorEq, List.length_map, beq_self_eq_true, Bool.and_true, Bool.true_and, Bool.false_and, Bool.and_false] at * <;> omega)) | skip)
    all_goals with_reducible refine ret_spec (by (try dsimp only [RetOK, resOk, resDs, resD, resV, cellV, cellO, cellP, cellOk, htake, nfD, nfL, nfLL, nfH, lget, partOf, xget, ddrop, dtake, dget, Env.get, N8.get, env0, List.length_cons, List.length_nil, Env.set, N8.set, lset, updL]); (repeat' (first | exact trivial | exact rfl | decide | apply And.intro))) (by (try dsimp only [RetOK, resOk, resDs, resD, resV, cellV, cellO, cellP, cellOk, htake, nfD, nfL, nfLL, nfH, lget, partOf, xget, ddrop, dtake, dget, Env.get, N8.get, env0, List.length_cons, List.length_nil, Env.set, N8.set, lset, updL]); (repeat' (first | exact trivial | exact nfLL_map (fun x => by simp [nfL, nfD, nfD]) | apply And.intro))) ?_
    all_goals (try dsimp only [RetOK, resOk, resDs, resD, resV, cellV, cellO, cellP, cellOk, htake, nfD, nfL, nfLL, nfH, lget, partOf, xget, ddrop, dtake, dget, Env.get, N8.get, env0, List.length_cons, List.length_nil, Env.set, N8.set, lset, updL])
    all_goals (try simp only [decide_eq_true_eq, decide_eq_false_iff_not, Bool.not_eq_true', Bool.not_eq_false', Bool.and_eq_true, Bool.or_eq_true, Bool.and_eq_false_iff, Bool.or_eq_false_iff] at *)
theorem same_spec (n m : Int) (l : List Sy) (hl : l.length ≤ maxLen) : Spec Try.prog 21 [dA n l, dA m l] (.v (.bool (decide (n = m)))) := by
  have he := syeq_same l false false hl
  refine hspec_fn Try.func21 rfl ok_custref_SameAges okr_custref_SameAges rfl (by kernel_rfl) ?_
  intro Γ hW0 hN0 hL0
  have hW := hW0 rfl
  clear hW0 hN0 hL0
  unfold x_custref_SameAges r_custref_SameAges
  repeat' (first
    | (with_reducible refine go_seq ?_)
    | (with_reducible refine go_region ?_)
    | (with_reducible refine go_regionD mixed_ok ?_)
    | (with_reducible refine go_cond ?_)
    | (with_reducible refine go_skip ?_)
    | (with_reducible refine go_block ?_)
    | (with_reducible refine nx_code ?_)
    | (with_reducible refine nx_block ?_)
    | (with_reducible refine go_ret ?_)
    | (with_reducible refine nx_nil ?_)
    | (with_reducible refine go_exit ?_)
    | (with_reducible refine ex_code ?_)
    | (with_reducible refine ex_loop ?_)
    | (with_reducible refine ex_here ?_)
    | ((with_reducible refine ex_past ?_ ?_); (exact by decide))
    | ((with_reducible refine endD_intro ?_ ?_); (exact by kernel_rfl))
    | ((with_reducible refine runR_n ?_ ?_); (solve | ((repeat' (first | exact trivial | exact rfl | apply And.intro)) <;> (first | exact rfl | (intro hq; cases hq; done) | decide | omega | (simp only [List.length_map, List.length_append, List.length_cons, List.length_nil, List.length_replicate]; done) | (simp only [room, maxLen, allOnes, oneV, List.length_map, List.length_append, List.length_cons, List.length_nil, List.length_replicate] at *; omega) | (simp only [decide_eq_true_eq, decide_eq_false_iff_not, Bool.not_eq_true', Bool.not_eq_false', Bool.and_eq_true, Bool.or_eq_true, Bool.and_eq_false_iff, Bool.or_eq_false_iff, Int.not_le, Int.not_lt, Decidable.not_not, ne_eq, not_true_eq_false, not_false_eq_true, decide_true, decide_false, Bool.not_true, Bool.not_false, Bool.false_eq_true, reduceCtorEq, List.length_map, beq_self_eq_true, Bool.and_true, Bool.true_and, Bool.false_and, Bool.and_false] at * <;> omega)))))
    | (with_reducible refine runR_call he ?_)
    | (dsimp only [run, undef, runR_ok, runR_t, runR_f, gd, gd2, skipR, ex1, pickR, boxR, loadR, loadO, storeR, storeO, nilR, fieldAR, fieldR, partOf, binR, intBin, unR, boolR, kindEq, shiftOp, onlyIf, orB, convR, extR, lenR, indexSlR, indexArrR, putE, updL, keysOf, lget, lset, evT, evs, Env.get, Env.set, N8.get, N8.set, env0, cellsD, oneD, oneV, andB, allOne, lenB, mapV, dget, ddrop, dtake, splice, xget, xset, partsD, partsOk, partsE, partsEOk, repl, elemsR, elemsO, xdrop, xtake, allOnes, appN, appOwn, appNew, appY, cellEq_i, cellEq_b, cellEq_s, consO, cmpAll, allB, negB, eqsO, eqsR, eqbR, minR, evO, bndO, keepB, snapCut, slCut, nilCut, sliceR, isS, isnilL, isnilX, isnilR, strBin, sbinR, slenR, strAtR, substrB, substrR, makeR, clearO, clearR, sliceW1, sliceW2, sliceW3, sliceWR, appWO, appWR, okByte, okBytes, b2sR, appD, callvR, cond, condK_t, condK_f, argsE, slots0, List.length_cons, List.length_nil, Bool.true_or, Bool.false_or, Bool.or_true, Bool.or_false, bnf, bnt, Nat.add_zero, Nat.zero_add, Nat.reduceAdd, Nat.reduceMul, Int.reduceToNat, endS])
    | (with_reducible refine runR_b (fun h => ?_) (fun h => ?_) <;> first | (exfalso; (simp only [decide_eq_true_eq, decide_eq_false_iff_not, Bool.not_eq_true', Bool.not_eq_false', Bool.and_eq_true, Bool.or_eq_true, Bool.and_eq_false_iff, Bool.or_eq_false_iff, Int.not_le, Int.not_lt, Decidable.not_not, ne_eq, not_true_eq_false, not_false_eq_true, decide_true, decide_false, Bool.not_true, Bool.not_false, Bool.false_eq_true, reduceCtorEq, List.length_map, beq_self_eq_true, Bool.and_true, Bool.true_and, Bool.false_and, Bool.and_false] at * <;> omega); done) | simp only [h, runR_t, runR_f])
    | (with_reducible refine condK_bl ?_ ?_)
    | (with_reducible refine condK_b (fun h => ?_) (fun h => ?_) <;> first | (exfalso; (simp only [decide_eq_true_eq, decide_eq_false_iff_not, Bool.not_eq_true', Bool.not_eq_false', Bool.and_eq_true, Bool.or_eq_true, Bool.and_eq_false_iff, Bool.or_eq_false_iff, Int.not_le, Int.not_lt, Decidable.not_not, ne_eq, not_true_eq_false, not_false_eq_true, decide_true, decide_false, Bool.not_true, Bool.not_false, Bool.false_eq_true, reduceCtorEq, List.length_map, beq_self_eq_true, Bool.and_true, Bool.true_and, Bool.false_and, Bool.and_false] at * <;> omega); done) | skip)
    | fail)
  (all_goals first | (exfalso; (try simp only [List.length_map] at *); first | omega | (simp only [decide_eq_true_eq, decide_eq_false_iff_not, Bool.not_eq_true', Bool.not_eq_false', Bool.and_eq_true, Bool.or_eq_true, Bool.and_eq_false_iff, Bool.or_eq_false_iff, Int.not_le, Int.not_lt, Decidable.not_not, ne_eq, not_true_eq_false, not_false_eq_true, decide_true, decide_false, Bool.not_true, Bool.not_false, Bool.false_eq_true, reduceCtorEq, List.length_map, beq_self_eq_true, Bool.and_true, Bool.true_and, Bool.false_and, Bool.and_false] at * <;> omega)) | skip)
  all_goals with_reducible refine ret_spec (by (try dsimp only [RetOK, resOk, resDs, resD, resV, cellV, cellO, cellP, cellOk, htake, nfD, nfL, nfLL, nfH, lget, partOf, xget, ddrop, dtake, dget, Env.get, N8.get, env0, List.length_cons, List.length_nil, Env.set, N8.set, lset, updL]); (repeat' (first | exact trivial | exact rfl | decide | apply And.intro))) (by (try dsimp only [RetOK, resOk, resDs, resD, resV, cellV, cellO, cellP, cellOk, htake, nfD, nfL, nfLL, nfH, lget, partOf, xget, ddrop, dtake, dget, Env.get, N8.get, env0, List.length_cons, List.length_nil, Env.set, N8.set, lset, updL]); (repeat' (first | exact trivial | exact nfLL_map (fun x => by simp [nfL, nfD, nfD]) | apply And.intro))) ?_
  all_goals (try dsimp only [RetOK, resOk, resDs, resD, resV, cellV, cellO, cellP, cellOk, htake, nfD, nfL, nfLL, nfH, lget, partOf, xget, ddrop, dtake, dget, Env.get, N8.get, env0, List.length_cons, List.length_nil, Env.set, N8.set, lset, updL])
  all_goals (try simp only [decide_eq_true_eq, decide_eq_false_iff_not, Bool.not_eq_true', Bool.not_eq_false', Bool.and_eq_true, Bool.or_eq_true, Bool.and_eq_false_iff, Bool.or_eq_false_iff] at *)
  all_goals (refine dbool ?_; simp_all)
/-- The first number that no room has. -/
def tk (l : List Sy) (k : Nat) : Bool := l.any (fun t => decide (t.r = (k : Int)))
theorem tk_bit {l : List Sy} (h : ∀ t ∈ l, 0 ≤ t.r) (k : Nat) : (bset l).testBit k = tk l k := by
  rw [bset_bit]
  unfold tk
  induction l with
  | nil => rfl
  | cons t r ih =>
    rw [List.any_cons, List.any_cons, ih (fun y hy => h y (List.mem_cons_of_mem _ hy))]
    have := h t List.mem_cons_self
    congr 1
    rw [Bool.eq_iff_iff]
    simp only [decide_eq_true_eq]
    omega
theorem least_ex (P : Nat → Bool) : ∀ n, P n = false → ∃ r, r ≤ n ∧ P r = false ∧ ∀ j, j < r → P j = true
  | 0, h => ⟨0, Nat.le_refl _, h, fun j hj => by omega⟩
  | n + 1, h => by
    cases hn : P n with
    | false =>
      obtain ⟨r, h1, h2, h3⟩ := least_ex P n hn
      exact ⟨r, by omega, h2, h3⟩
    | true =>
      by_cases hall : ∀ j, j < n + 1 → P j = true
      · exact ⟨n + 1, Nat.le_refl _, h, hall⟩
      · have : ∃ j, j < n + 1 ∧ P j = false := Classical.byContradiction fun hc => hall fun j hj => by
          cases hq : P j with
          | true => rfl
          | false => exact absurd ⟨j, hj, hq⟩ hc
        obtain ⟨j, hj, hq⟩ := this
        have hjn : j < n := by
          rcases Nat.lt_or_ge j n with h | h
          · exact h
          · have : j = n := by omega
            rw [this, hn] at hq
            cases hq
        obtain ⟨r, h1, h2, h3⟩ := least_ex P j hq
        exact ⟨r, by omega, h2, h3⟩
theorem good_all {n : Int} {l : List Sy} (hg : goodG (okS n) [] l = true) : ∀ t ∈ l, 0 ≤ t.r ∧ t.r < n := by
  intro t ht
  obtain ⟨j, hj⟩ := List.mem_iff_getElem?.1 ht
  exact okS_bd (goodG_at hg hj)
theorem ag_ok {n : Int} {l : List Sy} (h : agErr n l = 0) : (1 ≤ n ∧ n ≤ 64) ∧ goodG (okS n) [] l = true := by
  unfold agErr at h
  split at h
  · omega
  · split at h
    · rename_i h1 h2; exact ⟨by omega, h2⟩
    · omega
theorem least_room {n : Int} {l : List Sy} (hn : 1 ≤ n) (hg : goodG (okS n) [] l = true) : ∃ r : Nat, (r : Int) ≤ n ∧ tk l r = false ∧ ∀ j, j < r → tk l j = true := by
  have : tk l n.toNat = false := by
    unfold tk
    rw [List.any_eq_false]
    intro t ht
    have := good_all hg t ht
    simp
    omega
  obtain ⟨r, h1, h2, h3⟩ := least_ex (tk l) n.toNat this
  exact ⟨r, by omega, h2, h3⟩
theorem late_any {n : Int} {l : List Sy} (hg : goodG (okS n) [] l = true) (now : Int) : lateB l now = !l.any (fun t => decide (now < t.x)) := by
  by_cases h0 : l.length = 0
  · rw [List.eq_nil_of_length_eq_zero h0]; rfl
  · obtain ⟨z, hz⟩ : ∃ z, l[l.length - 1]? = some z := ⟨_, List.getElem?_eq_getElem (by omega)⟩
    rw [lateB_get now l (l.length - 1) z hz (by omega)]
    have hok := goodG_at hg hz
    unfold okS at hok
    simp only [Bool.and_eq_true, List.all_eq_true, Bool.not_eq_true', decide_eq_false_iff_not, List.nil_append] at hok
    have hmax : ∀ y ∈ l, y.x ≤ z.x := by
      intro y hy
      obtain ⟨j, hj⟩ := List.mem_iff_getElem?.1 hy
      have hjl := (List.getElem?_eq_some_iff.1 hj).1
      by_cases e : j = l.length - 1
      · rw [e, hz] at hj
        rw [Option.some.inj hj]
        exact Int.le_refl _
      · have := (hok.2 y (List.mem_iff_getElem?.2 ⟨j, by rw [List.getElem?_take, if_pos (by omega)]; exact hj⟩)).2
        omega
    rw [Bool.eq_iff_iff]
    simp only [decide_eq_true_eq, Bool.not_eq_true', List.any_eq_false, decide_eq_true_eq]
    constructor
    · intro h y hy
      have := hmax y hy
      omega
    · intro h
      have := h z (List.mem_of_getElem? hz)
      omega
theorem take_e1 (n : Int) (l : List Sy) (now : Int) (hl : l.length ≤ maxLen) (he : agErr n l ≠ 0) : Spec Try.prog 24 [dA n l, .v (.int .i64 now)] (.tup [dA 0 [], .v (.int .i64 0), .v (.int .i64 (agErr n l))]) := by
  refine spec_nil (D := .tup [.agg [.v (.int .i64 0), .v (.slice none 0 0)], .v (.int .i64 0), .v (.int .i64 (agErr n l))]) ?_ ⟨⟨.inl rfl, .inr ⟨rfl, 2, rfl⟩, rfl⟩, .inl rfl, .inl rfl, rfl⟩
  have hc := agcheck_spec n l hl
  refine hspec_fn Try.func24 rfl ok_ages_Take okr_ages_Take rfl (by kernel_rfl) ?_
  intro Γ hW0 hN0 hL0
  have hW := hW0 rfl
  clear hW0 hN0 hL0
  unfold x_ages_Take r_ages_Take
  repeat' (first
    | (with_reducible refine go_seq ?_)
    | (with_reducible refine go_region ?_)
    | (with_reducible refine go_regionD mixed_ok ?_)
    | (with_reducible refine go_cond ?_)
    | (with_reducible refine go_skip ?_)
    | (with_reducible refine go_block ?_)
    | (with_reducible refine nx_code ?_)
    | (with_reducible refine nx_block ?_)
    | (with_reducible refine go_ret ?_)
    | (with_reducible refine nx_nil ?_)
    | (with_reducible refine go_exit ?_)
    | (with_reducible refine ex_code ?_)
    | (with_reducible refine ex_loop ?_)
    | (with_reducible refine ex_here ?_)
    | ((with_reducible refine ex_past ?_ ?_); (exact by decide))
    | ((with_reducible refine endD_intro ?_ ?_); (exact by kernel_rfl))
    | ((with_reducible refine runR_n ?_ ?_); (solve | ((repeat' (first | exact trivial | exact rfl | apply And.intro)) <;> (first | exact rfl | (intro hq; cases hq; done) | decide | omega | (simp only [List.length_map, List.length_append, List.length_cons, List.length_nil, List.length_replicate]; done) | (simp only [room, maxLen, allOnes, oneV, List.length_map, List.length_append, List.length_cons, List.length_nil, List.length_replicate] at *; omega) | (simp only [decide_eq_true_eq, decide_eq_false_iff_not, Bool.not_eq_true', Bool.not_eq_false', Bool.and_eq_true, Bool.or_eq_true, Bool.and_eq_false_iff, Bool.or_eq_false_iff, Int.not_le, Int.not_lt, Decidable.not_not, ne_eq, not_true_eq_false, not_false_eq_true, decide_true, decide_false, Bool.not_true, Bool.not_false, Bool.false_eq_true, reduceCtorEq, List.length_map, beq_self_eq_true, Bool.and_true, Bool.true_and, Bool.false_and, Bool.and_false] at * <;> omega)))))
    | (with_reducible refine runR_call hc ?_)
    | (dsimp only [run, undef, runR_ok, runR_t, runR_f, gd, gd2, skipR, ex1, pickR, boxR, loadR, loadO, storeR, storeO, nilR, fieldAR, fieldR, partOf, binR, intBin, unR, boolR, kindEq, shiftOp, onlyIf, orB, convR, extR, lenR, indexSlR, indexArrR, putE, updL, keysOf, lget, lset, evT, evs, Env.get, Env.set, N8.get, N8.set, env0, cellsD, oneD, oneV, andB, allOne, lenB, mapV, dget, ddrop, dtake, splice, xget, xset, partsD, partsOk, partsE, partsEOk, repl, elemsR, elemsO, xdrop, xtake, allOnes, appN, appOwn, appNew, appY, cellEq_i, cellEq_b, cellEq_s, consO, cmpAll, allB, negB, eqsO, eqsR, eqbR, minR, evO, bndO, keepB, snapCut, slCut, nilCut, sliceR, isS, isnilL, isnilX, isnilR, strBin, sbinR, slenR, strAtR, substrB, substrR, makeR, clearO, clearR, sliceW1, sliceW2, sliceW3, sliceWR, appWO, appWR, okByte, okBytes, b2sR, appD, callvR, cond, condK_t, condK_f, argsE, slots0, List.length_cons, List.length_nil, Bool.true_or, Bool.false_or, Bool.or_true, Bool.or_false, bnf, bnt, Nat.add_zero, Nat.zero_add, Nat.reduceAdd, Nat.reduceMul, Int.reduceToNat, endS])
    | (with_reducible refine runR_b (fun h => ?_) (fun h => ?_) <;> first | (exfalso; (simp only [decide_eq_true_eq, decide_eq_false_iff_not, Bool.not_eq_true', Bool.not_eq_false', Bool.and_eq_true, Bool.or_eq_true, Bool.and_eq_false_iff, Bool.or_eq_false_iff, Int.not_le, Int.not_lt, Decidable.not_not, ne_eq, not_true_eq_false, not_false_eq_true, decide_true, decide_false, Bool.not_true, Bool.not_false, Bool.false_eq_true, reduceCtorEq, List.length_map, beq_self_eq_true, Bool.and_true, Bool.true_and, Bool.false_and, Bool.and_false] at * <;> omega); done) | simp only [h, runR_t, runR_f])
    | (with_reducible refine condK_bl ?_ ?_)
    | (with_reducible refine condK_b (fun h => ?_) (fun h => ?_) <;> first | (exfalso; (simp only [decide_eq_true_eq, decide_eq_false_iff_not, Bool.not_eq_true', Bool.not_eq_false', Bool.and_eq_true, Bool.or_eq_true, Bool.and_eq_false_iff, Bool.or_eq_false_iff, Int.not_le, Int.not_lt, Decidable.not_not, ne_eq, not_true_eq_false, not_false_eq_true, decide_true, decide_false, Bool.not_true, Bool.not_false, Bool.false_eq_true, reduceCtorEq, List.length_map, beq_self_eq_true, Bool.and_true, Bool.true_and, Bool.false_and, Bool.and_false] at * <;> omega); done) | skip)
    | fail)
  (all_goals first | (exfalso; (try simp only [List.length_map] at *); first | omega | (simp only [decide_eq_true_eq, decide_eq_false_iff_not, Bool.not_eq_true', Bool.not_eq_false', Bool.and_eq_true, Bool.or_eq_true, Bool.and_eq_false_iff, Bool.or_eq_false_iff, Int.not_le, Int.not_lt, Decidable.not_not, ne_eq, not_true_eq_false, not_false_eq_true, decide_true, decide_false, Bool.not_true, Bool.not_false, Bool.false_eq_true, reduceCtorEq, List.length_map, beq_self_eq_true, Bool.and_true, Bool.true_and, Bool.false_and, Bool.and_false] at * <;> omega)) | skip)
  all_goals with_reducible refine ret_spec (by (try dsimp only [RetOK, resOk, resDs, resD, resV, cellV, cellO, cellP, cellOk, htake, nfD, nfL, nfLL, nfH, lget, partOf, xget, ddrop, dtake, dget, Env.get, N8.get, env0, List.length_cons, List.length_nil, Env.set, N8.set, lset, updL]); (repeat' (first | exact trivial | exact rfl | decide | apply And.intro))) (by (try dsimp only [RetOK, resOk, resDs, resD, resV, cellV, cellO, cellP, cellOk, htake, nfD, nfL, nfLL, nfH, lget, partOf, xget, ddrop, dtake, dget, Env.get, N8.get, env0, List.length_cons, List.length_nil, Env.set, N8.set, lset, updL]); (repeat' (first | exact trivial | exact nfLL_map (fun x => by simp [nfL, nfD, nfD]) | apply And.intro))) ?_
  all_goals (try dsimp only [RetOK, resOk, resDs, resD, resV, cellV, cellO, cellP, cellOk, htake, nfD, nfL, nfLL, nfH, lget, partOf, xget, ddrop, dtake, dget, Env.get, N8.get, env0, List.length_cons, List.length_nil, Env.set, N8.set, lset, updL])
  all_goals (try simp only [decide_eq_true_eq, decide_eq_false_iff_not, Bool.not_eq_true', Bool.not_eq_false', Bool.and_eq_true, Bool.or_eq_true, Bool.and_eq_false_iff, Bool.or_eq_false_iff] at *)
theorem take_e2 (n : Int) (l : List Sy) (now : Int) (hl : l.length ≤ maxLen) (he : agErr n l = 0) (hq : lateB l now = false) : Spec Try.prog 24 [dA n l, .v (.int .i64 now)] (.tup [dA 0 [], .v (.int .i64 0), .v (.int .i64 1)]) := by
  refine spec_nil (D := .tup [.agg [.v (.int .i64 0), .v (.slice none 0 0)], .v (.int .i64 0), .v (.int .i64 1)]) ?_ ⟨⟨.inl rfl, .inr ⟨rfl, 2, rfl⟩, rfl⟩, .inl rfl, .inl rfl, rfl⟩
  have hc := agcheck_spec n l hl
  have hla := late_spec n l now hl
  rw [he] at hc
  rw [hq] at hla
  refine hspec_fn Try.func24 rfl ok_ages_Take okr_ages_Take rfl (by kernel_rfl) ?_
  intro Γ hW0 hN0 hL0
  have hW := hW0 rfl
  clear hW0 hN0 hL0
  unfold x_ages_Take r_ages_Take
  repeat' (first
    | (with_reducible refine go_seq ?_)
    | (with_reducible refine go_region ?_)
    | (with_reducible refine go_regionD mixed_ok ?_)
    | (with_reducible refine go_cond ?_)
    | (with_reducible refine go_skip ?_)
    | (with_reducible refine go_block ?_)
    | (with_reducible refine nx_code ?_)
    | (with_reducible refine nx_block ?_)
    | (with_reducible refine go_ret ?_)
    | (with_reducible refine nx_nil ?_)
    | (with_reducible refine go_exit ?_)
    | (with_reducible refine ex_code ?_)
    | (with_reducible refine ex_loop ?_)
    | (with_reducible refine ex_here ?_)
    | ((with_reducible refine ex_past ?_ ?_); (exact by decide))
    | ((with_reducible refine endD_intro ?_ ?_); (exact by kernel_rfl))
    | ((with_reducible refine runR_n ?_ ?_); (solve | ((repeat' (first | exact trivial | exact rfl | apply And.intro)) <;> (first | exact rfl | (intro hq; cases hq; done) | decide | omega | (simp only [List.length_map, List.length_append, List.length_cons, List.length_nil, List.length_replicate]; done) | (simp only [room, maxLen, allOnes, oneV, List.length_map, List.length_append, List.length_cons, List.length_nil, List.length_replicate] at *; omega) | (simp only [decide_eq_true_eq, decide_eq_false_iff_not, Bool.not_eq_true', Bool.not_eq_false', Bool.and_eq_true, Bool.or_eq_true, Bool.and_eq_false_iff, Bool.or_eq_false_iff, Int.not_le, Int.not_lt, Decidable.not_not, ne_eq, not_true_eq_false, not_false_eq_true, decide_true, decide_false, Bool.not_true, Bool.not_false, Bool.false_eq_true, reduceCtorEq, List.length_map, beq_self_eq_true, Bool.and_true, Bool.true_and, Bool.false_and, Bool.and_false] at * <;> omega)))))
    | (first | (with_reducible refine runR_call hc ?_) | (with_reducible refine runR_call hla ?_))
    | (dsimp only [run, undef, runR_ok, runR_t, runR_f, gd, gd2, skipR, ex1, pickR, boxR, loadR, loadO, storeR, storeO, nilR, fieldAR, fieldR, partOf, binR, intBin, unR, boolR, kindEq, shiftOp, onlyIf, orB, convR, extR, lenR, indexSlR, indexArrR, putE, updL, keysOf, lget, lset, evT, evs, Env.get, Env.set, N8.get, N8.set, env0, cellsD, oneD, oneV, andB, allOne, lenB, mapV, dget, ddrop, dtake, splice, xget, xset, partsD, partsOk, partsE, partsEOk, repl, elemsR, elemsO, xdrop, xtake, allOnes, appN, appOwn, appNew, appY, cellEq_i, cellEq_b, cellEq_s, consO, cmpAll, allB, negB, eqsO, eqsR, eqbR, minR, evO, bndO, keepB, snapCut, slCut, nilCut, sliceR, isS, isnilL, isnilX, isnilR, strBin, sbinR, slenR, strAtR, substrB, substrR, makeR, clearO, clearR, sliceW1, sliceW2, sliceW3, sliceWR, appWO, appWR, okByte, okBytes, b2sR, appD, callvR, cond, condK_t, condK_f, argsE, slots0, List.length_cons, List.length_nil, Bool.true_or, Bool.false_or, Bool.or_true, Bool.or_false, bnf, bnt, Nat.add_zero, Nat.zero_add, Nat.reduceAdd, Nat.reduceMul, Int.reduceToNat, endS])
    | (with_reducible refine runR_b (fun h => ?_) (fun h => ?_) <;> first | (exfalso; (simp only [decide_eq_true_eq, decide_eq_false_iff_not, Bool.not_eq_true', Bool.not_eq_false', Bool.and_eq_true, Bool.or_eq_true, Bool.and_eq_false_iff, Bool.or_eq_false_iff, Int.not_le, Int.not_lt, Decidable.not_not, ne_eq, not_true_eq_false, not_false_eq_true, decide_true, decide_false, Bool.not_true, Bool.not_false, Bool.false_eq_true, reduceCtorEq, List.length_map, beq_self_eq_true, Bool.and_true, Bool.true_and, Bool.false_and, Bool.and_false] at * <;> omega); done) | simp only [h, runR_t, runR_f])
    | (with_reducible refine condK_bl ?_ ?_)
    | (with_reducible refine condK_b (fun h => ?_) (fun h => ?_) <;> first | (exfalso; (simp only [decide_eq_true_eq, decide_eq_false_iff_not, Bool.not_eq_true', Bool.not_eq_false', Bool.and_eq_true, Bool.or_eq_true, Bool.and_eq_false_iff, Bool.or_eq_false_iff, Int.not_le, Int.not_lt, Decidable.not_not, ne_eq, not_true_eq_false, not_false_eq_true, decide_true, decide_false, Bool.not_true, Bool.not_false, Bool.false_eq_true, reduceCtorEq, List.length_map, beq_self_eq_true, Bool.and_true, Bool.true_and, Bool.false_and, Bool.and_false] at * <;> omega); done) | skip)
    | fail)
  (all_goals first | (exfalso; (try simp only [List.length_map] at *); first | omega | (simp only [decide_eq_true_eq, decide_eq_false_iff_not, Bool.not_eq_true', Bool.not_eq_false', Bool.and_eq_true, Bool.or_eq_true, Bool.and_eq_false_iff, Bool.or_eq_false_iff, Int.not_le, Int.not_lt, Decidable.not_not, ne_eq, not_true_eq_false, not_false_eq_true, decide_true, decide_false, Bool.not_true, Bool.not_false, Bool.false_eq_true, reduceCtorEq, List.length_map, beq_self_eq_true, Bool.and_true, Bool.true_and, Bool.false_and, Bool.and_false] at * <;> omega)) | skip)
  all_goals with_reducible refine ret_spec (by (try dsimp only [RetOK, resOk, resDs, resD, resV, cellV, cellO, cellP, cellOk, htake, nfD, nfL, nfLL, nfH, lget, partOf, xget, ddrop, dtake, dget, Env.get, N8.get, env0, List.length_cons, List.length_nil, Env.set, N8.set, lset, updL]); (repeat' (first | exact trivial | exact rfl | decide | apply And.intro))) (by (try dsimp only [RetOK, resOk, resDs, resD, resV, cellV, cellO, cellP, cellOk, htake, nfD, nfL, nfLL, nfH, lget, partOf, xget, ddrop, dtake, dget, Env.get, N8.get, env0, List.length_cons, List.length_nil, Env.set, N8.set, lset, updL]); (repeat' (first | exact trivial | exact nfLL_map (fun x => by simp [nfL, nfD, nfD]) | apply And.intro))) ?_
  all_goals (try dsimp only [RetOK, resOk, resDs, resD, resV, cellV, cellO, cellP, cellOk, htake, nfD, nfL, nfLL, nfH, lget, partOf, xget, ddrop, dtake, dget, Env.get, N8.get, env0, List.length_cons, List.length_nil, Env.set, N8.set, lset, updL])
  all_goals (try simp only [decide_eq_true_eq, decide_eq_false_iff_not, Bool.not_eq_true', Bool.not_eq_false', Bool.and_eq_true, Bool.or_eq_true, Bool.and_eq_false_iff, Bool.or_eq_false_iff] at *)
set_option maxHeartbeats 1000000 in
theorem take_ok (n : Int) (l : List Sy) (now : Int) (hl : l.length ≤ maxLen) (hl2 : l.length * 16 ≤ 140737488351232) (he : agErr n l = 0) (hq : lateB l now = true) (r : Nat) (hr : (r : Int) ≤ n) (hf : tk l r = false) (hb : ∀ j, j < r → tk l j = true) :
    Spec Try.prog 24 [dA n l, .v (.int .i64 now)] (.tup [if (r : Int) < n then dA n (l ++ [⟨r, now⟩]) else dA 0 [], .v (.int .i64 (if (r : Int) < n then r else 0)), .v (.int .i64 (if (r : Int) < n then 0 else 6))]) := by
  have hnil : nilP (.tup [if (r : Int) < n then dA n (l ++ [⟨r, now⟩]) else .agg [.v (.int .i64 0), .v (.slice none 0 0)], .v (.int .i64 (if (r : Int) < n then r else 0)), .v (.int .i64 (if (r : Int) < n then 0 else 6))]) (.tup [if (r : Int) < n then dA n (l ++ [⟨r, now⟩]) else dA 0 [], .v (.int .i64 (if (r : Int) < n then r else 0)), .v (.int .i64 (if (r : Int) < n then 0 else 6))]) := by
    split
    · exact ⟨⟨.inl rfl, rfl, rfl⟩, .inl rfl, .inl rfl, rfl⟩
    · exact ⟨⟨.inl rfl, .inr ⟨rfl, 2, rfl⟩, rfl⟩, .inl rfl, .inl rfl, rfl⟩
  refine spec_nil ?_ hnil
  obtain ⟨hn, hg⟩ := ag_ok he
  have hall := good_all hg
  have hS := bset_lt l (fun t ht => by have := hall t ht; omega)
  have hc := agcheck_spec n l hl
  have hla := late_spec n l now hl
  have hta := taken_spec n l hn hl
  rw [he] at hc
  rw [hq] at hla
  rw [hg] at hta
  simp only [if_true] at hta
  have hbe := fun rr => behind_no n l rr now ⟨hl, by omega⟩ hl2
  refine hspec_fn Try.func24 rfl ok_ages_Take okr_ages_Take rfl (by kernel_rfl) ?_
  intro Γ hW0 hN0 hL0
  have hW := hW0 rfl
  clear hW0 hN0 hL0
  unfold x_ages_Take r_ages_Take
  repeat' (first
    | (with_reducible refine go_seq ?_)
    | (with_reducible refine go_region ?_)
    | (with_reducible refine go_regionD mixed_ok ?_)
    | (with_reducible refine go_cond ?_)
    | (with_reducible refine go_skip ?_)
    | (with_reducible refine go_block ?_)
    | (with_reducible refine nx_code ?_)
    | (with_reducible refine nx_block ?_)
    | (with_reducible refine go_ret ?_)
    | (with_reducible refine nx_nil ?_)
    | (with_reducible refine go_exit ?_)
    | (with_reducible refine ex_code ?_)
    | (with_reducible refine ex_loop ?_)
    | (with_reducible refine ex_here ?_)
    | ((with_reducible refine ex_past ?_ ?_); (exact by decide))
    | ((with_reducible refine endD_intro ?_ ?_); (exact by kernel_rfl))
    | ((with_reducible refine runR_n ?_ ?_); (solve | ((repeat' (first | exact trivial | exact rfl | apply And.intro)) <;> (first | exact rfl | (intro hq; cases hq; done) | decide | omega | (simp only [List.length_map, List.length_append, List.length_cons, List.length_nil, List.length_replicate]; done) | (simp only [room, maxLen, allOnes, oneV, List.length_map, List.length_append, List.length_cons, List.length_nil, List.length_replicate] at *; omega) | (simp only [decide_eq_true_eq, decide_eq_false_iff_not, Bool.not_eq_true', Bool.not_eq_false', Bool.and_eq_true, Bool.or_eq_true, Bool.and_eq_false_iff, Bool.or_eq_false_iff, Int.not_le, Int.not_lt, Decidable.not_not, ne_eq, not_true_eq_false, not_false_eq_true, decide_true, decide_false, Bool.not_true, Bool.not_false, Bool.false_eq_true, reduceCtorEq, List.length_map, beq_self_eq_true, Bool.and_true, Bool.true_and, Bool.false_and, Bool.and_false] at * <;> omega)))))
    | (first | (with_reducible refine runR_call hc ?_) | (with_reducible refine runR_call hla ?_) | (with_reducible refine runR_call hta ?_))
    | (dsimp only [run, undef, runR_ok, runR_t, runR_f, gd, gd2, skipR, ex1, pickR, boxR, loadR, loadO, storeR, storeO, nilR, fieldAR, fieldR, partOf, binR, intBin, unR, boolR, kindEq, shiftOp, onlyIf, orB, convR, extR, lenR, indexSlR, indexArrR, putE, updL, keysOf, lget, lset, evT, evs, Env.get, Env.set, N8.get, N8.set, env0, cellsD, oneD, oneV, andB, allOne, lenB, mapV, dget, ddrop, dtake, splice, xget, xset, partsD, partsOk, partsE, partsEOk, repl, elemsR, elemsO, xdrop, xtake, allOnes, appN, appOwn, appNew, appY, cellEq_i, cellEq_b, cellEq_s, consO, cmpAll, allB, negB, eqsO, eqsR, eqbR, minR, evO, bndO, keepB, snapCut, slCut, nilCut, sliceR, isS, isnilL, isnilX, isnilR, strBin, sbinR, slenR, strAtR, substrB, substrR, makeR, clearO, clearR, sliceW1, sliceW2, sliceW3, sliceWR, appWO, appWR, okByte, okBytes, b2sR, appD, callvR, cond, condK_t, condK_f, argsE, slots0, List.length_cons, List.length_nil, Bool.true_or, Bool.false_or, Bool.or_true, Bool.or_false, bnf, bnt, Nat.add_zero, Nat.zero_add, Nat.reduceAdd, Nat.reduceMul, Int.reduceToNat, endS])
    | (with_reducible refine runR_b (fun h => ?_) (fun h => ?_) <;> first | (exfalso; (simp only [decide_eq_true_eq, decide_eq_false_iff_not, Bool.not_eq_true', Bool.not_eq_false', Bool.and_eq_true, Bool.or_eq_true, Bool.and_eq_false_iff, Bool.or_eq_false_iff, Int.not_le, Int.not_lt, Decidable.not_not, ne_eq, not_true_eq_false, not_false_eq_true, decide_true, decide_false, Bool.not_true, Bool.not_false, Bool.false_eq_true, reduceCtorEq, List.length_map, beq_self_eq_true, Bool.and_true, Bool.true_and, Bool.false_and, Bool.and_false] at * <;> omega); done) | simp only [h, runR_t, runR_f])
    | (with_reducible refine condK_bl ?_ ?_)
    | (with_reducible refine condK_b (fun h => ?_) (fun h => ?_) <;> first | (exfalso; (simp only [decide_eq_true_eq, decide_eq_false_iff_not, Bool.not_eq_true', Bool.not_eq_false', Bool.and_eq_true, Bool.or_eq_true, Bool.and_eq_false_iff, Bool.or_eq_false_iff, Int.not_le, Int.not_lt, Decidable.not_not, ne_eq, not_true_eq_false, not_false_eq_true, decide_true, decide_false, Bool.not_true, Bool.not_false, Bool.false_eq_true, reduceCtorEq, List.length_map, beq_self_eq_true, Bool.and_true, Bool.true_and, Bool.false_and, Bool.and_false] at * <;> omega); done) | skip)
    | fail)
  (all_goals first | (exfalso; (try simp only [List.length_map] at *); first | omega | (simp only [decide_eq_true_eq, decide_eq_false_iff_not, Bool.not_eq_true', Bool.not_eq_false', Bool.and_eq_true, Bool.or_eq_true, Bool.and_eq_false_iff, Bool.or_eq_false_iff, Int.not_le, Int.not_lt, Decidable.not_not, ne_eq, not_true_eq_false, not_false_eq_true, decide_true, decide_false, Bool.not_true, Bool.not_false, Bool.false_eq_true, reduceCtorEq, List.length_map, beq_self_eq_true, Bool.and_true, Bool.true_and, Bool.false_and, Bool.and_false] at * <;> omega)) | skip)
  refine go_loopH (α := Nat) (fun k => [(⟨.d0, .d3, .d5⟩, .v (.int .i64 (k : Nat)))]) (fun _ => []) (fun _ => Γ.g0 + 2) (fun k => r - k) (fun k => k ≤ r) 0 (Nat.zero_le _) ?_ ?_
  · skip
    refine le_mk ?_ ?_ (Nat.le_refl _)
    all_goals dsimp only [leE, leC, leR, leN, leD, leH, leO, writesX, dstsX, appS, havE, setsE, Env.get, Env.set, N8.get, N8.set, updL, lget, lset, env0]
    all_goals (repeat' (first | exact trivial | exact rfl | apply And.intro))
  intro k hk
  dsimp only at hk ⊢
  dsimp only [writesX, dstsX, appS, havE, setsE, Env.get, Env.set, N8.get, N8.set, updL, lget, lset, env0]
  have hbit := tk_bit (fun t ht => (hall t ht).1) k
  by_cases hkn : (k : Int) < n
  · have hsh := shr_bit hS (r := (k : Int)) (by omega) (by omega)
    rw [Int.toNat_natCast, hbit] at hsh
    by_cases hkr : k < r
    · rw [hb k hkr] at hsh
      simp only [if_true] at hsh
      repeat' (first
        | (with_reducible refine go_seq ?_)
        | (with_reducible refine go_region ?_)
        | (with_reducible refine go_regionD mixed_ok ?_)
        | (with_reducible refine go_cond ?_)
        | (with_reducible refine go_skip ?_)
        | (with_reducible refine go_block ?_)
        | (with_reducible refine nx_code ?_)
        | (with_reducible refine nx_block ?_)
        | (with_reducible refine go_ret ?_)
        | (with_reducible refine nx_nil ?_)
        | (with_reducible refine go_exit ?_)
        | (with_reducible refine ex_code ?_)
        | (with_reducible refine ex_loop ?_)
        | (with_reducible refine ex_here ?_)
        | ((with_reducible refine ex_past ?_ ?_); (exact by decide))
        | ((with_reducible refine endD_intro ?_ ?_); (exact by kernel_rfl))
        | ((with_reducible refine runR_n ?_ ?_); (solve | ((repeat' (first | exact trivial | exact rfl | apply And.intro)) <;> (first | exact rfl | (intro hq; cases hq; done) | decide | omega | (simp only [List.length_map, List.length_append, List.length_cons, List.length_nil, List.length_replicate]; done) | (simp only [room, maxLen, allOnes, oneV, List.length_map, List.length_append, List.length_cons, List.length_nil, List.length_replicate] at *; omega) | (simp only [decide_eq_true_eq, decide_eq_false_iff_not, Bool.not_eq_true', Bool.not_eq_false', Bool.and_eq_true, Bool.or_eq_true, Bool.and_eq_false_iff, Bool.or_eq_false_iff, Int.not_le, Int.not_lt, Decidable.not_not, ne_eq, not_true_eq_false, not_false_eq_true, decide_true, decide_false, Bool.not_true, Bool.not_false, Bool.false_eq_true, reduceCtorEq, List.length_map, beq_self_eq_true, Bool.and_true, Bool.true_and, Bool.false_and, Bool.and_false] at * <;> omega)))))
        | (simp only [hsh, Int.toNat_natCast])
        | (dsimp only [run, undef, runR_ok, runR_t, runR_f, gd, gd2, skipR, ex1, pickR, boxR, loadR, loadO, storeR, storeO, nilR, fieldAR, fieldR, partOf, binR, intBin, unR, boolR, kindEq, shiftOp, onlyIf, orB, convR, extR, lenR, indexSlR, indexArrR, putE, updL, keysOf, lget, lset, evT, evs, Env.get, Env.set, N8.get, N8.set, env0, cellsD, oneD, oneV, andB, allOne, lenB, mapV, dget, ddrop, dtake, splice, xget, xset, partsD, partsOk, partsE, partsEOk, repl, elemsR, elemsO, xdrop, xtake, allOnes, appN, appOwn, appNew, appY, cellEq_i, cellEq_b, cellEq_s, consO, cmpAll, allB, negB, eqsO, eqsR, eqbR, minR, evO, bndO, keepB, snapCut, slCut, nilCut, sliceR, isS, isnilL, isnilX, isnilR, strBin, sbinR, slenR, strAtR, substrB, substrR, makeR, clearO, clearR, sliceW1, sliceW2, sliceW3, sliceWR, appWO, appWR, okByte, okBytes, b2sR, appD, callvR, cond, condK_t, condK_f, argsE, slots0, List.length_cons, List.length_nil, Bool.true_or, Bool.false_or, Bool.or_true, Bool.or_false, bnf, bnt, Nat.add_zero, Nat.zero_add, Nat.reduceAdd, Nat.reduceMul, Int.reduceToNat, endS])
        | (with_reducible refine runR_b (fun h => ?_) (fun h => ?_) <;> first | (exfalso; (simp only [decide_eq_true_eq, decide_eq_false_iff_not, Bool.not_eq_true', Bool.not_eq_false', Bool.and_eq_true, Bool.or_eq_true, Bool.and_eq_false_iff, Bool.or_eq_false_iff, Int.not_le, Int.not_lt, Decidable.not_not, ne_eq, not_true_eq_false, not_false_eq_true, decide_true, decide_false, Bool.not_true, Bool.not_false, Bool.false_eq_true, reduceCtorEq, List.length_map, beq_self_eq_true, Bool.and_true, Bool.true_and, Bool.false_and, Bool.and_false] at * <;> omega); done) | simp only [h, runR_t, runR_f])
        | (with_reducible refine condK_bl ?_ ?_)
        | (with_reducible refine condK_b (fun h => ?_) (fun h => ?_) <;> first | (exfalso; (simp only [decide_eq_true_eq, decide_eq_false_iff_not, Bool.not_eq_true', Bool.not_eq_false', Bool.and_eq_true, Bool.or_eq_true, Bool.and_eq_false_iff, Bool.or_eq_false_iff, Int.not_le, Int.not_lt, Decidable.not_not, ne_eq, not_true_eq_false, not_false_eq_true, decide_true, decide_false, Bool.not_true, Bool.not_false, Bool.false_eq_true, reduceCtorEq, List.length_map, beq_self_eq_true, Bool.and_true, Bool.true_and, Bool.false_and, Bool.and_false] at * <;> omega); done) | skip)
        | fail)
      (all_goals first | (exfalso; (try simp only [List.length_map] at *); first | omega | (simp only [decide_eq_true_eq, decide_eq_false_iff_not, Bool.not_eq_true', Bool.not_eq_false', Bool.and_eq_true, Bool.or_eq_true, Bool.and_eq_false_iff, Bool.or_eq_false_iff, Int.not_le, Int.not_lt, Decidable.not_not, ne_eq, not_true_eq_false, not_false_eq_true, decide_true, decide_false, Bool.not_true, Bool.not_false, Bool.false_eq_true, reduceCtorEq, List.length_map, beq_self_eq_true, Bool.and_true, Bool.true_and, Bool.false_and, Bool.and_false] at * <;> omega)) | skip)
      all_goals first
        | (exfalso; simp_all; done)
        | (refine nx_loop ⟨k + 1, hkr, Nat.sub_lt_sub_left hkr (Nat.lt_succ_self k), ?_⟩
           (refine le_mk ?_ ?_ (Nat.le_refl _)); (all_goals dsimp only [leE, leC, leR, leN, leD, leH, leO, writesX, dstsX, appS, havE, setsE, Env.get, Env.set, N8.get, N8.set, updL, lget, lset, env0]); (all_goals (repeat' (first | exact trivial | exact rfl | apply And.intro)))
           all_goals exact dint ((IntWalk.i64_in _ (by omega)).trans (by omega)))
    · obtain rfl : k = r := by omega
      rw [hf] at hsh
      simp only [Bool.false_eq_true, if_false] at hsh
      rw [if_pos hkn, if_pos hkn, if_pos hkn]
      repeat' (first
        | (with_reducible refine go_seq ?_)
        | (with_reducible refine go_region ?_)
        | (with_reducible refine go_regionD mixed_ok ?_)
        | (with_reducible refine go_cond ?_)
        | (with_reducible refine go_skip ?_)
        | (with_reducible refine go_block ?_)
        | (with_reducible refine nx_code ?_)
        | (with_reducible refine nx_block ?_)
        | (with_reducible refine go_ret ?_)
        | (with_reducible refine nx_nil ?_)
        | (with_reducible refine go_exit ?_)
        | (with_reducible refine ex_code ?_)
        | (with_reducible refine ex_loop ?_)
        | (with_reducible refine ex_here ?_)
        | ((with_reducible refine ex_past ?_ ?_); (exact by decide))
        | ((with_reducible refine endD_intro ?_ ?_); (exact by kernel_rfl))
        | ((with_reducible refine runR_n ?_ ?_); (solve | ((repeat' (first | exact trivial | exact rfl | apply And.intro)) <;> (first | exact rfl | (intro hq; cases hq; done) | decide | omega | (simp only [List.length_map, List.length_append, List.length_cons, List.length_nil, List.length_replicate]; done) | (simp only [room, maxLen, allOnes, oneV, List.length_map, List.length_append, List.length_cons, List.length_nil, List.length_replicate] at *; omega) | (simp only [decide_eq_true_eq, decide_eq_false_iff_not, Bool.not_eq_true', Bool.not_eq_false', Bool.and_eq_true, Bool.or_eq_true, Bool.and_eq_false_iff, Bool.or_eq_false_iff, Int.not_le, Int.not_lt, Decidable.not_not, ne_eq, not_true_eq_false, not_false_eq_true, decide_true, decide_false, Bool.not_true, Bool.not_false, Bool.false_eq_true, reduceCtorEq, List.length_map, beq_self_eq_true, Bool.and_true, Bool.true_and, Bool.false_and, Bool.and_false] at * <;> omega)))))
        | (first | (with_reducible refine runR_call (hbe _) ?_) | (simp only [hsh, Int.toNat_natCast]))
        | (dsimp only [run, undef, runR_ok, runR_t, runR_f, gd, gd2, skipR, ex1, pickR, boxR, loadR, loadO, storeR, storeO, nilR, fieldAR, fieldR, partOf, binR, intBin, unR, boolR, kindEq, shiftOp, onlyIf, orB, convR, extR, lenR, indexSlR, indexArrR, putE, updL, keysOf, lget, lset, evT, evs, Env.get, Env.set, N8.get, N8.set, env0, cellsD, oneD, oneV, andB, allOne, lenB, mapV, dget, ddrop, dtake, splice, xget, xset, partsD, partsOk, partsE, partsEOk, repl, elemsR, elemsO, xdrop, xtake, allOnes, appN, appOwn, appNew, appY, cellEq_i, cellEq_b, cellEq_s, consO, cmpAll, allB, negB, eqsO, eqsR, eqbR, minR, evO, bndO, keepB, snapCut, slCut, nilCut, sliceR, isS, isnilL, isnilX, isnilR, strBin, sbinR, slenR, strAtR, substrB, substrR, makeR, clearO, clearR, sliceW1, sliceW2, sliceW3, sliceWR, appWO, appWR, okByte, okBytes, b2sR, appD, callvR, cond, condK_t, condK_f, argsE, slots0, List.length_cons, List.length_nil, Bool.true_or, Bool.false_or, Bool.or_true, Bool.or_false, bnf, bnt, Nat.add_zero, Nat.zero_add, Nat.reduceAdd, Nat.reduceMul, Int.reduceToNat, endS])
        | (with_reducible refine runR_b (fun h => ?_) (fun h => ?_) <;> first | (exfalso; (simp only [decide_eq_true_eq, decide_eq_false_iff_not, Bool.not_eq_true', Bool.not_eq_false', Bool.and_eq_true, Bool.or_eq_true, Bool.and_eq_false_iff, Bool.or_eq_false_iff, Int.not_le, Int.not_lt, Decidable.not_not, ne_eq, not_true_eq_false, not_false_eq_true, decide_true, decide_false, Bool.not_true, Bool.not_false, Bool.false_eq_true, reduceCtorEq, List.length_map, beq_self_eq_true, Bool.and_true, Bool.true_and, Bool.false_and, Bool.and_false] at * <;> omega); done) | simp only [h, runR_t, runR_f])
        | (with_reducible refine condK_bl ?_ ?_)
        | (with_reducible refine condK_b (fun h => ?_) (fun h => ?_) <;> first | (exfalso; (simp only [decide_eq_true_eq, decide_eq_false_iff_not, Bool.not_eq_true', Bool.not_eq_false', Bool.and_eq_true, Bool.or_eq_true, Bool.and_eq_false_iff, Bool.or_eq_false_iff, Int.not_le, Int.not_lt, Decidable.not_not, ne_eq, not_true_eq_false, not_false_eq_true, decide_true, decide_false, Bool.not_true, Bool.not_false, Bool.false_eq_true, reduceCtorEq, List.length_map, beq_self_eq_true, Bool.and_true, Bool.true_and, Bool.false_and, Bool.and_false] at * <;> omega); done) | skip)
        | fail)
      (all_goals first | (exfalso; (try simp only [List.length_map] at *); first | omega | (simp only [decide_eq_true_eq, decide_eq_false_iff_not, Bool.not_eq_true', Bool.not_eq_false', Bool.and_eq_true, Bool.or_eq_true, Bool.and_eq_false_iff, Bool.or_eq_false_iff, Int.not_le, Int.not_lt, Decidable.not_not, ne_eq, not_true_eq_false, not_false_eq_true, decide_true, decide_false, Bool.not_true, Bool.not_false, Bool.false_eq_true, reduceCtorEq, List.length_map, beq_self_eq_true, Bool.and_true, Bool.true_and, Bool.false_and, Bool.and_false] at * <;> omega)) | skip)
      all_goals with_reducible refine ret_spec (by (try dsimp only [RetOK, resOk, resDs, resD, resV, cellV, cellO, cellP, cellOk, htake, nfD, nfL, nfLL, nfH, lget, partOf, xget, ddrop, dtake, dget, Env.get, N8.get, env0, List.length_cons, List.length_nil, Env.set, N8.set, lset, updL]); (repeat' (first | exact trivial | exact rfl | decide | apply And.intro))) (by (try dsimp only [RetOK, resOk, resDs, resD, resV, cellV, cellO, cellP, cellOk, htake, nfD, nfL, nfLL, nfH, lget, partOf, xget, ddrop, dtake, dget, Env.get, N8.get, env0, List.length_cons, List.length_nil, Env.set, N8.set, lset, updL]); (repeat' (first | exact trivial | exact nfLL_map (fun x => by simp [nfL, nfD, nfD]) | apply And.intro))) ?_
      all_goals (try dsimp only [RetOK, resOk, resDs, resD, resV, cellV, cellO, cellP, cellOk, htake, nfD, nfL, nfLL, nfH, lget, partOf, xget, ddrop, dtake, dget, Env.get, N8.get, env0, List.length_cons, List.length_nil, Env.set, N8.set, lset, updL])
      all_goals (try simp only [decide_eq_true_eq, decide_eq_false_iff_not, Bool.not_eq_true', Bool.not_eq_false', Bool.and_eq_true, Bool.or_eq_true, Bool.and_eq_false_iff, Bool.or_eq_false_iff] at *)
  · obtain rfl : k = r := by omega
    rw [if_neg hkn, if_neg hkn, if_neg hkn]
    repeat' (first
      | (with_reducible refine go_seq ?_)
      | (with_reducible refine go_region ?_)
      | (with_reducible refine go_regionD mixed_ok ?_)
      | (with_reducible refine go_cond ?_)
      | (with_reducible refine go_skip ?_)
      | (with_reducible refine go_block ?_)
      | (with_reducible refine nx_code ?_)
      | (with_reducible refine nx_block ?_)
      | (with_reducible refine go_ret ?_)
      | (with_reducible refine nx_nil ?_)
      | (with_reducible refine go_exit ?_)
      | (with_reducible refine ex_code ?_)
      | (with_reducible refine ex_loop ?_)
      | (with_reducible refine ex_here ?_)
      | ((with_reducible refine ex_past ?_ ?_); (exact by decide))
      | ((with_reducible refine endD_intro ?_ ?_); (exact by kernel_rfl))
      | ((with_reducible refine runR_n ?_ ?_); (solve | ((repeat' (first | exact trivial | exact rfl | apply And.intro)) <;> (first | exact rfl | (intro hq; cases hq; done) | decide | omega | (simp only [List.length_map, List.length_append, List.length_cons, List.length_nil, List.length_replicate]; done) | (simp only [room, maxLen, allOnes, oneV, List.length_map, List.length_append, List.length_cons, List.length_nil, List.length_replicate] at *; omega) | (simp only [decide_eq_true_eq, decide_eq_false_iff_not, Bool.not_eq_true', Bool.not_eq_false', Bool.and_eq_true, Bool.or_eq_true, Bool.and_eq_false_iff, Bool.or_eq_false_iff, Int.not_le, Int.not_lt, Decidable.not_not, ne_eq, not_true_eq_false, not_false_eq_true, decide_true, decide_false, Bool.not_true, Bool.not_false, Bool.false_eq_true, reduceCtorEq, List.length_map, beq_self_eq_true, Bool.and_true, Bool.true_and, Bool.false_and, Bool.and_false] at * <;> omega)))))
      | fail
      | (dsimp only [run, undef, runR_ok, runR_t, runR_f, gd, gd2, skipR, ex1, pickR, boxR, loadR, loadO, storeR, storeO, nilR, fieldAR, fieldR, partOf, binR, intBin, unR, boolR, kindEq, shiftOp, onlyIf, orB, convR, extR, lenR, indexSlR, indexArrR, putE, updL, keysOf, lget, lset, evT, evs, Env.get, Env.set, N8.get, N8.set, env0, cellsD, oneD, oneV, andB, allOne, lenB, mapV, dget, ddrop, dtake, splice, xget, xset, partsD, partsOk, partsE, partsEOk, repl, elemsR, elemsO, xdrop, xtake, allOnes, appN, appOwn, appNew, appY, cellEq_i, cellEq_b, cellEq_s, consO, cmpAll, allB, negB, eqsO, eqsR, eqbR, minR, evO, bndO, keepB, snapCut, slCut, nilCut, sliceR, isS, isnilL, isnilX, isnilR, strBin, sbinR, slenR, strAtR, substrB, substrR, makeR, clearO, clearR, sliceW1, sliceW2, sliceW3, sliceWR, appWO, appWR, okByte, okBytes, b2sR, appD, callvR, cond, condK_t, condK_f, argsE, slots0, List.length_cons, List.length_nil, Bool.true_or, Bool.false_or, Bool.or_true, Bool.or_false, bnf, bnt, Nat.add_zero, Nat.zero_add, Nat.reduceAdd, Nat.reduceMul, Int.reduceToNat, endS])
      | (with_reducible refine runR_b (fun h => ?_) (fun h => ?_) <;> first | (exfalso; (simp only [decide_eq_true_eq, decide_eq_false_iff_not, Bool.not_eq_true', Bool.not_eq_false', Bool.and_eq_true, Bool.or_eq_true, Bool.and_eq_false_iff, Bool.or_eq_false_iff, Int.not_le, Int.not_lt, Decidable.not_not, ne_eq, not_true_eq_false, not_false_eq_true, decide_true, decide_false, Bool.not_true, Bool.not_false, Bool.false_eq_true, reduceCtorEq, List.length_map, beq_self_eq_true, Bool.and_true, Bool.true_and, Bool.false_and, Bool.and_false] at * <;> omega); done) | simp only [h, runR_t, runR_f])
      | (with_reducible refine condK_bl ?_ ?_)
      | (with_reducible refine condK_b (fun h => ?_) (fun h => ?_) <;> first | (exfalso; (simp only [decide_eq_true_eq, decide_eq_false_iff_not, Bool.not_eq_true', Bool.not_eq_false', Bool.and_eq_true, Bool.or_eq_true, Bool.and_eq_false_iff, Bool.or_eq_false_iff, Int.not_le, Int.not_lt, Decidable.not_not, ne_eq, not_true_eq_false, not_false_eq_true, decide_true, decide_false, Bool.not_true, Bool.not_false, Bool.false_eq_true, reduceCtorEq, List.length_map, beq_self_eq_true, Bool.and_true, Bool.true_and, Bool.false_and, Bool.and_false] at * <;> omega); done) | skip)
      | fail)
    (all_goals first | (exfalso; (try simp only [List.length_map] at *); first | omega | (simp only [decide_eq_true_eq, decide_eq_false_iff_not, Bool.not_eq_true', Bool.not_eq_false', Bool.and_eq_true, Bool.or_eq_true, Bool.and_eq_false_iff, Bool.or_eq_false_iff, Int.not_le, Int.not_lt, Decidable.not_not, ne_eq, not_true_eq_false, not_false_eq_true, decide_true, decide_false, Bool.not_true, Bool.not_false, Bool.false_eq_true, reduceCtorEq, List.length_map, beq_self_eq_true, Bool.and_true, Bool.true_and, Bool.false_and, Bool.and_false] at * <;> omega)) | skip)
    all_goals with_reducible refine ret_spec (by (try dsimp only [RetOK, resOk, resDs, resD, resV, cellV, cellO, cellP, cellOk, htake, nfD, nfL, nfLL, nfH, lget, partOf, xget, ddrop, dtake, dget, Env.get, N8.get, env0, List.length_cons, List.length_nil, Env.set, N8.set, lset, updL]); (repeat' (first | exact trivial | exact rfl | decide | apply And.intro))) (by (try dsimp only [RetOK, resOk, resDs, resD, resV, cellV, cellO, cellP, cellOk, htake, nfD, nfL, nfLL, nfH, lget, partOf, xget, ddrop, dtake, dget, Env.get, N8.get, env0, List.length_cons, List.length_nil, Env.set, N8.set, lset, updL]); (repeat' (first | exact trivial | exact nfLL_map (fun x => by simp [nfL, nfD, nfD]) | apply And.intro))) ?_
    all_goals (try dsimp only [RetOK, resOk, resDs, resD, resV, cellV, cellO, cellP, cellOk, htake, nfD, nfL, nfLL, nfH, lget, partOf, xget, ddrop, dtake, dget, Env.get, N8.get, env0, List.length_cons, List.length_nil, Env.set, N8.set, lset, updL])
    all_goals (try simp only [decide_eq_true_eq, decide_eq_false_iff_not, Bool.not_eq_true', Bool.not_eq_false', Bool.and_eq_true, Bool.or_eq_true, Bool.and_eq_false_iff, Bool.or_eq_false_iff] at *)
end Go.Proofs.Ytmkdgnocbjbijaa
