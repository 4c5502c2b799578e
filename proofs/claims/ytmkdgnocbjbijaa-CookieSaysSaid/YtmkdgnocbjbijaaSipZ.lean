/-
  A number of a text by a key: More, End, Begin, Of.
-/
import Derived.Test.YtmkdgnocbjbijaaSipY
namespace Go.Proofs.Ytmkdgnocbjbijaa
set_option linter.unusedVariables false
set_option linter.unusedSimpArgs false
theorem mkS_nil : (ByteArray.mk #[] : ByteArray) = mkS [] := rfl
theorem sipErr_ok {p : List UInt8} {n : Int} (h : sipErr p n = 0) : 0 ≤ n ∧ (p.length : Int) = n % 8 ∧ p.length ≤ 7 := by
  unfold sipErr at h
  split at h
  · cases h
  · rename_i h2
    have : 0 ≤ n ∧ (p.length : Int) = n % 8 := by
      constructor
      · apply Int.not_lt.1; exact fun q => h2 (.inl q)
      · apply Decidable.not_not.1; exact fun q => h2 (.inr q)
    omega
theorem more_bad (v : V4) (p : List UInt8) (n : Int) (s : List UInt8) (h : ¬ sipErr p n = 0) : Spec Try.prog 69 [v.sp p n, .v (.string (mkS s))] (.tup [v.sp p n, .v (.int .i64 (sipErr p n))]) := by
  have hc := scheck_spec v p n
  refine hspec_fn Try.func69 rfl ok_sip_More okr_sip_More rfl (by kernel_rfl) ?_
  intro Γ hW0 hN0 hL0
  have hW := hW0 rfl
  clear hW0 hN0 hL0
  unfold x_sip_More r_sip_More
  repeat' (first
    | (with_reducible refine go_seq ?_)
    | (with_reducible refine go_region ?_)
    | (with_reducible refine go_regionD mixed_ok ?_)
    | (with_reducible refine go_cond ?_)
    | (with_reducible refine go_skip ?_)
    | (with_reducible refine go_block ?_)
    | (with_reducible refine nx_code ?_)
    | (with_reducible refine nx_block ?_)
    | (with_reducible refine go_ret ?_)
    | (with_reducible refine nx_nil ?_)
    | (with_reducible refine go_exit ?_)
    | (with_reducible refine ex_code ?_)
    | (with_reducible refine ex_loop ?_)
    | (with_reducible refine ex_here ?_)
    | ((with_reducible refine ex_past ?_ ?_); (exact by decide))
    | ((with_reducible refine endD_intro ?_ ?_); (exact by kernel_rfl))
    | ((with_reducible refine runR_n ?_ ?_); (solve | ((repeat' (first | exact trivial | exact rfl | apply And.intro)) <;> (first | exact rfl | (intro hq; cases hq; done) | decide | omega | (simp only [List.length_map, List.length_append, List.length_cons, List.length_nil, List.length_replicate]; done) | (simp only [room, maxLen, allOnes, oneV, List.length_map, List.length_append, List.length_cons, List.length_nil, List.length_replicate] at *; omega) | (simp only [decide_eq_true_eq, decide_eq_false_iff_not, Bool.not_eq_true', Bool.not_eq_false', Bool.and_eq_true, Bool.or_eq_true, Bool.and_eq_false_iff, Bool.or_eq_false_iff, Int.not_le, Int.not_lt, Decidable.not_not, ne_eq, not_true_eq_false, not_false_eq_true, decide_true, decide_false, Bool.not_true, Bool.not_false, Bool.false_eq_true, reduceCtorEq, List.length_map, beq_self_eq_true, Bool.and_true, Bool.true_and, Bool.false_and, Bool.and_false] at * <;> omega)))))
    | (with_reducible refine runR_call hc ?_)
    | (dsimp only [run, undef, runR_ok, runR_t, runR_f, gd, gd2, skipR, ex1, pickR, boxR, loadR, loadO, storeR, storeO, nilR, fieldAR, fieldR, partOf, binR, intBin, unR, boolR, kindEq, shiftOp, onlyIf, orB, convR, extR, lenR, indexSlR, indexArrR, putE, updL, keysOf, lget, lset, evT, evs, Env.get, Env.set, N8.get, N8.set, env0, cellsD, oneD, oneV, andB, allOne, lenB, mapV, dget, ddrop, dtake, splice, xget, xset, partsD, partsOk, partsE, partsEOk, repl, elemsR, elemsO, xdrop, xtake, allOnes, appN, appOwn, appNew, appY, cellEq_i, cellEq_b, cellEq_s, consO, cmpAll, allB, negB, eqsO, eqsR, eqbR, minR, evO, bndO, keepB, snapCut, slCut, nilCut, sliceR, isS, isnilL, isnilX, isnilR, strBin, sbinR, slenR, strAtR, substrB, substrR, makeR, clearO, clearR, sliceW1, sliceW2, sliceW3, sliceWR, appWO, appWR, okByte, okBytes, b2sR, indexVR, isnilPR, chunk, sliceAR, s2bR, flat1, arrpR, exnR, appD, callvR, cond, condK_t, condK_f, argsE, slots0, List.length_cons, List.length_nil, Bool.true_or, Bool.false_or, Bool.or_true, Bool.or_false, bnf, bnt, Nat.add_zero, Nat.zero_add, Nat.reduceAdd, Nat.reduceMul, Int.reduceToNat, endS])
    | (with_reducible refine runR_b (fun h => ?_) (fun h => ?_) <;> first | (exfalso; (simp only [decide_eq_true_eq, decide_eq_false_iff_not, Bool.not_eq_true', Bool.not_eq_false', Bool.and_eq_true, Bool.or_eq_true, Bool.and_eq_false_iff, Bool.or_eq_false_iff, Int.not_le, Int.not_lt, Decidable.not_not, ne_eq, not_true_eq_false, not_false_eq_true, decide_true, decide_false, Bool.not_true, Bool.not_false, Bool.false_eq_true, reduceCtorEq, List.length_map, beq_self_eq_true, Bool.and_true, Bool.true_and, Bool.false_and, Bool.and_false] at * <;> omega); done) | simp only [h, runR_t, runR_f])
    | (with_reducible refine condK_bl ?_ ?_)
    | (with_reducible refine condK_b (fun h => ?_) (fun h => ?_) <;> first | (exfalso; (simp only [decide_eq_true_eq, decide_eq_false_iff_not, Bool.not_eq_true', Bool.not_eq_false', Bool.and_eq_true, Bool.or_eq_true, Bool.and_eq_false_iff, Bool.or_eq_false_iff, Int.not_le, Int.not_lt, Decidable.not_not, ne_eq, not_true_eq_false, not_false_eq_true, decide_true, decide_false, Bool.not_true, Bool.not_false, Bool.false_eq_true, reduceCtorEq, List.length_map, beq_self_eq_true, Bool.and_true, Bool.true_and, Bool.false_and, Bool.and_false] at * <;> omega); done) | skip)
    | fail)
  (all_goals first | (exfalso; (try simp only [List.length_map] at *); first | omega | (simp only [decide_eq_true_eq, decide_eq_false_iff_not, Bool.not_eq_true', Bool.not_eq_false', Bool.and_eq_true, Bool.or_eq_true, Bool.and_eq_false_iff, Bool.or_eq_false_iff, Int.not_le, Int.not_lt, Decidable.not_not, ne_eq, not_true_eq_false, not_false_eq_true, decide_true, decide_false, Bool.not_true, Bool.not_false, Bool.false_eq_true, reduceCtorEq, List.length_map, beq_self_eq_true, Bool.and_true, Bool.true_and, Bool.false_and, Bool.and_false] at * <;> omega)) | skip)
  all_goals with_reducible refine ret_spec (by (try dsimp only [RetOK, resOk, resDs, resD, resV, cellV, cellO, cellP, cellOk, htake, nfD, nfL, nfLL, nfH, lget, partOf, xget, ddrop, dtake, dget, Env.get, N8.get, env0, List.length_cons, List.length_nil, Env.set, N8.set, lset, updL]); (repeat' (first | exact trivial | exact rfl | decide | apply And.intro))) (by (try dsimp only [RetOK, resOk, resDs, resD, resV, cellV, cellO, cellP, cellOk, htake, nfD, nfL, nfLL, nfH, lget, partOf, xget, ddrop, dtake, dget, Env.get, N8.get, env0, List.length_cons, List.length_nil, Env.set, N8.set, lset, updL]); (repeat' (first | exact trivial | exact nfLL_map (fun x => by simp [nfL, nfD, nfD, nfL]) | apply And.intro))) ?_
  all_goals (try dsimp only [RetOK, resOk, resDs, resD, resV, cellV, cellO, cellP, cellOk, htake, nfD, nfL, nfLL, nfH, lget, partOf, xget, ddrop, dtake, dget, Env.get, N8.get, env0, List.length_cons, List.length_nil, Env.set, N8.set, lset, updL])
  all_goals (try simp only [decide_eq_true_eq, decide_eq_false_iff_not, Bool.not_eq_true', Bool.not_eq_false', Bool.and_eq_true, Bool.or_eq_true, Bool.and_eq_false_iff, Bool.or_eq_false_iff] at *)
theorem smore_bad (v : V4) (p : List UInt8) (n : Int) (s : List UInt8) (h : ¬ sipErr p n = 0) : Spec Try.prog 72 [v.sp p n, .v (.string (mkS s))] (.tup [v.sp p n, .v (.int .i64 (sipErr p n))]) := by
  have hc := sright_spec v p n
  refine hspec_fn Try.func72 rfl ok_custref_SipMore okr_custref_SipMore rfl (by kernel_rfl) ?_
  intro Γ hW0 hN0 hL0
  have hW := hW0 rfl
  clear hW0 hN0 hL0
  unfold x_custref_SipMore r_custref_SipMore
  repeat' (first
    | (with_reducible refine go_seq ?_)
    | (with_reducible refine go_region ?_)
    | (with_reducible refine go_regionD mixed_ok ?_)
    | (with_reducible refine go_cond ?_)
    | (with_reducible refine go_skip ?_)
    | (with_reducible refine go_block ?_)
    | (with_reducible refine nx_code ?_)
    | (with_reducible refine nx_block ?_)
    | (with_reducible refine go_ret ?_)
    | (with_reducible refine nx_nil ?_)
    | (with_reducible refine go_exit ?_)
    | (with_reducible refine ex_code ?_)
    | (with_reducible refine ex_loop ?_)
    | (with_reducible refine ex_here ?_)
    | ((with_reducible refine ex_past ?_ ?_); (exact by decide))
    | ((with_reducible refine endD_intro ?_ ?_); (exact by kernel_rfl))
    | ((with_reducible refine runR_n ?_ ?_); (solve | ((repeat' (first | exact trivial | exact rfl | apply And.intro)) <;> (first | exact rfl | (intro hq; cases hq; done) | decide | omega | (simp only [List.length_map, List.length_append, List.length_cons, List.length_nil, List.length_replicate]; done) | (simp only [room, maxLen, allOnes, oneV, List.length_map, List.length_append, List.length_cons, List.length_nil, List.length_replicate] at *; omega) | (simp only [decide_eq_true_eq, decide_eq_false_iff_not, Bool.not_eq_true', Bool.not_eq_false', Bool.and_eq_true, Bool.or_eq_true, Bool.and_eq_false_iff, Bool.or_eq_false_iff, Int.not_le, Int.not_lt, Decidable.not_not, ne_eq, not_true_eq_false, not_false_eq_true, decide_true, decide_false, Bool.not_true, Bool.not_false, Bool.false_eq_true, reduceCtorEq, List.length_map, beq_self_eq_true, Bool.and_true, Bool.true_and, Bool.false_and, Bool.and_false] at * <;> omega)))))
    | (with_reducible refine runR_call hc ?_)
    | (dsimp only [run, undef, runR_ok, runR_t, runR_f, gd, gd2, skipR, ex1, pickR, boxR, loadR, loadO, storeR, storeO, nilR, fieldAR, fieldR, partOf, binR, intBin, unR, boolR, kindEq, shiftOp, onlyIf, orB, convR, extR, lenR, indexSlR, indexArrR, putE, updL, keysOf, lget, lset, evT, evs, Env.get, Env.set, N8.get, N8.set, env0, cellsD, oneD, oneV, andB, allOne, lenB, mapV, dget, ddrop, dtake, splice, xget, xset, partsD, partsOk, partsE, partsEOk, repl, elemsR, elemsO, xdrop, xtake, allOnes, appN, appOwn, appNew, appY, cellEq_i, cellEq_b, cellEq_s, consO, cmpAll, allB, negB, eqsO, eqsR, eqbR, minR, evO, bndO, keepB, snapCut, slCut, nilCut, sliceR, isS, isnilL, isnilX, isnilR, strBin, sbinR, slenR, strAtR, substrB, substrR, makeR, clearO, clearR, sliceW1, sliceW2, sliceW3, sliceWR, appWO, appWR, okByte, okBytes, b2sR, indexVR, isnilPR, chunk, sliceAR, s2bR, flat1, arrpR, exnR, appD, callvR, cond, condK_t, condK_f, argsE, slots0, List.length_cons, List.length_nil, Bool.true_or, Bool.false_or, Bool.or_true, Bool.or_false, bnf, bnt, Nat.add_zero, Nat.zero_add, Nat.reduceAdd, Nat.reduceMul, Int.reduceToNat, endS])
    | (with_reducible refine runR_b (fun h => ?_) (fun h => ?_) <;> first | (exfalso; (simp only [decide_eq_true_eq, decide_eq_false_iff_not, Bool.not_eq_true', Bool.not_eq_false', Bool.and_eq_true, Bool.or_eq_true, Bool.and_eq_false_iff, Bool.or_eq_false_iff, Int.not_le, Int.not_lt, Decidable.not_not, ne_eq, not_true_eq_false, not_false_eq_true, decide_true, decide_false, Bool.not_true, Bool.not_false, Bool.false_eq_true, reduceCtorEq, List.length_map, beq_self_eq_true, Bool.and_true, Bool.true_and, Bool.false_and, Bool.and_false] at * <;> omega); done) | simp only [h, runR_t, runR_f])
    | (with_reducible refine condK_bl ?_ ?_)
    | (with_reducible refine condK_b (fun h => ?_) (fun h => ?_) <;> first | (exfalso; (simp only [decide_eq_true_eq, decide_eq_false_iff_not, Bool.not_eq_true', Bool.not_eq_false', Bool.and_eq_true, Bool.or_eq_true, Bool.and_eq_false_iff, Bool.or_eq_false_iff, Int.not_le, Int.not_lt, Decidable.not_not, ne_eq, not_true_eq_false, not_false_eq_true, decide_true, decide_false, Bool.not_true, Bool.not_false, Bool.false_eq_true, reduceCtorEq, List.length_map, beq_self_eq_true, Bool.and_true, Bool.true_and, Bool.false_and, Bool.and_false] at * <;> omega); done) | skip)
    | fail)
  (all_goals first | (exfalso; (try simp only [List.length_map] at *); first | omega | (simp only [decide_eq_true_eq, decide_eq_false_iff_not, Bool.not_eq_true', Bool.not_eq_false', Bool.and_eq_true, Bool.or_eq_true, Bool.and_eq_false_iff, Bool.or_eq_false_iff, Int.not_le, Int.not_lt, Decidable.not_not, ne_eq, not_true_eq_false, not_false_eq_true, decide_true, decide_false, Bool.not_true, Bool.not_false, Bool.false_eq_true, reduceCtorEq, List.length_map, beq_self_eq_true, Bool.and_true, Bool.true_and, Bool.false_and, Bool.and_false] at * <;> omega)) | skip)
  all_goals with_reducible refine ret_spec (by (try dsimp only [RetOK, resOk, resDs, resD, resV, cellV, cellO, cellP, cellOk, htake, nfD, nfL, nfLL, nfH, lget, partOf, xget, ddrop, dtake, dget, Env.get, N8.get, env0, List.length_cons, List.length_nil, Env.set, N8.set, lset, updL]); (repeat' (first | exact trivial | exact rfl | decide | apply And.intro))) (by (try dsimp only [RetOK, resOk, resDs, resD, resV, cellV, cellO, cellP, cellOk, htake, nfD, nfL, nfLL, nfH, lget, partOf, xget, ddrop, dtake, dget, Env.get, N8.get, env0, List.length_cons, List.length_nil, Env.set, N8.set, lset, updL]); (repeat' (first | exact trivial | exact nfLL_map (fun x => by simp [nfL, nfD, nfD, nfL]) | apply And.intro))) ?_
  all_goals (try dsimp only [RetOK, resOk, resDs, resD, resV, cellV, cellO, cellP, cellOk, htake, nfD, nfL, nfLL, nfH, lget, partOf, xget, ddrop, dtake, dget, Env.get, N8.get, env0, List.length_cons, List.length_nil, Env.set, N8.set, lset, updL])
  all_goals (try simp only [decide_eq_true_eq, decide_eq_false_iff_not, Bool.not_eq_true', Bool.not_eq_false', Bool.and_eq_true, Bool.or_eq_true, Bool.and_eq_false_iff, Bool.or_eq_false_iff] at *)
set_option maxHeartbeats 1000000 in
theorem more_ok (v : V4) (hv : v.ok) (p : List UInt8) (n : Int) (s : List UInt8) (h : sipErr p n = 0) (hn : n ≤ 4611686018427387904) (hs : s.length ≤ 140737488351232) : Spec Try.prog 69 [v.sp p n, .v (.string (mkS s))] (.tup [(absorb v (p ++ s)).1.sp (absorb v (p ++ s)).2 (n + s.length), .v (.int .i64 0)]) := by
  have hc := scheck_spec v p n
  rw [h] at hc
  obtain ⟨h0, h1, h7⟩ := sipErr_ok h
  have hw : IntKind.i64.wrap (n + (s.length : Nat)) = n + (s.length : Nat) := IntWalk.i64_in _ (by omega)
  refine hspec_fn Try.func69 rfl ok_sip_More okr_sip_More rfl (by kernel_rfl) ?_
  intro Γ hW0 hN0 hL0
  have hW := hW0 rfl
  clear hW0 hN0 hL0
  unfold x_sip_More r_sip_More
  repeat' (first
    | (with_reducible refine go_seq ?_)
    | (with_reducible refine go_region ?_)
    | (with_reducible refine go_regionD mixed_ok ?_)
    | (with_reducible refine go_cond ?_)
    | (with_reducible refine go_skip ?_)
    | (with_reducible refine go_block ?_)
    | (with_reducible refine nx_code ?_)
    | (with_reducible refine nx_block ?_)
    | (with_reducible refine go_ret ?_)
    | (with_reducible refine nx_nil ?_)
    | (with_reducible refine go_exit ?_)
    | (with_reducible refine ex_code ?_)
    | (with_reducible refine ex_loop ?_)
    | (with_reducible refine ex_here ?_)
    | ((with_reducible refine ex_past ?_ ?_); (exact by decide))
    | ((with_reducible refine endD_intro ?_ ?_); (exact by kernel_rfl))
    | ((with_reducible refine runR_n ?_ ?_); (solve | ((repeat' (first | exact trivial | exact rfl | apply And.intro)) <;> (first | exact rfl | (intro hq; cases hq; done) | decide | omega | (simp only [List.length_map, List.length_append, List.length_cons, List.length_nil, List.length_replicate]; done) | (simp only [room, maxLen, allOnes, oneV, List.length_map, List.length_append, List.length_cons, List.length_nil, List.length_replicate] at *; omega) | (simp only [decide_eq_true_eq, decide_eq_false_iff_not, Bool.not_eq_true', Bool.not_eq_false', Bool.and_eq_true, Bool.or_eq_true, Bool.and_eq_false_iff, Bool.or_eq_false_iff, Int.not_le, Int.not_lt, Decidable.not_not, ne_eq, not_true_eq_false, not_false_eq_true, decide_true, decide_false, Bool.not_true, Bool.not_false, Bool.false_eq_true, reduceCtorEq, List.length_map, beq_self_eq_true, Bool.and_true, Bool.true_and, Bool.false_and, Bool.and_false] at * <;> omega)))))
    | (first | (simp only [mkS_size, mkS_app, hw]) | (with_reducible refine runR_call hc ?_))
    | (dsimp only [run, undef, runR_ok, runR_t, runR_f, gd, gd2, skipR, ex1, pickR, boxR, loadR, loadO, storeR, storeO, nilR, fieldAR, fieldR, partOf, binR, intBin, unR, boolR, kindEq, shiftOp, onlyIf, orB, convR, extR, lenR, indexSlR, indexArrR, putE, updL, keysOf, lget, lset, evT, evs, Env.get, Env.set, N8.get, N8.set, env0, cellsD, oneD, oneV, andB, allOne, lenB, mapV, dget, ddrop, dtake, splice, xget, xset, partsD, partsOk, partsE, partsEOk, repl, elemsR, elemsO, xdrop, xtake, allOnes, appN, appOwn, appNew, appY, cellEq_i, cellEq_b, cellEq_s, consO, cmpAll, allB, negB, eqsO, eqsR, eqbR, minR, evO, bndO, keepB, snapCut, slCut, nilCut, sliceR, isS, isnilL, isnilX, isnilR, strBin, sbinR, slenR, strAtR, substrB, substrR, makeR, clearO, clearR, sliceW1, sliceW2, sliceW3, sliceWR, appWO, appWR, okByte, okBytes, b2sR, indexVR, isnilPR, chunk, sliceAR, s2bR, flat1, arrpR, exnR, appD, callvR, cond, condK_t, condK_f, argsE, slots0, List.length_cons, List.length_nil, Bool.true_or, Bool.false_or, Bool.or_true, Bool.or_false, bnf, bnt, Nat.add_zero, Nat.zero_add, Nat.reduceAdd, Nat.reduceMul, Int.reduceToNat, endS])
    | (with_reducible refine runR_b (fun h => ?_) (fun h => ?_) <;> first | (exfalso; (simp only [decide_eq_true_eq, decide_eq_false_iff_not, Bool.not_eq_true', Bool.not_eq_false', Bool.and_eq_true, Bool.or_eq_true, Bool.and_eq_false_iff, Bool.or_eq_false_iff, Int.not_le, Int.not_lt, Decidable.not_not, ne_eq, not_true_eq_false, not_false_eq_true, decide_true, decide_false, Bool.not_true, Bool.not_false, Bool.false_eq_true, reduceCtorEq, List.length_map, beq_self_eq_true, Bool.and_true, Bool.true_and, Bool.false_and, Bool.and_false] at * <;> omega); done) | simp only [h, runR_t, runR_f])
    | (with_reducible refine condK_bl ?_ ?_)
    | (with_reducible refine condK_b (fun h => ?_) (fun h => ?_) <;> first | (exfalso; (simp only [decide_eq_true_eq, decide_eq_false_iff_not, Bool.not_eq_true', Bool.not_eq_false', Bool.and_eq_true, Bool.or_eq_true, Bool.and_eq_false_iff, Bool.or_eq_false_iff, Int.not_le, Int.not_lt, Decidable.not_not, ne_eq, not_true_eq_false, not_false_eq_true, decide_true, decide_false, Bool.not_true, Bool.not_false, Bool.false_eq_true, reduceCtorEq, List.length_map, beq_self_eq_true, Bool.and_true, Bool.true_and, Bool.false_and, Bool.and_false] at * <;> omega); done) | skip)
    | (refine runR_n (by omega) ?_))
  (all_goals first | (exfalso; (try simp only [List.length_map] at *); first | omega | (simp only [decide_eq_true_eq, decide_eq_false_iff_not, Bool.not_eq_true', Bool.not_eq_false', Bool.and_eq_true, Bool.or_eq_true, Bool.and_eq_false_iff, Bool.or_eq_false_iff, Int.not_le, Int.not_lt, Decidable.not_not, ne_eq, not_true_eq_false, not_false_eq_true, decide_true, decide_false, Bool.not_true, Bool.not_false, Bool.false_eq_true, reduceCtorEq, List.length_map, beq_self_eq_true, Bool.and_true, Bool.true_and, Bool.false_and, Bool.and_false] at * <;> omega)) | skip)
  refine go_loopH (α := V4 × List UInt8) (fun x => [(⟨.d0, .d0, .d7⟩, .v (.string (mkS x.2)))]) (fun x => [(0, some ⟨Γ.g0, 6, [x.1.enc (mkS p) (n + (s.length : Nat))]⟩)]) (fun _ => Γ.g0 + 2) (fun x => x.2.length) (fun x => x.1.ok ∧ absorb v (p ++ s) = absorb x.1 x.2 ∧ x.2.length ≤ 140737488352232) (v, p ++ s) ⟨hv, rfl, by simp; omega⟩ ?_ ?_
  · skip
    refine le_mk ?_ ?_ (Nat.le_refl _)
    all_goals dsimp only [leE, leC, leR, leN, leD, leH, leO, writesX, dstsX, appS, havE, setsE, Env.get, Env.set, N8.get, N8.set, updL, lget, lset, env0]
    all_goals (repeat' (first | exact trivial | exact rfl | apply And.intro))
  rintro ⟨x, l⟩ ⟨hx, hab, hll⟩
  dsimp only at hx hab hll ⊢
  dsimp only [writesX, dstsX, appS, havE, setsE, Env.get, Env.set, N8.get, N8.set, updL, lget, lset, env0]
  by_cases hlt : 8 ≤ l.length
  · have hnu := number_spec (l.take 8) (by simp; omega)
    have htk := fun n1 => take_spec x hx (lsN (l.take 8) : Nat) (mkS p) (n + (s.length : Nat)) n1
    have e1 : (mkS l).extract (0 : Int).toNat (8 : Int).toNat = mkS (l.take 8) := by rw [mkS_ext]; rfl
    have e2 : (mkS l).extract (8 : Int).toNat ((l.length : Nat) : Int).toNat = mkS (l.drop 8) := by rw [mkS_ext, Int.toNat_natCast, List.take_of_length_le (by simp)]; rfl
    have e3 : (mkS l).extract 0 8 = mkS (l.take 8) := e1
    have e4 : (mkS l).extract 8 l.length = mkS (l.drop 8) := by rw [← e2]; rfl
    repeat' (first
      | (with_reducible refine go_seq ?_)
      | (with_reducible refine go_region ?_)
      | (with_reducible refine go_regionD mixed_ok ?_)
      | (with_reducible refine go_cond ?_)
      | (with_reducible refine go_skip ?_)
      | (with_reducible refine go_block ?_)
      | (with_reducible refine nx_code ?_)
      | (with_reducible refine nx_block ?_)
      | (with_reducible refine go_ret ?_)
      | (with_reducible refine nx_nil ?_)
      | (with_reducible refine go_exit ?_)
      | (with_reducible refine ex_code ?_)
      | (with_reducible refine ex_loop ?_)
      | (with_reducible refine ex_here ?_)
      | ((with_reducible refine ex_past ?_ ?_); (exact by decide))
      | ((with_reducible refine endD_intro ?_ ?_); (exact by kernel_rfl))
      | ((with_reducible refine runR_n ?_ ?_); (solve | ((repeat' (first | exact trivial | exact rfl | apply And.intro)) <;> (first | exact rfl | (intro hq; cases hq; done) | decide | omega | (simp only [List.length_map, List.length_append, List.length_cons, List.length_nil, List.length_replicate]; done) | (simp only [room, maxLen, allOnes, oneV, List.length_map, List.length_append, List.length_cons, List.length_nil, List.length_replicate] at *; omega) | (simp only [decide_eq_true_eq, decide_eq_false_iff_not, Bool.not_eq_true', Bool.not_eq_false', Bool.and_eq_true, Bool.or_eq_true, Bool.and_eq_false_iff, Bool.or_eq_false_iff, Int.not_le, Int.not_lt, Decidable.not_not, ne_eq, not_true_eq_false, not_false_eq_true, decide_true, decide_false, Bool.not_true, Bool.not_false, Bool.false_eq_true, reduceCtorEq, List.length_map, beq_self_eq_true, Bool.and_true, Bool.true_and, Bool.false_and, Bool.and_false] at * <;> omega)))))
      | (first | (simp only [mkS_size, e1, e2, e3, e4, Int.toNat_natCast]) | (with_reducible refine runR_call hnu ?_) | ((with_reducible refine runR_callH 0 ?_ (htk _) (fun _ _ _ h => h) ?_); (exact rfl)))
      | (dsimp only [run, undef, runR_ok, runR_t, runR_f, gd, gd2, skipR, ex1, pickR, boxR, loadR, loadO, storeR, storeO, nilR, fieldAR, fieldR, partOf, binR, intBin, unR, boolR, kindEq, shiftOp, onlyIf, orB, convR, extR, lenR, indexSlR, indexArrR, putE, updL, keysOf, lget, lset, evT, evs, Env.get, Env.set, N8.get, N8.set, env0, cellsD, oneD, oneV, andB, allOne, lenB, mapV, dget, ddrop, dtake, splice, xget, xset, partsD, partsOk, partsE, partsEOk, repl, elemsR, elemsO, xdrop, xtake, allOnes, appN, appOwn, appNew, appY, cellEq_i, cellEq_b, cellEq_s, consO, cmpAll, allB, negB, eqsO, eqsR, eqbR, minR, evO, bndO, keepB, snapCut, slCut, nilCut, sliceR, isS, isnilL, isnilX, isnilR, strBin, sbinR, slenR, strAtR, substrB, substrR, makeR, clearO, clearR, sliceW1, sliceW2, sliceW3, sliceWR, appWO, appWR, okByte, okBytes, b2sR, indexVR, isnilPR, chunk, sliceAR, s2bR, flat1, arrpR, exnR, appD, callvR, cond, condK_t, condK_f, argsE, slots0, List.length_cons, List.length_nil, Bool.true_or, Bool.false_or, Bool.or_true, Bool.or_false, bnf, bnt, Nat.add_zero, Nat.zero_add, Nat.reduceAdd, Nat.reduceMul, Int.reduceToNat, endS])
      | (with_reducible refine runR_b (fun h => ?_) (fun h => ?_) <;> first | (exfalso; (simp only [decide_eq_true_eq, decide_eq_false_iff_not, Bool.not_eq_true', Bool.not_eq_false', Bool.and_eq_true, Bool.or_eq_true, Bool.and_eq_false_iff, Bool.or_eq_false_iff, Int.not_le, Int.not_lt, Decidable.not_not, ne_eq, not_true_eq_false, not_false_eq_true, decide_true, decide_false, Bool.not_true, Bool.not_false, Bool.false_eq_true, reduceCtorEq, List.length_map, beq_self_eq_true, Bool.and_true, Bool.true_and, Bool.false_and, Bool.and_false] at * <;> omega); done) | simp only [h, runR_t, runR_f])
      | (with_reducible refine condK_bl ?_ ?_)
      | (with_reducible refine condK_b (fun h => ?_) (fun h => ?_) <;> first | (exfalso; (simp only [decide_eq_true_eq, decide_eq_false_iff_not, Bool.not_eq_true', Bool.not_eq_false', Bool.and_eq_true, Bool.or_eq_true, Bool.and_eq_false_iff, Bool.or_eq_false_iff, Int.not_le, Int.not_lt, Decidable.not_not, ne_eq, not_true_eq_false, not_false_eq_true, decide_true, decide_false, Bool.not_true, Bool.not_false, Bool.false_eq_true, reduceCtorEq, List.length_map, beq_self_eq_true, Bool.and_true, Bool.true_and, Bool.false_and, Bool.and_false] at * <;> omega); done) | skip)
      | fail)
    (all_goals first | (exfalso; (try simp only [List.length_map] at *); first | omega | (simp only [decide_eq_true_eq, decide_eq_false_iff_not, Bool.not_eq_true', Bool.not_eq_false', Bool.and_eq_true, Bool.or_eq_true, Bool.and_eq_false_iff, Bool.or_eq_false_iff, Int.not_le, Int.not_lt, Decidable.not_not, ne_eq, not_true_eq_false, not_false_eq_true, decide_true, decide_false, Bool.not_true, Bool.not_false, Bool.false_eq_true, reduceCtorEq, List.length_map, beq_self_eq_true, Bool.and_true, Bool.true_and, Bool.false_and, Bool.and_false] at * <;> omega)) | skip)
    refine nx_loop ⟨(stake x (lsN (l.take 8) : Nat), l.drop 8), ⟨stake_ok hx _, by rw [hab, absorb_big hlt], by simp; omega⟩, by simp; omega, ?_⟩
    refine le_mk ?_ ?_ (Nat.le_refl _)
    all_goals dsimp only [leE, leC, leR, leN, leD, leH, leO, writesX, dstsX, appS, havE, setsE, Env.get, Env.set, N8.get, N8.set, updL, lget, lset, env0]
    all_goals (repeat' (first | exact trivial | exact rfl | apply And.intro))
  · have hab2 : absorb v (p ++ s) = (x, l) := by rw [hab, absorb_small hlt]
    rw [hab2]
    repeat' (first
      | (with_reducible refine go_seq ?_)
      | (with_reducible refine go_region ?_)
      | (with_reducible refine go_regionD mixed_ok ?_)
      | (with_reducible refine go_cond ?_)
      | (with_reducible refine go_skip ?_)
      | (with_reducible refine go_block ?_)
      | (with_reducible refine nx_code ?_)
      | (with_reducible refine nx_block ?_)
      | (with_reducible refine go_ret ?_)
      | (with_reducible refine nx_nil ?_)
      | (with_reducible refine go_exit ?_)
      | (with_reducible refine ex_code ?_)
      | (with_reducible refine ex_loop ?_)
      | (with_reducible refine ex_here ?_)
      | ((with_reducible refine ex_past ?_ ?_); (exact by decide))
      | ((with_reducible refine endD_intro ?_ ?_); (exact by kernel_rfl))
      | ((with_reducible refine runR_n ?_ ?_); (solve | ((repeat' (first | exact trivial | exact rfl | apply And.intro)) <;> (first | exact rfl | (intro hq; cases hq; done) | decide | omega | (simp only [List.length_map, List.length_append, List.length_cons, List.length_nil, List.length_replicate]; done) | (simp only [room, maxLen, allOnes, oneV, List.length_map, List.length_append, List.length_cons, List.length_nil, List.length_replicate] at *; omega) | (simp only [decide_eq_true_eq, decide_eq_false_iff_not, Bool.not_eq_true', Bool.not_eq_false', Bool.and_eq_true, Bool.or_eq_true, Bool.and_eq_false_iff, Bool.or_eq_false_iff, Int.not_le, Int.not_lt, Decidable.not_not, ne_eq, not_true_eq_false, not_false_eq_true, decide_true, decide_false, Bool.not_true, Bool.not_false, Bool.false_eq_true, reduceCtorEq, List.length_map, beq_self_eq_true, Bool.and_true, Bool.true_and, Bool.false_and, Bool.and_false] at * <;> omega)))))
      | (simp only [mkS_size])
      | (dsimp only [run, undef, runR_ok, runR_t, runR_f, gd, gd2, skipR, ex1, pickR, boxR, loadR, loadO, storeR, storeO, nilR, fieldAR, fieldR, partOf, binR, intBin, unR, boolR, kindEq, shiftOp, onlyIf, orB, convR, extR, lenR, indexSlR, indexArrR, putE, updL, keysOf, lget, lset, evT, evs, Env.get, Env.set, N8.get, N8.set, env0, cellsD, oneD, oneV, andB, allOne, lenB, mapV, dget, ddrop, dtake, splice, xget, xset, partsD, partsOk, partsE, partsEOk, repl, elemsR, elemsO, xdrop, xtake, allOnes, appN, appOwn, appNew, appY, cellEq_i, cellEq_b, cellEq_s, consO, cmpAll, allB, negB, eqsO, eqsR, eqbR, minR, evO, bndO, keepB, snapCut, slCut, nilCut, sliceR, isS, isnilL, isnilX, isnilR, strBin, sbinR, slenR, strAtR, substrB, substrR, makeR, clearO, clearR, sliceW1, sliceW2, sliceW3, sliceWR, appWO, appWR, okByte, okBytes, b2sR, indexVR, isnilPR, chunk, sliceAR, s2bR, flat1, arrpR, exnR, appD, callvR, cond, condK_t, condK_f, argsE, slots0, List.length_cons, List.length_nil, Bool.true_or, Bool.false_or, Bool.or_true, Bool.or_false, bnf, bnt, Nat.add_zero, Nat.zero_add, Nat.reduceAdd, Nat.reduceMul, Int.reduceToNat, endS])
      | (with_reducible refine runR_b (fun h => ?_) (fun h => ?_) <;> first | (exfalso; (simp only [decide_eq_true_eq, decide_eq_false_iff_not, Bool.not_eq_true', Bool.not_eq_false', Bool.and_eq_true, Bool.or_eq_true, Bool.and_eq_false_iff, Bool.or_eq_false_iff, Int.not_le, Int.not_lt, Decidable.not_not, ne_eq, not_true_eq_false, not_false_eq_true, decide_true, decide_false, Bool.not_true, Bool.not_false, Bool.false_eq_true, reduceCtorEq, List.length_map, beq_self_eq_true, Bool.and_true, Bool.true_and, Bool.false_and, Bool.and_false] at * <;> omega); done) | simp only [h, runR_t, runR_f])
      | (with_reducible refine condK_bl ?_ ?_)
      | (with_reducible refine condK_b (fun h => ?_) (fun h => ?_) <;> first | (exfalso; (simp only [decide_eq_true_eq, decide_eq_false_iff_not, Bool.not_eq_true', Bool.not_eq_false', Bool.and_eq_true, Bool.or_eq_true, Bool.and_eq_false_iff, Bool.or_eq_false_iff, Int.not_le, Int.not_lt, Decidable.not_not, ne_eq, not_true_eq_false, not_false_eq_true, decide_true, decide_false, Bool.not_true, Bool.not_false, Bool.false_eq_true, reduceCtorEq, List.length_map, beq_self_eq_true, Bool.and_true, Bool.true_and, Bool.false_and, Bool.and_false] at * <;> omega); done) | skip)
      | fail)
    (all_goals first | (exfalso; (try simp only [List.length_map] at *); first | omega | (simp only [decide_eq_true_eq, decide_eq_false_iff_not, Bool.not_eq_true', Bool.not_eq_false', Bool.and_eq_true, Bool.or_eq_true, Bool.and_eq_false_iff, Bool.or_eq_false_iff, Int.not_le, Int.not_lt, Decidable.not_not, ne_eq, not_true_eq_false, not_false_eq_true, decide_true, decide_false, Bool.not_true, Bool.not_false, Bool.false_eq_true, reduceCtorEq, List.length_map, beq_self_eq_true, Bool.and_true, Bool.true_and, Bool.false_and, Bool.and_false] at * <;> omega)) | skip)
    all_goals with_reducible refine ret_spec (by (try dsimp only [RetOK, resOk, resDs, resD, resV, cellV, cellO, cellP, cellOk, htake, nfD, nfL, nfLL, nfH, lget, partOf, xget, ddrop, dtake, dget, Env.get, N8.get, env0, List.length_cons, List.length_nil, Env.set, N8.set, lset, updL]); (repeat' (first | exact trivial | exact rfl | decide | apply And.intro))) (by (try dsimp only [RetOK, resOk, resDs, resD, resV, cellV, cellO, cellP, cellOk, htake, nfD, nfL, nfLL, nfH, lget, partOf, xget, ddrop, dtake, dget, Env.get, N8.get, env0, List.length_cons, List.length_nil, Env.set, N8.set, lset, updL]); (repeat' (first | exact trivial | exact nfLL_map (fun x => by simp [nfL, nfD, nfD, nfL]) | apply And.intro))) ?_
    all_goals (try dsimp only [RetOK, resOk, resDs, resD, resV, cellV, cellO, cellP, cellOk, htake, nfD, nfL, nfLL, nfH, lget, partOf, xget, ddrop, dtake, dget, Env.get, N8.get, env0, List.length_cons, List.length_nil, Env.set, N8.set, lset, updL])
    all_goals (try simp only [decide_eq_true_eq, decide_eq_false_iff_not, Bool.not_eq_true', Bool.not_eq_false', Bool.and_eq_true, Bool.or_eq_true, Bool.and_eq_false_iff, Bool.or_eq_false_iff] at *)
set_option maxHeartbeats 1000000 in
theorem smore_ok (v : V4) (hv : v.ok) (p : List UInt8) (n : Int) (s : List UInt8) (h : sipErr p n = 0) (hn : n ≤ 4611686018427387904) (hs : s.length ≤ 140737488351232) : Spec Try.prog 72 [v.sp p n, .v (.string (mkS s))] (.tup [(absorb v (p ++ s)).1.sp (absorb v (p ++ s)).2 (n + s.length), .v (.int .i64 0)]) := by
  have hc := sright_spec v p n
  rw [h] at hc
  obtain ⟨h0, h1, h7⟩ := sipErr_ok h
  refine hspec_fn Try.func72 rfl ok_custref_SipMore okr_custref_SipMore rfl (by kernel_rfl) ?_
  intro Γ hW0 hN0 hL0
  have hW := hW0 rfl
  clear hW0 hN0 hL0
  unfold x_custref_SipMore r_custref_SipMore
  repeat' (first
    | (with_reducible refine go_seq ?_)
    | (with_reducible refine go_region ?_)
    | (with_reducible refine go_regionD mixed_ok ?_)
    | (with_reducible refine go_cond ?_)
    | (with_reducible refine go_skip ?_)
    | (with_reducible refine go_block ?_)
    | (with_reducible refine nx_code ?_)
    | (with_reducible refine nx_block ?_)
    | (with_reducible refine go_ret ?_)
    | (with_reducible refine nx_nil ?_)
    | (with_reducible refine go_exit ?_)
    | (with_reducible refine ex_code ?_)
    | (with_reducible refine ex_loop ?_)
    | (with_reducible refine ex_here ?_)
    | ((with_reducible refine ex_past ?_ ?_); (exact by decide))
    | ((with_reducible refine endD_intro ?_ ?_); (exact by kernel_rfl))
    | ((with_reducible refine runR_n ?_ ?_); (solve | ((repeat' (first | exact trivial | exact rfl | apply And.intro)) <;> (first | exact rfl | (intro hq; cases hq; done) | decide | omega | (simp only [List.length_map, List.length_append, List.length_cons, List.length_nil, List.length_replicate]; done) | (simp only [room, maxLen, allOnes, oneV, List.length_map, List.length_append, List.length_cons, List.length_nil, List.length_replicate] at *; omega) | (simp only [decide_eq_true_eq, decide_eq_false_iff_not, Bool.not_eq_true', Bool.not_eq_false', Bool.and_eq_true, Bool.or_eq_true, Bool.and_eq_false_iff, Bool.or_eq_false_iff, Int.not_le, Int.not_lt, Decidable.not_not, ne_eq, not_true_eq_false, not_false_eq_true, decide_true, decide_false, Bool.not_true, Bool.not_false, Bool.false_eq_true, reduceCtorEq, List.length_map, beq_self_eq_true, Bool.and_true, Bool.true_and, Bool.false_and, Bool.and_false] at * <;> omega)))))
    | (first | (simp only [mkS_size]) | (with_reducible refine runR_call hc ?_))
    | (dsimp only [run, undef, runR_ok, runR_t, runR_f, gd, gd2, skipR, ex1, pickR, boxR, loadR, loadO, storeR, storeO, nilR, fieldAR, fieldR, partOf, binR, intBin, unR, boolR, kindEq, shiftOp, onlyIf, orB, convR, extR, lenR, indexSlR, indexArrR, putE, updL, keysOf, lget, lset, evT, evs, Env.get, Env.set, N8.get, N8.set, env0, cellsD, oneD, oneV, andB, allOne, lenB, mapV, dget, ddrop, dtake, splice, xget, xset, partsD, partsOk, partsE, partsEOk, repl, elemsR, elemsO, xdrop, xtake, allOnes, appN, appOwn, appNew, appY, cellEq_i, cellEq_b, cellEq_s, consO, cmpAll, allB, negB, eqsO, eqsR, eqbR, minR, evO, bndO, keepB, snapCut, slCut, nilCut, sliceR, isS, isnilL, isnilX, isnilR, strBin, sbinR, slenR, strAtR, substrB, substrR, makeR, clearO, clearR, sliceW1, sliceW2, sliceW3, sliceWR, appWO, appWR, okByte, okBytes, b2sR, indexVR, isnilPR, chunk, sliceAR, s2bR, flat1, arrpR, exnR, appD, callvR, cond, condK_t, condK_f, argsE, slots0, List.length_cons, List.length_nil, Bool.true_or, Bool.false_or, Bool.or_true, Bool.or_false, bnf, bnt, Nat.add_zero, Nat.zero_add, Nat.reduceAdd, Nat.reduceMul, Int.reduceToNat, endS])
    | (with_reducible refine runR_b (fun h => ?_) (fun h => ?_) <;> first | (exfalso; (simp only [decide_eq_true_eq, decide_eq_false_iff_not, Bool.not_eq_true', Bool.not_eq_false', Bool.and_eq_true, Bool.or_eq_true, Bool.and_eq_false_iff, Bool.or_eq_false_iff, Int.not_le, Int.not_lt, Decidable.not_not, ne_eq, not_true_eq_false, not_false_eq_true, decide_true, decide_false, Bool.not_true, Bool.not_false, Bool.false_eq_true, reduceCtorEq, List.length_map, beq_self_eq_true, Bool.and_true, Bool.true_and, Bool.false_and, Bool.and_false] at * <;> omega); done) | simp only [h, runR_t, runR_f])
    | (with_reducible refine condK_bl ?_ ?_)
    | (with_reducible refine condK_b (fun h => ?_) (fun h => ?_) <;> first | (exfalso; (simp only [decide_eq_true_eq, decide_eq_false_iff_not, Bool.not_eq_true', Bool.not_eq_false', Bool.and_eq_true, Bool.or_eq_true, Bool.and_eq_false_iff, Bool.or_eq_false_iff, Int.not_le, Int.not_lt, Decidable.not_not, ne_eq, not_true_eq_false, not_false_eq_true, decide_true, decide_false, Bool.not_true, Bool.not_false, Bool.false_eq_true, reduceCtorEq, List.length_map, beq_self_eq_true, Bool.and_true, Bool.true_and, Bool.false_and, Bool.and_false] at * <;> omega); done) | skip)
    | fail)
  (all_goals first | (exfalso; (try simp only [List.length_map] at *); first | omega | (simp only [decide_eq_true_eq, decide_eq_false_iff_not, Bool.not_eq_true', Bool.not_eq_false', Bool.and_eq_true, Bool.or_eq_true, Bool.and_eq_false_iff, Bool.or_eq_false_iff, Int.not_le, Int.not_lt, Decidable.not_not, ne_eq, not_true_eq_false, not_false_eq_true, decide_true, decide_false, Bool.not_true, Bool.not_false, Bool.false_eq_true, reduceCtorEq, List.length_map, beq_self_eq_true, Bool.and_true, Bool.true_and, Bool.false_and, Bool.and_false] at * <;> omega)) | skip)
  refine go_loopH (α := Nat) (fun i => [(⟨.d0, .d2, .d0⟩, .v (.int .i64 (i : Nat)))]) (fun i => [(0, some ⟨Γ.g0, 6, [(absorb v (p ++ s.take i)).1.enc (mkS (absorb v (p ++ s.take i)).2) (n + (i : Nat))]⟩)]) (fun _ => Γ.g0 + 2) (fun i => s.length - i) (fun i => i ≤ s.length) 0 (Nat.zero_le _) ?_ ?_
  · have e0 : absorb v (p ++ s.take 0) = (v, p) := by rw [List.take_zero, List.append_nil, absorb_small (by omega)]
    refine le_mk ?_ ?_ (Nat.le_refl _)
    all_goals dsimp only [leE, leC, leR, leN, leD, leH, leO, writesX, dstsX, appS, havE, setsE, Env.get, Env.set, N8.get, N8.set, updL, lget, lset, env0]
    all_goals (repeat' (first | exact trivial | exact rfl | apply And.intro))
    all_goals (rw [e0]; simp)
  intro i hi
  dsimp only at hi ⊢
  dsimp only [writesX, dstsX, appS, havE, setsE, Env.get, Env.set, N8.get, N8.set, updL, lget, lset, env0]
  by_cases hlt : i < s.length
  · obtain ⟨b, hb⟩ : ∃ b, s[i]? = some b := ⟨_, List.getElem?_eq_getElem hlt⟩
    have hsn := absorb_snoc b (p ++ s.take i).length v (p ++ s.take i) (Nat.le_refl _)
    have hrest := absorb_rest (p ++ s.take i).length v (p ++ s.take i) (Nat.le_refl _)
    have hok := absorb_ok (p ++ s.take i).length v (p ++ s.take i) (Nat.le_refl _) hv
    rw [List.append_assoc, ← take_snoc hb] at hsn
    generalize absorb v (p ++ s.take i) = A at *
    obtain ⟨w, r⟩ := A
    dsimp only at hsn hrest hok ⊢
    have hw : IntKind.i64.wrap ((i : Int) + 1) = ((i + 1 : Nat) : Int) := by rw [IntWalk.i64_in _ (by omega)]; omega
    have hw2 : IntKind.i64.wrap (n + (i : Nat) + 1) = n + ((i + 1 : Nat) : Int) := by rw [IntWalk.i64_in _ (by omega)]; omega
    have e1 : (mkS s).extract i (i + 1) = mkS [b] := by rw [mkS_ext, List.drop_eq_getElem_cons hlt, show i + 1 - i = 1 by omega, show s[i] = b from Option.some.inj ((List.getElem?_eq_getElem hlt).symm.trans hb)]; rfl
    have hlr : (r ++ [b]).length = r.length + 1 := by simp
    by_cases h8 : r.length + 1 = 8
    · rw [if_pos h8] at hsn
      have h8' : ((r.length + 1 : Nat) : Int) = 8 := by omega
      have hei := eight_spec (r ++ [b]) (by simp; omega)
      have hst := stake_spec w hok (lsN (r ++ [b]) : Nat)
      repeat' (first
        | (with_reducible refine go_seq ?_)
        | (with_reducible refine go_region ?_)
        | (with_reducible refine go_regionD mixed_ok ?_)
        | (with_reducible refine go_cond ?_)
        | (with_reducible refine go_skip ?_)
        | (with_reducible refine go_block ?_)
        | (with_reducible refine nx_code ?_)
        | (with_reducible refine nx_block ?_)
        | (with_reducible refine go_ret ?_)
        | (with_reducible refine nx_nil ?_)
        | (with_reducible refine go_exit ?_)
        | (with_reducible refine ex_code ?_)
        | (with_reducible refine ex_loop ?_)
        | (with_reducible refine ex_here ?_)
        | ((with_reducible refine ex_past ?_ ?_); (exact by decide))
        | ((with_reducible refine endD_intro ?_ ?_); (exact by kernel_rfl))
        | ((with_reducible refine runR_n ?_ ?_); (solve | ((repeat' (first | exact trivial | exact rfl | apply And.intro)) <;> (first | exact rfl | (intro hq; cases hq; done) | decide | omega | (simp only [List.length_map, List.length_append, List.length_cons, List.length_nil, List.length_replicate]; done) | (simp only [room, maxLen, allOnes, oneV, List.length_map, List.length_append, List.length_cons, List.length_nil, List.length_replicate] at *; omega) | (simp only [decide_eq_true_eq, decide_eq_false_iff_not, Bool.not_eq_true', Bool.not_eq_false', Bool.and_eq_true, Bool.or_eq_true, Bool.and_eq_false_iff, Bool.or_eq_false_iff, Int.not_le, Int.not_lt, Decidable.not_not, ne_eq, not_true_eq_false, not_false_eq_true, decide_true, decide_false, Bool.not_true, Bool.not_false, Bool.false_eq_true, reduceCtorEq, List.length_map, beq_self_eq_true, Bool.and_true, Bool.true_and, Bool.false_and, Bool.and_false] at * <;> omega)))))
        | (first | (simp only [mkS_size, mkS_app, e1, hw, hw2, hlr, h8', Int.toNat_natCast]) | (with_reducible refine runR_call hei ?_) | (with_reducible refine runR_call hst ?_))
        | (dsimp only [run, undef, runR_ok, runR_t, runR_f, gd, gd2, skipR, ex1, pickR, boxR, loadR, loadO, storeR, storeO, nilR, fieldAR, fieldR, partOf, binR, intBin, unR, boolR, kindEq, shiftOp, onlyIf, orB, convR, extR, lenR, indexSlR, indexArrR, putE, updL, keysOf, lget, lset, evT, evs, Env.get, Env.set, N8.get, N8.set, env0, cellsD, oneD, oneV, andB, allOne, lenB, mapV, dget, ddrop, dtake, splice, xget, xset, partsD, partsOk, partsE, partsEOk, repl, elemsR, elemsO, xdrop, xtake, allOnes, appN, appOwn, appNew, appY, cellEq_i, cellEq_b, cellEq_s, consO, cmpAll, allB, negB, eqsO, eqsR, eqbR, minR, evO, bndO, keepB, snapCut, slCut, nilCut, sliceR, isS, isnilL, isnilX, isnilR, strBin, sbinR, slenR, strAtR, substrB, substrR, makeR, clearO, clearR, sliceW1, sliceW2, sliceW3, sliceWR, appWO, appWR, okByte, okBytes, b2sR, indexVR, isnilPR, chunk, sliceAR, s2bR, flat1, arrpR, exnR, appD, callvR, cond, condK_t, condK_f, argsE, slots0, List.length_cons, List.length_nil, Bool.true_or, Bool.false_or, Bool.or_true, Bool.or_false, bnf, bnt, Nat.add_zero, Nat.zero_add, Nat.reduceAdd, Nat.reduceMul, Int.reduceToNat, endS])
        | (with_reducible refine runR_b (fun h => ?_) (fun h => ?_) <;> first | (exfalso; (simp only [decide_eq_true_eq, decide_eq_false_iff_not, Bool.not_eq_true', Bool.not_eq_false', Bool.and_eq_true, Bool.or_eq_true, Bool.and_eq_false_iff, Bool.or_eq_false_iff, Int.not_le, Int.not_lt, Decidable.not_not, ne_eq, not_true_eq_false, not_false_eq_true, decide_true, decide_false, Bool.not_true, Bool.not_false, Bool.false_eq_true, reduceCtorEq, List.length_map, beq_self_eq_true, Bool.and_true, Bool.true_and, Bool.false_and, Bool.and_false] at * <;> omega); done) | simp only [h, runR_t, runR_f])
        | (with_reducible refine condK_bl ?_ ?_)
        | (with_reducible refine condK_b (fun h => ?_) (fun h => ?_) <;> first | (exfalso; (simp only [decide_eq_true_eq, decide_eq_false_iff_not, Bool.not_eq_true', Bool.not_eq_false', Bool.and_eq_true, Bool.or_eq_true, Bool.and_eq_false_iff, Bool.or_eq_false_iff, Int.not_le, Int.not_lt, Decidable.not_not, ne_eq, not_true_eq_false, not_false_eq_true, decide_true, decide_false, Bool.not_true, Bool.not_false, Bool.false_eq_true, reduceCtorEq, List.length_map, beq_self_eq_true, Bool.and_true, Bool.true_and, Bool.false_and, Bool.and_false] at * <;> omega); done) | skip)
        | (refine runR_n (by rw [List.length_singleton]; omega) ?_))
      (all_goals first | (exfalso; (try simp only [List.length_map] at *); first | omega | (simp only [decide_eq_true_eq, decide_eq_false_iff_not, Bool.not_eq_true', Bool.not_eq_false', Bool.and_eq_true, Bool.or_eq_true, Bool.and_eq_false_iff, Bool.or_eq_false_iff, Int.not_le, Int.not_lt, Decidable.not_not, ne_eq, not_true_eq_false, not_false_eq_true, decide_true, decide_false, Bool.not_true, Bool.not_false, Bool.false_eq_true, reduceCtorEq, List.length_map, beq_self_eq_true, Bool.and_true, Bool.true_and, Bool.false_and, Bool.and_false] at * <;> omega)) | skip)
      refine nx_loop ⟨i + 1, hlt, by omega, ?_⟩
      refine le_mk ?_ ?_ (Nat.le_refl _)
      all_goals dsimp only [leE, leC, leR, leN, leD, leH, leO, writesX, dstsX, appS, havE, setsE, Env.get, Env.set, N8.get, N8.set, updL, lget, lset, env0]
      all_goals (repeat' (first | exact trivial | exact rfl | apply And.intro))
      all_goals (first | (rw [hsn]; done) | (rw [hsn]; rfl))
    · rw [if_neg h8] at hsn
      have h8' : ¬ ((r.length + 1 : Nat) : Int) = 8 := by omega
      repeat' (first
        | (with_reducible refine go_seq ?_)
        | (with_reducible refine go_region ?_)
        | (with_reducible refine go_regionD mixed_ok ?_)
        | (with_reducible refine go_cond ?_)
        | (with_reducible refine go_skip ?_)
        | (with_reducible refine go_block ?_)
        | (with_reducible refine nx_code ?_)
        | (with_reducible refine nx_block ?_)
        | (with_reducible refine go_ret ?_)
        | (with_reducible refine nx_nil ?_)
        | (with_reducible refine go_exit ?_)
        | (with_reducible refine ex_code ?_)
        | (with_reducible refine ex_loop ?_)
        | (with_reducible refine ex_here ?_)
        | ((with_reducible refine ex_past ?_ ?_); (exact by decide))
        | ((with_reducible refine endD_intro ?_ ?_); (exact by kernel_rfl))
        | ((with_reducible refine runR_n ?_ ?_); (solve | ((repeat' (first | exact trivial | exact rfl | apply And.intro)) <;> (first | exact rfl | (intro hq; cases hq; done) | decide | omega | (simp only [List.length_map, List.length_append, List.length_cons, List.length_nil, List.length_replicate]; done) | (simp only [room, maxLen, allOnes, oneV, List.length_map, List.length_append, List.length_cons, List.length_nil, List.length_replicate] at *; omega) | (simp only [decide_eq_true_eq, decide_eq_false_iff_not, Bool.not_eq_true', Bool.not_eq_false', Bool.and_eq_true, Bool.or_eq_true, Bool.and_eq_false_iff, Bool.or_eq_false_iff, Int.not_le, Int.not_lt, Decidable.not_not, ne_eq, not_true_eq_false, not_false_eq_true, decide_true, decide_false, Bool.not_true, Bool.not_false, Bool.false_eq_true, reduceCtorEq, List.length_map, beq_self_eq_true, Bool.and_true, Bool.true_and, Bool.false_and, Bool.and_false] at * <;> omega)))))
        | (first | (simp only [mkS_size, mkS_app, e1, hw, hw2, hlr, Int.toNat_natCast]))
        | (dsimp only [run, undef, runR_ok, runR_t, runR_f, gd, gd2, skipR, ex1, pickR, boxR, loadR, loadO, storeR, storeO, nilR, fieldAR, fieldR, partOf, binR, intBin, unR, boolR, kindEq, shiftOp, onlyIf, orB, convR, extR, lenR, indexSlR, indexArrR, putE, updL, keysOf, lget, lset, evT, evs, Env.get, Env.set, N8.get, N8.set, env0, cellsD, oneD, oneV, andB, allOne, lenB, mapV, dget, ddrop, dtake, splice, xget, xset, partsD, partsOk, partsE, partsEOk, repl, elemsR, elemsO, xdrop, xtake, allOnes, appN, appOwn, appNew, appY, cellEq_i, cellEq_b, cellEq_s, consO, cmpAll, allB, negB, eqsO, eqsR, eqbR, minR, evO, bndO, keepB, snapCut, slCut, nilCut, sliceR, isS, isnilL, isnilX, isnilR, strBin, sbinR, slenR, strAtR, substrB, substrR, makeR, clearO, clearR, sliceW1, sliceW2, sliceW3, sliceWR, appWO, appWR, okByte, okBytes, b2sR, indexVR, isnilPR, chunk, sliceAR, s2bR, flat1, arrpR, exnR, appD, callvR, cond, condK_t, condK_f, argsE, slots0, List.length_cons, List.length_nil, Bool.true_or, Bool.false_or, Bool.or_true, Bool.or_false, bnf, bnt, Nat.add_zero, Nat.zero_add, Nat.reduceAdd, Nat.reduceMul, Int.reduceToNat, endS])
        | (with_reducible refine runR_b (fun h => ?_) (fun h => ?_) <;> first | (exfalso; (simp only [decide_eq_true_eq, decide_eq_false_iff_not, Bool.not_eq_true', Bool.not_eq_false', Bool.and_eq_true, Bool.or_eq_true, Bool.and_eq_false_iff, Bool.or_eq_false_iff, Int.not_le, Int.not_lt, Decidable.not_not, ne_eq, not_true_eq_false, not_false_eq_true, decide_true, decide_false, Bool.not_true, Bool.not_false, Bool.false_eq_true, reduceCtorEq, List.length_map, beq_self_eq_true, Bool.and_true, Bool.true_and, Bool.false_and, Bool.and_false] at * <;> omega); done) | simp only [h, runR_t, runR_f])
        | (with_reducible refine condK_bl ?_ ?_)
        | (with_reducible refine condK_b (fun h => ?_) (fun h => ?_) <;> first | (exfalso; (simp only [decide_eq_true_eq, decide_eq_false_iff_not, Bool.not_eq_true', Bool.not_eq_false', Bool.and_eq_true, Bool.or_eq_true, Bool.and_eq_false_iff, Bool.or_eq_false_iff, Int.not_le, Int.not_lt, Decidable.not_not, ne_eq, not_true_eq_false, not_false_eq_true, decide_true, decide_false, Bool.not_true, Bool.not_false, Bool.false_eq_true, reduceCtorEq, List.length_map, beq_self_eq_true, Bool.and_true, Bool.true_and, Bool.false_and, Bool.and_false] at * <;> omega); done) | skip)
        | (refine runR_n (by rw [List.length_singleton]; omega) ?_))
      (all_goals first | (exfalso; (try simp only [List.length_map] at *); first | omega | (simp only [decide_eq_true_eq, decide_eq_false_iff_not, Bool.not_eq_true', Bool.not_eq_false', Bool.and_eq_true, Bool.or_eq_true, Bool.and_eq_false_iff, Bool.or_eq_false_iff, Int.not_le, Int.not_lt, Decidable.not_not, ne_eq, not_true_eq_false, not_false_eq_true, decide_true, decide_false, Bool.not_true, Bool.not_false, Bool.false_eq_true, reduceCtorEq, List.length_map, beq_self_eq_true, Bool.and_true, Bool.true_and, Bool.false_and, Bool.and_false] at * <;> omega)) | skip)
      refine nx_loop ⟨i + 1, hlt, by omega, ?_⟩
      refine le_mk ?_ ?_ (Nat.le_refl _)
      all_goals dsimp only [leE, leC, leR, leN, leD, leH, leO, writesX, dstsX, appS, havE, setsE, Env.get, Env.set, N8.get, N8.set, updL, lget, lset, env0]
      all_goals (repeat' (first | exact trivial | exact rfl | apply And.intro))
      all_goals (first | (rw [hsn]; done) | (rw [hsn]; rfl))
  · obtain rfl : i = s.length := by omega
    rw [List.take_length]
    repeat' (first
      | (with_reducible refine go_seq ?_)
      | (with_reducible refine go_region ?_)
      | (with_reducible refine go_regionD mixed_ok ?_)
      | (with_reducible refine go_cond ?_)
      | (with_reducible refine go_skip ?_)
      | (with_reducible refine go_block ?_)
      | (with_reducible refine nx_code ?_)
      | (with_reducible refine nx_block ?_)
      | (with_reducible refine go_ret ?_)
      | (with_reducible refine nx_nil ?_)
      | (with_reducible refine go_exit ?_)
      | (with_reducible refine ex_code ?_)
      | (with_reducible refine ex_loop ?_)
      | (with_reducible refine ex_here ?_)
      | ((with_reducible refine ex_past ?_ ?_); (exact by decide))
      | ((with_reducible refine endD_intro ?_ ?_); (exact by kernel_rfl))
      | ((with_reducible refine runR_n ?_ ?_); (solve | ((repeat' (first | exact trivial | exact rfl | apply And.intro)) <;> (first | exact rfl | (intro hq; cases hq; done) | decide | omega | (simp only [List.length_map, List.length_append, List.length_cons, List.length_nil, List.length_replicate]; done) | (simp only [room, maxLen, allOnes, oneV, List.length_map, List.length_append, List.length_cons, List.length_nil, List.length_replicate] at *; omega) | (simp only [decide_eq_true_eq, decide_eq_false_iff_not, Bool.not_eq_true', Bool.not_eq_false', Bool.and_eq_true, Bool.or_eq_true, Bool.and_eq_false_iff, Bool.or_eq_false_iff, Int.not_le, Int.not_lt, Decidable.not_not, ne_eq, not_true_eq_false, not_false_eq_true, decide_true, decide_false, Bool.not_true, Bool.not_false, Bool.false_eq_true, reduceCtorEq, List.length_map, beq_self_eq_true, Bool.and_true, Bool.true_and, Bool.false_and, Bool.and_false] at * <;> omega)))))
      | fail
      | (dsimp only [run, undef, runR_ok, runR_t, runR_f, gd, gd2, skipR, ex1, pickR, boxR, loadR, loadO, storeR, storeO, nilR, fieldAR, fieldR, partOf, binR, intBin, unR, boolR, kindEq, shiftOp, onlyIf, orB, convR, extR, lenR, indexSlR, indexArrR, putE, updL, keysOf, lget, lset, evT, evs, Env.get, Env.set, N8.get, N8.set, env0, cellsD, oneD, oneV, andB, allOne, lenB, mapV, dget, ddrop, dtake, splice, xget, xset, partsD, partsOk, partsE, partsEOk, repl, elemsR, elemsO, xdrop, xtake, allOnes, appN, appOwn, appNew, appY, cellEq_i, cellEq_b, cellEq_s, consO, cmpAll, allB, negB, eqsO, eqsR, eqbR, minR, evO, bndO, keepB, snapCut, slCut, nilCut, sliceR, isS, isnilL, isnilX, isnilR, strBin, sbinR, slenR, strAtR, substrB, substrR, makeR, clearO, clearR, sliceW1, sliceW2, sliceW3, sliceWR, appWO, appWR, okByte, okBytes, b2sR, indexVR, isnilPR, chunk, sliceAR, s2bR, flat1, arrpR, exnR, appD, callvR, cond, condK_t, condK_f, argsE, slots0, List.length_cons, List.length_nil, Bool.true_or, Bool.false_or, Bool.or_true, Bool.or_false, bnf, bnt, Nat.add_zero, Nat.zero_add, Nat.reduceAdd, Nat.reduceMul, Int.reduceToNat, endS])
      | (with_reducible refine runR_b (fun h => ?_) (fun h => ?_) <;> first | (exfalso; (simp only [decide_eq_true_eq, decide_eq_false_iff_not, Bool.not_eq_true', Bool.not_eq_false', Bool.and_eq_true, Bool.or_eq_true, Bool.and_eq_false_iff, Bool.or_eq_false_iff, Int.not_le, Int.not_lt, Decidable.not_not, ne_eq, not_true_eq_false, not_false_eq_true, decide_true, decide_false, Bool.not_true, Bool.not_false, Bool.false_eq_true, reduceCtorEq, List.length_map, beq_self_eq_true, Bool.and_true, Bool.true_and, Bool.false_and, Bool.and_false] at * <;> omega); done) | simp only [h, runR_t, runR_f])
      | (with_reducible refine condK_bl ?_ ?_)
      | (with_reducible refine condK_b (fun h => ?_) (fun h => ?_) <;> first | (exfalso; (simp only [decide_eq_true_eq, decide_eq_false_iff_not, Bool.not_eq_true', Bool.not_eq_false', Bool.and_eq_true, Bool.or_eq_true, Bool.and_eq_false_iff, Bool.or_eq_false_iff, Int.not_le, Int.not_lt, Decidable.not_not, ne_eq, not_true_eq_false, not_false_eq_true, decide_true, decide_false, Bool.not_true, Bool.not_false, Bool.false_eq_true, reduceCtorEq, List.length_map, beq_self_eq_true, Bool.and_true, Bool.true_and, Bool.false_and, Bool.and_false] at * <;> omega); done) | skip)
      | fail)
    (all_goals first | (exfalso; (try simp only [List.length_map] at *); first | omega | (simp only [decide_eq_true_eq, decide_eq_false_iff_not, Bool.not_eq_true', Bool.not_eq_false', Bool.and_eq_true, Bool.or_eq_true, Bool.and_eq_false_iff, Bool.or_eq_false_iff, Int.not_le, Int.not_lt, Decidable.not_not, ne_eq, not_true_eq_false, not_false_eq_true, decide_true, decide_false, Bool.not_true, Bool.not_false, Bool.false_eq_true, reduceCtorEq, List.length_map, beq_self_eq_true, Bool.and_true, Bool.true_and, Bool.false_and, Bool.and_false] at * <;> omega)) | skip)
    all_goals with_reducible refine ret_spec (by (try dsimp only [RetOK, resOk, resDs, resD, resV, cellV, cellO, cellP, cellOk, htake, nfD, nfL, nfLL, nfH, lget, partOf, xget, ddrop, dtake, dget, Env.get, N8.get, env0, List.length_cons, List.length_nil, Env.set, N8.set, lset, updL]); (repeat' (first | exact trivial | exact rfl | decide | apply And.intro))) (by (try dsimp only [RetOK, resOk, resDs, resD, resV, cellV, cellO, cellP, cellOk, htake, nfD, nfL, nfLL, nfH, lget, partOf, xget, ddrop, dtake, dget, Env.get, N8.get, env0, List.length_cons, List.length_nil, Env.set, N8.set, lset, updL]); (repeat' (first | exact trivial | exact nfLL_map (fun x => by simp [nfL, nfD, nfD, nfL]) | apply And.intro))) ?_
    all_goals (try dsimp only [RetOK, resOk, resDs, resD, resV, cellV, cellO, cellP, cellOk, htake, nfD, nfL, nfLL, nfH, lget, partOf, xget, ddrop, dtake, dget, Env.get, N8.get, env0, List.length_cons, List.length_nil, Env.set, N8.set, lset, updL])
    all_goals (try simp only [decide_eq_true_eq, decide_eq_false_iff_not, Bool.not_eq_true', Bool.not_eq_false', Bool.and_eq_true, Bool.or_eq_true, Bool.and_eq_false_iff, Bool.or_eq_false_iff] at *)
end Go.Proofs.Ytmkdgnocbjbijaa
