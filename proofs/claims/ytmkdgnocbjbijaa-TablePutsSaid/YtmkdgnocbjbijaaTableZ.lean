/-
  A table of keys: Check.
-/
import Derived.Test.YtmkdgnocbjbijaaTableY
namespace Go.Proofs.Ytmkdgnocbjbijaa
set_option linter.unusedVariables false
set_option linter.unusedSimpArgs false
def okT (b : Nat) (L pre : List Tb) (t : Tb) : Bool := if t.u then decide (fnd L t.k (hm b t.k).toNat = pre.length) else decide (t.k = 0) && decide (t.v = 0)
def tbErr (l : List Tb) : Int := if btN l.length = 0 then 1 else if l.all Tb.u then 4 else if goodG (okT (btN l.length) l) [] l then 0 else 4
theorem btN_of {n : Nat} {b : Nat} (h : btN n = b) (h0 : b ≠ 0) : (1 ≤ b ∧ b ≤ 6) ∧ n = 2 ^ b := by
  unfold btN at h
  split at h
  · subst h; refine ⟨by decide, ?_⟩; simp only [Nat.reducePow]; omega
  split at h
  · subst h; refine ⟨by decide, ?_⟩; simp only [Nat.reducePow]; omega
  split at h
  · subst h; refine ⟨by decide, ?_⟩; simp only [Nat.reducePow]; omega
  split at h
  · subst h; refine ⟨by decide, ?_⟩; simp only [Nat.reducePow]; omega
  split at h
  · subst h; refine ⟨by decide, ?_⟩; simp only [Nat.reducePow]; omega
  split at h
  · subst h; refine ⟨by decide, ?_⟩; simp only [Nat.reducePow]; omega
  exact absurd h.symm h0
theorem pow_and (n : Nat) (h : 2 ≤ n ∧ n ≤ 64) : decide (bits .and .i64 (n : Int) (IntKind.i64.wrap ((n : Int) - 1)) = 0) = !decide (btN n = 0) := by
  have : ∀ m : Fin 65, 2 ≤ m.val → decide (bits .and .i64 (m.val : Int) (IntKind.i64.wrap ((m.val : Int) - 1)) = 0) = !decide (btN m.val = 0) := by decide +kernel
  exact this ⟨n, by omega⟩ h.1
theorem all_count {l : List Tb} : (l.countP Tb.u = l.length) ↔ l.all Tb.u = true := by
  rw [List.countP_eq_length, List.all_eq_true]
set_option maxHeartbeats 2000000 in
theorem tcheck_spec (l : List Tb) (hl : l.length ≤ maxLen) : Spec Try.prog 11 [dT l] (.v (.int .i64 (tbErr l))) := by
  have hl' := hl
  unfold maxLen at hl'
  by_cases hn : 2 ≤ l.length ∧ l.length ≤ 64
  · have hpa := pow_and l.length hn
    have hu := used_spec l hl
    cases hb : btN l.length with
    | zero =>
      have he : tbErr l = 1 := by unfold tbErr; rw [hb]; rfl
      rw [hb] at hpa
      have hne : ¬ bits .and .i64 (l.length : Int) (IntKind.i64.wrap ((l.length : Int) - 1)) = 0 := by simpa using hpa
      rw [he]
      refine hspec_fn Try.func11 rfl ok_table_Check okr_table_Check rfl (by kernel_rfl) ?_
      intro Γ hW0 hN0 hL0
      have hW := hW0 rfl
      clear hW0 hN0 hL0
      unfold x_table_Check r_table_Check
      repeat' (first
        | (with_reducible refine go_seq ?_)
        | (with_reducible refine go_region ?_)
        | (with_reducible refine go_regionD mixed_ok ?_)
        | (with_reducible refine go_cond ?_)
        | (with_reducible refine go_skip ?_)
        | (with_reducible refine go_block ?_)
        | (with_reducible refine nx_code ?_)
        | (with_reducible refine nx_block ?_)
        | (with_reducible refine go_ret ?_)
        | (with_reducible refine nx_nil ?_)
        | (with_reducible refine go_exit ?_)
        | (with_reducible refine ex_code ?_)
        | (with_reducible refine ex_loop ?_)
        | (with_reducible refine ex_here ?_)
        | ((with_reducible refine ex_past ?_ ?_); (exact by decide))
        | ((with_reducible refine endD_intro ?_ ?_); (exact by kernel_rfl))
        | ((with_reducible refine runR_n ?_ ?_); (solve | ((repeat' (first | exact trivial | exact rfl | apply And.intro)) <;> (first | exact rfl | (intro hq; cases hq; done) | decide | omega | (simp only [List.length_map, List.length_append, List.length_cons, List.length_nil, List.length_replicate]; done) | (simp only [room, maxLen, allOnes, oneV, List.length_map, List.length_append, List.length_cons, List.length_nil, List.length_replicate] at *; omega) | (simp only [decide_eq_true_eq, decide_eq_false_iff_not, Bool.not_eq_true', Bool.not_eq_false', Bool.and_eq_true, Bool.or_eq_true, Bool.and_eq_false_iff, Bool.or_eq_false_iff, Int.not_le, Int.not_lt, Decidable.not_not, ne_eq, not_true_eq_false, not_false_eq_true, decide_true, decide_false, Bool.not_true, Bool.not_false, Bool.false_eq_true, reduceCtorEq, List.length_map, beq_self_eq_true, Bool.and_true, Bool.true_and, Bool.false_and, Bool.and_false] at * <;> omega)))))
        | (simp only [List.length_map])
        | (dsimp only [run, undef, runR_ok, runR_t, runR_f, gd, gd2, skipR, ex1, pickR, boxR, loadR, loadO, storeR, storeO, nilR, fieldAR, fieldR, partOf, binR, intBin, unR, boolR, kindEq, shiftOp, onlyIf, orB, convR, extR, lenR, indexSlR, indexArrR, putE, updL, keysOf, lget, lset, evT, evs, Env.get, Env.set, N8.get, N8.set, env0, cellsD, oneD, oneV, andB, allOne, lenB, mapV, dget, ddrop, dtake, splice, xget, xset, partsD, partsOk, partsE, partsEOk, repl, elemsR, elemsO, xdrop, xtake, allOnes, appN, appOwn, appNew, appY, cellEq_i, cellEq_b, cellEq_s, consO, cmpAll, allB, negB, eqsO, eqsR, eqbR, minR, evO, bndO, keepB, snapCut, slCut, nilCut, sliceR, isS, isnilL, isnilX, isnilR, strBin, sbinR, slenR, strAtR, substrB, substrR, makeR, clearO, clearR, sliceW1, sliceW2, sliceW3, sliceWR, appWO, appWR, okByte, okBytes, b2sR, indexVR, isnilPR, chunk, sliceAR, s2bR, flat1, arrpR, exnR, appD, callvR, cond, condK_t, condK_f, argsE, slots0, List.length_cons, List.length_nil, Bool.true_or, Bool.false_or, Bool.or_true, Bool.or_false, bnf, bnt, Nat.add_zero, Nat.zero_add, Nat.reduceAdd, Nat.reduceMul, Int.reduceToNat, endS])
        | (with_reducible refine runR_b (fun h => ?_) (fun h => ?_) <;> first | (exfalso; (simp only [decide_eq_true_eq, decide_eq_false_iff_not, Bool.not_eq_true', Bool.not_eq_false', Bool.and_eq_true, Bool.or_eq_true, Bool.and_eq_false_iff, Bool.or_eq_false_iff, Int.not_le, Int.not_lt, Decidable.not_not, ne_eq, not_true_eq_false, not_false_eq_true, decide_true, decide_false, Bool.not_true, Bool.not_false, Bool.false_eq_true, reduceCtorEq, List.length_map, beq_self_eq_true, Bool.and_true, Bool.true_and, Bool.false_and, Bool.and_false] at * <;> omega); done) | simp only [h, runR_t, runR_f])
        | (with_reducible refine condK_bl ?_ ?_)
        | (with_reducible refine condK_b (fun h => ?_) (fun h => ?_) <;> first | (exfalso; (simp only [decide_eq_true_eq, decide_eq_false_iff_not, Bool.not_eq_true', Bool.not_eq_false', Bool.and_eq_true, Bool.or_eq_true, Bool.and_eq_false_iff, Bool.or_eq_false_iff, Int.not_le, Int.not_lt, Decidable.not_not, ne_eq, not_true_eq_false, not_false_eq_true, decide_true, decide_false, Bool.not_true, Bool.not_false, Bool.false_eq_true, reduceCtorEq, List.length_map, beq_self_eq_true, Bool.and_true, Bool.true_and, Bool.false_and, Bool.and_false] at * <;> omega); done) | skip)
        | fail)
      (all_goals first | (exfalso; (try simp only [List.length_map] at *); first | omega | (simp only [decide_eq_true_eq, decide_eq_false_iff_not, Bool.not_eq_true', Bool.not_eq_false', Bool.and_eq_true, Bool.or_eq_true, Bool.and_eq_false_iff, Bool.or_eq_false_iff, Int.not_le, Int.not_lt, Decidable.not_not, ne_eq, not_true_eq_false, not_false_eq_true, decide_true, decide_false, Bool.not_true, Bool.not_false, Bool.false_eq_true, reduceCtorEq, List.length_map, beq_self_eq_true, Bool.and_true, Bool.true_and, Bool.false_and, Bool.and_false] at * <;> omega)) | skip)
      all_goals first
        | (exfalso; simp at h; exact hne h)
        | skip
      all_goals with_reducible refine ret_spec (by (try dsimp only [RetOK, resOk, resDs, resD, resV, cellV, cellO, cellP, cellOk, htake, nfD, nfL, nfLL, nfH, lget, partOf, xget, ddrop, dtake, dget, Env.get, N8.get, env0, List.length_cons, List.length_nil, Env.set, N8.set, lset, updL]); (repeat' (first | exact trivial | exact rfl | decide | apply And.intro))) (by (try dsimp only [RetOK, resOk, resDs, resD, resV, cellV, cellO, cellP, cellOk, htake, nfD, nfL, nfLL, nfH, lget, partOf, xget, ddrop, dtake, dget, Env.get, N8.get, env0, List.length_cons, List.length_nil, Env.set, N8.set, lset, updL]); (repeat' (first | exact trivial | exact nfLL_map (fun x => by simp [nfL, nfD, nfD]) | apply And.intro))) ?_
      all_goals (try dsimp only [RetOK, resOk, resDs, resD, resV, cellV, cellO, cellP, cellOk, htake, nfD, nfL, nfLL, nfH, lget, partOf, xget, ddrop, dtake, dget, Env.get, N8.get, env0, List.length_cons, List.length_nil, Env.set, N8.set, lset, updL])
      all_goals (try simp only [decide_eq_true_eq, decide_eq_false_iff_not, Bool.not_eq_true', Bool.not_eq_false', Bool.and_eq_true, Bool.or_eq_true, Bool.and_eq_false_iff, Bool.or_eq_false_iff] at *)
    | succ c =>
      obtain ⟨hb6, hlen⟩ := btN_of hb (Nat.succ_ne_zero c)
      rw [hb] at hpa
      have heq : bits .and .i64 (l.length : Int) (IntKind.i64.wrap ((l.length : Int) - 1)) = 0 := by simpa using hpa
      cases ha : l.all Tb.u with
      | true =>
        have he : tbErr l = 4 := by unfold tbErr; rw [hb, ha]; rfl
        rw [all_count.2 ha] at hu
        rw [he]
        refine hspec_fn Try.func11 rfl ok_table_Check okr_table_Check rfl (by kernel_rfl) ?_
        intro Γ hW0 hN0 hL0
        have hW := hW0 rfl
        clear hW0 hN0 hL0
        unfold x_table_Check r_table_Check
        repeat' (first
          | (with_reducible refine go_seq ?_)
          | (with_reducible refine go_region ?_)
          | (with_reducible refine go_regionD mixed_ok ?_)
          | (with_reducible refine go_cond ?_)
          | (with_reducible refine go_skip ?_)
          | (with_reducible refine go_block ?_)
          | (with_reducible refine nx_code ?_)
          | (with_reducible refine nx_block ?_)
          | (with_reducible refine go_ret ?_)
          | (with_reducible refine nx_nil ?_)
          | (with_reducible refine go_exit ?_)
          | (with_reducible refine ex_code ?_)
          | (with_reducible refine ex_loop ?_)
          | (with_reducible refine ex_here ?_)
          | ((with_reducible refine ex_past ?_ ?_); (exact by decide))
          | ((with_reducible refine endD_intro ?_ ?_); (exact by kernel_rfl))
          | ((with_reducible refine runR_n ?_ ?_); (solve | ((repeat' (first | exact trivial | exact rfl | apply And.intro)) <;> (first | exact rfl | (intro hq; cases hq; done) | decide | omega | (simp only [List.length_map, List.length_append, List.length_cons, List.length_nil, List.length_replicate]; done) | (simp only [room, maxLen, allOnes, oneV, List.length_map, List.length_append, List.length_cons, List.length_nil, List.length_replicate] at *; omega) | (simp only [decide_eq_true_eq, decide_eq_false_iff_not, Bool.not_eq_true', Bool.not_eq_false', Bool.and_eq_true, Bool.or_eq_true, Bool.and_eq_false_iff, Bool.or_eq_false_iff, Int.not_le, Int.not_lt, Decidable.not_not, ne_eq, not_true_eq_false, not_false_eq_true, decide_true, decide_false, Bool.not_true, Bool.not_false, Bool.false_eq_true, reduceCtorEq, List.length_map, beq_self_eq_true, Bool.and_true, Bool.true_and, Bool.false_and, Bool.and_false] at * <;> omega)))))
          | (first | (simp only [List.length_map, heq]) | (with_reducible refine runR_call hu ?_))
          | (dsimp only [run, undef, runR_ok, runR_t, runR_f, gd, gd2, skipR, ex1, pickR, boxR, loadR, loadO, storeR, storeO, nilR, fieldAR, fieldR, partOf, binR, intBin, unR, boolR, kindEq, shiftOp, onlyIf, orB, convR, extR, lenR, indexSlR, indexArrR, putE, updL, keysOf, lget, lset, evT, evs, Env.get, Env.set, N8.get, N8.set, env0, cellsD, oneD, oneV, andB, allOne, lenB, mapV, dget, ddrop, dtake, splice, xget, xset, partsD, partsOk, partsE, partsEOk, repl, elemsR, elemsO, xdrop, xtake, allOnes, appN, appOwn, appNew, appY, cellEq_i, cellEq_b, cellEq_s, consO, cmpAll, allB, negB, eqsO, eqsR, eqbR, minR, evO, bndO, keepB, snapCut, slCut, nilCut, sliceR, isS, isnilL, isnilX, isnilR, strBin, sbinR, slenR, strAtR, substrB, substrR, makeR, clearO, clearR, sliceW1, sliceW2, sliceW3, sliceWR, appWO, appWR, okByte, okBytes, b2sR, indexVR, isnilPR, chunk, sliceAR, s2bR, flat1, arrpR, exnR, appD, callvR, cond, condK_t, condK_f, argsE, slots0, List.length_cons, List.length_nil, Bool.true_or, Bool.false_or, Bool.or_true, Bool.or_false, bnf, bnt, Nat.add_zero, Nat.zero_add, Nat.reduceAdd, Nat.reduceMul, Int.reduceToNat, endS])
          | (with_reducible refine runR_b (fun h => ?_) (fun h => ?_) <;> first | (exfalso; (simp only [decide_eq_true_eq, decide_eq_false_iff_not, Bool.not_eq_true', Bool.not_eq_false', Bool.and_eq_true, Bool.or_eq_true, Bool.and_eq_false_iff, Bool.or_eq_false_iff, Int.not_le, Int.not_lt, Decidable.not_not, ne_eq, not_true_eq_false, not_false_eq_true, decide_true, decide_false, Bool.not_true, Bool.not_false, Bool.false_eq_true, reduceCtorEq, List.length_map, beq_self_eq_true, Bool.and_true, Bool.true_and, Bool.false_and, Bool.and_false] at * <;> omega); done) | simp only [h, runR_t, runR_f])
          | (with_reducible refine condK_bl ?_ ?_)
          | (with_reducible refine condK_b (fun h => ?_) (fun h => ?_) <;> first | (exfalso; (simp only [decide_eq_true_eq, decide_eq_false_iff_not, Bool.not_eq_true', Bool.not_eq_false', Bool.and_eq_true, Bool.or_eq_true, Bool.and_eq_false_iff, Bool.or_eq_false_iff, Int.not_le, Int.not_lt, Decidable.not_not, ne_eq, not_true_eq_false, not_false_eq_true, decide_true, decide_false, Bool.not_true, Bool.not_false, Bool.false_eq_true, reduceCtorEq, List.length_map, beq_self_eq_true, Bool.and_true, Bool.true_and, Bool.false_and, Bool.and_false] at * <;> omega); done) | skip)
          | fail)
        (all_goals first | (exfalso; (try simp only [List.length_map] at *); first | omega | (simp only [decide_eq_true_eq, decide_eq_false_iff_not, Bool.not_eq_true', Bool.not_eq_false', Bool.and_eq_true, Bool.or_eq_true, Bool.and_eq_false_iff, Bool.or_eq_false_iff, Int.not_le, Int.not_lt, Decidable.not_not, ne_eq, not_true_eq_false, not_false_eq_true, decide_true, decide_false, Bool.not_true, Bool.not_false, Bool.false_eq_true, reduceCtorEq, List.length_map, beq_self_eq_true, Bool.and_true, Bool.true_and, Bool.false_and, Bool.and_false] at * <;> omega)) | skip)
        all_goals with_reducible refine ret_spec (by (try dsimp only [RetOK, resOk, resDs, resD, resV, cellV, cellO, cellP, cellOk, htake, nfD, nfL, nfLL, nfH, lget, partOf, xget, ddrop, dtake, dget, Env.get, N8.get, env0, List.length_cons, List.length_nil, Env.set, N8.set, lset, updL]); (repeat' (first | exact trivial | exact rfl | decide | apply And.intro))) (by (try dsimp only [RetOK, resOk, resDs, resD, resV, cellV, cellO, cellP, cellOk, htake, nfD, nfL, nfLL, nfH, lget, partOf, xget, ddrop, dtake, dget, Env.get, N8.get, env0, List.length_cons, List.length_nil, Env.set, N8.set, lset, updL]); (repeat' (first | exact trivial | exact nfLL_map (fun x => by simp [nfL, nfD, nfD]) | apply And.intro))) ?_
        all_goals (try dsimp only [RetOK, resOk, resDs, resD, resV, cellV, cellO, cellP, cellOk, htake, nfD, nfL, nfLL, nfH, lget, partOf, xget, ddrop, dtake, dget, Env.get, N8.get, env0, List.length_cons, List.length_nil, Env.set, N8.set, lset, updL])
        all_goals (try simp only [decide_eq_true_eq, decide_eq_false_iff_not, Bool.not_eq_true', Bool.not_eq_false', Bool.and_eq_true, Bool.or_eq_true, Bool.and_eq_false_iff, Bool.or_eq_false_iff] at *)
      | false =>
        have he : tbErr l = if goodG (okT (c + 1) l) [] l then 0 else 4 := by unfold tbErr; rw [hb, ha]; rfl
        have hcn : ¬ ((l.countP Tb.u : Nat) : Int) = (l.length : Nat) := fun e => by
          rw [all_count.1 (by omega)] at ha; cases ha
        have hex : ∃ i, i < l.length ∧ ∀ k, stp l k i = true := by
          obtain ⟨t, ht, hu⟩ := List.all_eq_false.1 ha
          obtain ⟨i, hi, e⟩ := List.mem_iff_getElem.1 ht
          refine ⟨i, hi, fun k => ?_⟩
          unfold stp
          rw [List.getElem?_eq_getElem hi, e]
          simp [hu]
        obtain ⟨i0, hi0, hs0⟩ := hex
        have hf := fun key => find_spec l (c + 1) hb6 hlen key ⟨i0, hi0, hs0 key⟩
        rw [he]
        clear he
        refine hspec_fn Try.func11 rfl ok_table_Check okr_table_Check rfl (by kernel_rfl) ?_
        intro Γ hW0 hN0 hL0
        have hW := hW0 rfl
        clear hW0 hN0 hL0
        unfold x_table_Check r_table_Check
        repeat' (first
          | (with_reducible refine go_seq ?_)
          | (with_reducible refine go_region ?_)
          | (with_reducible refine go_regionD mixed_ok ?_)
          | (with_reducible refine go_cond ?_)
          | (with_reducible refine go_skip ?_)
          | (with_reducible refine go_block ?_)
          | (with_reducible refine nx_code ?_)
          | (with_reducible refine nx_block ?_)
          | (with_reducible refine go_ret ?_)
          | (with_reducible refine nx_nil ?_)
          | (with_reducible refine go_exit ?_)
          | (with_reducible refine ex_code ?_)
          | (with_reducible refine ex_loop ?_)
          | (with_reducible refine ex_here ?_)
          | ((with_reducible refine ex_past ?_ ?_); (exact by decide))
          | ((with_reducible refine endD_intro ?_ ?_); (exact by kernel_rfl))
          | ((with_reducible refine runR_n ?_ ?_); (solve | ((repeat' (first | exact trivial | exact rfl | apply And.intro)) <;> (first | exact rfl | (intro hq; cases hq; done) | decide | omega | (simp only [List.length_map, List.length_append, List.length_cons, List.length_nil, List.length_replicate]; done) | (simp only [room, maxLen, allOnes, oneV, List.length_map, List.length_append, List.length_cons, List.length_nil, List.length_replicate] at *; omega) | (simp only [decide_eq_true_eq, decide_eq_false_iff_not, Bool.not_eq_true', Bool.not_eq_false', Bool.and_eq_true, Bool.or_eq_true, Bool.and_eq_false_iff, Bool.or_eq_false_iff, Int.not_le, Int.not_lt, Decidable.not_not, ne_eq, not_true_eq_false, not_false_eq_true, decide_true, decide_false, Bool.not_true, Bool.not_false, Bool.false_eq_true, reduceCtorEq, List.length_map, beq_self_eq_true, Bool.and_true, Bool.true_and, Bool.false_and, Bool.and_false] at * <;> omega)))))
          | (first | (simp only [List.length_map, heq]) | (with_reducible refine runR_call hu ?_))
          | (dsimp only [run, undef, runR_ok, runR_t, runR_f, gd, gd2, skipR, ex1, pickR, boxR, loadR, loadO, storeR, storeO, nilR, fieldAR, fieldR, partOf, binR, intBin, unR, boolR, kindEq, shiftOp, onlyIf, orB, convR, extR, lenR, indexSlR, indexArrR, putE, updL, keysOf, lget, lset, evT, evs, Env.get, Env.set, N8.get, N8.set, env0, cellsD, oneD, oneV, andB, allOne, lenB, mapV, dget, ddrop, dtake, splice, xget, xset, partsD, partsOk, partsE, partsEOk, repl, elemsR, elemsO, xdrop, xtake, allOnes, appN, appOwn, appNew, appY, cellEq_i, cellEq_b, cellEq_s, consO, cmpAll, allB, negB, eqsO, eqsR, eqbR, minR, evO, bndO, keepB, snapCut, slCut, nilCut, sliceR, isS, isnilL, isnilX, isnilR, strBin, sbinR, slenR, strAtR, substrB, substrR, makeR, clearO, clearR, sliceW1, sliceW2, sliceW3, sliceWR, appWO, appWR, okByte, okBytes, b2sR, indexVR, isnilPR, chunk, sliceAR, s2bR, flat1, arrpR, exnR, appD, callvR, cond, condK_t, condK_f, argsE, slots0, List.length_cons, List.length_nil, Bool.true_or, Bool.false_or, Bool.or_true, Bool.or_false, bnf, bnt, Nat.add_zero, Nat.zero_add, Nat.reduceAdd, Nat.reduceMul, Int.reduceToNat, endS])
          | (with_reducible refine runR_b (fun h => ?_) (fun h => ?_) <;> first | (exfalso; (simp only [decide_eq_true_eq, decide_eq_false_iff_not, Bool.not_eq_true', Bool.not_eq_false', Bool.and_eq_true, Bool.or_eq_true, Bool.and_eq_false_iff, Bool.or_eq_false_iff, Int.not_le, Int.not_lt, Decidable.not_not, ne_eq, not_true_eq_false, not_false_eq_true, decide_true, decide_false, Bool.not_true, Bool.not_false, Bool.false_eq_true, reduceCtorEq, List.length_map, beq_self_eq_true, Bool.and_true, Bool.true_and, Bool.false_and, Bool.and_false] at * <;> omega); done) | simp only [h, runR_t, runR_f])
          | (with_reducible refine condK_bl ?_ ?_)
          | (with_reducible refine condK_b (fun h => ?_) (fun h => ?_) <;> first | (exfalso; (simp only [decide_eq_true_eq, decide_eq_false_iff_not, Bool.not_eq_true', Bool.not_eq_false', Bool.and_eq_true, Bool.or_eq_true, Bool.and_eq_false_iff, Bool.or_eq_false_iff, Int.not_le, Int.not_lt, Decidable.not_not, ne_eq, not_true_eq_false, not_false_eq_true, decide_true, decide_false, Bool.not_true, Bool.not_false, Bool.false_eq_true, reduceCtorEq, List.length_map, beq_self_eq_true, Bool.and_true, Bool.true_and, Bool.false_and, Bool.and_false] at * <;> omega); done) | skip)
          | fail)
        (all_goals first | (exfalso; (try simp only [List.length_map] at *); first | omega | (simp only [decide_eq_true_eq, decide_eq_false_iff_not, Bool.not_eq_true', Bool.not_eq_false', Bool.and_eq_true, Bool.or_eq_true, Bool.and_eq_false_iff, Bool.or_eq_false_iff, Int.not_le, Int.not_lt, Decidable.not_not, ne_eq, not_true_eq_false, not_false_eq_true, decide_true, decide_false, Bool.not_true, Bool.not_false, Bool.false_eq_true, reduceCtorEq, List.length_map, beq_self_eq_true, Bool.and_true, Bool.true_and, Bool.false_and, Bool.and_false] at * <;> omega)) | skip)
        refine go_loopH (α := Nat × Nat) (fun p => [(⟨.d0, .d3, .d6⟩, .v (.int .i64 (p.1 : Nat)))]) (fun p => [(1, none)]) (fun p => p.2) (fun p => l.length - p.1) (fun p => p.1 ≤ l.length ∧ goodG (okT (c + 1) l) [] l = goodG (okT (c + 1) l) (l.take p.1) (l.drop p.1)) (0, Γ.g0 + 1) ⟨Nat.zero_le _, rfl⟩ ?_ ?_
        · skip
          refine le_mk ?_ ?_ (Nat.le_refl _)
          all_goals dsimp only [leE, leC, leR, leN, leD, leH, leO, writesX, dstsX, appS, havE, setsE, Env.get, Env.set, N8.get, N8.set, updL, lget, lset, env0]
          all_goals (repeat' (first | exact trivial | exact rfl | apply And.intro))
        rintro ⟨k, gn⟩ ⟨hk, hg⟩
        dsimp only at hk hg ⊢
        dsimp only [writesX, dstsX, appS, havE, setsE, Env.get, Env.set, N8.get, N8.set, updL, lget, lset, env0]
        by_cases hlt : k < l.length
        · obtain ⟨t, ht⟩ : ∃ t, l[k]? = some t := ⟨_, List.getElem?_eq_getElem hlt⟩
          have ex := xget_tb ht
          have htl : (l.take k).length = k := by simp; omega
          have hok : okT (c + 1) l (l.take k) t = if t.u then decide (fnd l t.k (hm (c + 1) t.k).toNat = k) else decide (t.k = 0) && decide (t.v = 0) := by unfold okT; rw [htl]
          have hft := hf t.k
          cases hq : okT (c + 1) l (l.take k) t with
          | false =>
            have hbad : goodG (okT (c + 1) l) [] l = false := goodG_bad ht hg hq
            rw [hq] at hok
            cases hu : t.u with
            | true =>
              rw [hu] at hok
              have hne : ¬ ((fnd l t.k (hm (c + 1) t.k).toNat : Nat) : Int) = (k : Nat) := by
                have := hok
                simp only [if_true] at this
                have h2 : ¬ (fnd l t.k (hm (c + 1) t.k).toNat = k) := by simpa using this.symm
                omega
              repeat' (first
                | (with_reducible refine go_seq ?_)
                | (with_reducible refine go_region ?_)
                | (with_reducible refine go_regionD mixed_ok ?_)
                | (with_reducible refine go_cond ?_)
                | (with_reducible refine go_skip ?_)
                | (with_reducible refine go_block ?_)
                | (with_reducible refine nx_code ?_)
                | (with_reducible refine nx_block ?_)
                | (with_reducible refine go_ret ?_)
                | (with_reducible refine nx_nil ?_)
                | (with_reducible refine go_exit ?_)
                | (with_reducible refine ex_code ?_)
                | (with_reducible refine ex_loop ?_)
                | (with_reducible refine ex_here ?_)
                | ((with_reducible refine ex_past ?_ ?_); (exact by decide))
                | ((with_reducible refine endD_intro ?_ ?_); (exact by kernel_rfl))
                | ((with_reducible refine runR_n ?_ ?_); (solve | ((repeat' (first | exact trivial | exact rfl | apply And.intro)) <;> (first | exact rfl | (intro hq; cases hq; done) | decide | omega | (simp only [List.length_map, List.length_append, List.length_cons, List.length_nil, List.length_replicate]; done) | (simp only [room, maxLen, allOnes, oneV, List.length_map, List.length_append, List.length_cons, List.length_nil, List.length_replicate] at *; omega) | (simp only [decide_eq_true_eq, decide_eq_false_iff_not, Bool.not_eq_true', Bool.not_eq_false', Bool.and_eq_true, Bool.or_eq_true, Bool.and_eq_false_iff, Bool.or_eq_false_iff, Int.not_le, Int.not_lt, Decidable.not_not, ne_eq, not_true_eq_false, not_false_eq_true, decide_true, decide_false, Bool.not_true, Bool.not_false, Bool.false_eq_true, reduceCtorEq, List.length_map, beq_self_eq_true, Bool.and_true, Bool.true_and, Bool.false_and, Bool.and_false] at * <;> omega)))))
                | (with_reducible refine runR_call hft ?_)
                | (dsimp only [run, undef, runR_ok, runR_t, runR_f, gd, gd2, skipR, ex1, pickR, boxR, loadR, loadO, storeR, storeO, nilR, fieldAR, fieldR, partOf, binR, intBin, unR, boolR, kindEq, shiftOp, onlyIf, orB, convR, extR, lenR, indexSlR, indexArrR, putE, updL, keysOf, lget, lset, evT, evs, Env.get, Env.set, N8.get, N8.set, env0, cellsD, oneD, oneV, andB, allOne, lenB, mapV, dget, ddrop, dtake, splice, xget, xset, partsD, partsOk, partsE, partsEOk, repl, elemsR, elemsO, xdrop, xtake, allOnes, appN, appOwn, appNew, appY, cellEq_i, cellEq_b, cellEq_s, consO, cmpAll, allB, negB, eqsO, eqsR, eqbR, minR, evO, bndO, keepB, snapCut, slCut, nilCut, sliceR, isS, isnilL, isnilX, isnilR, strBin, sbinR, slenR, strAtR, substrB, substrR, makeR, clearO, clearR, sliceW1, sliceW2, sliceW3, sliceWR, appWO, appWR, okByte, okBytes, b2sR, indexVR, isnilPR, chunk, sliceAR, s2bR, flat1, arrpR, exnR, appD, callvR, cond, condK_t, condK_f, argsE, slots0, List.length_cons, List.length_nil, Bool.true_or, Bool.false_or, Bool.or_true, Bool.or_false, bnf, bnt, Nat.add_zero, Nat.zero_add, Nat.reduceAdd, Nat.reduceMul, Int.reduceToNat, endS])
                | (with_reducible refine runR_b (fun h => ?_) (fun h => ?_) <;> first | (exfalso; (simp only [decide_eq_true_eq, decide_eq_false_iff_not, Bool.not_eq_true', Bool.not_eq_false', Bool.and_eq_true, Bool.or_eq_true, Bool.and_eq_false_iff, Bool.or_eq_false_iff, Int.not_le, Int.not_lt, Decidable.not_not, ne_eq, not_true_eq_false, not_false_eq_true, decide_true, decide_false, Bool.not_true, Bool.not_false, Bool.false_eq_true, reduceCtorEq, List.length_map, beq_self_eq_true, Bool.and_true, Bool.true_and, Bool.false_and, Bool.and_false] at * <;> omega); done) | simp only [h, runR_t, runR_f])
                | (with_reducible refine condK_bl ?_ ?_)
                | (with_reducible refine condK_b (fun h => ?_) (fun h => ?_) <;> first | (exfalso; (simp only [decide_eq_true_eq, decide_eq_false_iff_not, Bool.not_eq_true', Bool.not_eq_false', Bool.and_eq_true, Bool.or_eq_true, Bool.and_eq_false_iff, Bool.or_eq_false_iff, Int.not_le, Int.not_lt, Decidable.not_not, ne_eq, not_true_eq_false, not_false_eq_true, decide_true, decide_false, Bool.not_true, Bool.not_false, Bool.false_eq_true, reduceCtorEq, List.length_map, beq_self_eq_true, Bool.and_true, Bool.true_and, Bool.false_and, Bool.and_false] at * <;> omega); done) | skip)
                | (simp only [Int.toNat_natCast, ex, hu, List.length_map]))
              (all_goals first | (exfalso; (try simp only [List.length_map] at *); first | omega | (simp only [decide_eq_true_eq, decide_eq_false_iff_not, Bool.not_eq_true', Bool.not_eq_false', Bool.and_eq_true, Bool.or_eq_true, Bool.and_eq_false_iff, Bool.or_eq_false_iff, Int.not_le, Int.not_lt, Decidable.not_not, ne_eq, not_true_eq_false, not_false_eq_true, decide_true, decide_false, Bool.not_true, Bool.not_false, Bool.false_eq_true, reduceCtorEq, List.length_map, beq_self_eq_true, Bool.and_true, Bool.true_and, Bool.false_and, Bool.and_false] at * <;> omega)) | skip)
              all_goals with_reducible refine ret_spec (by (try dsimp only [RetOK, resOk, resDs, resD, resV, cellV, cellO, cellP, cellOk, htake, nfD, nfL, nfLL, nfH, lget, partOf, xget, ddrop, dtake, dget, Env.get, N8.get, env0, List.length_cons, List.length_nil, Env.set, N8.set, lset, updL]); (repeat' (first | exact trivial | exact rfl | decide | apply And.intro))) (by (try dsimp only [RetOK, resOk, resDs, resD, resV, cellV, cellO, cellP, cellOk, htake, nfD, nfL, nfLL, nfH, lget, partOf, xget, ddrop, dtake, dget, Env.get, N8.get, env0, List.length_cons, List.length_nil, Env.set, N8.set, lset, updL]); (repeat' (first | exact trivial | exact nfLL_map (fun x => by simp [nfL, nfD, nfD]) | apply And.intro))) ?_
              all_goals (try dsimp only [RetOK, resOk, resDs, resD, resV, cellV, cellO, cellP, cellOk, htake, nfD, nfL, nfLL, nfH, lget, partOf, xget, ddrop, dtake, dget, Env.get, N8.get, env0, List.length_cons, List.length_nil, Env.set, N8.set, lset, updL])
              all_goals (try simp only [decide_eq_true_eq, decide_eq_false_iff_not, Bool.not_eq_true', Bool.not_eq_false', Bool.and_eq_true, Bool.or_eq_true, Bool.and_eq_false_iff, Bool.or_eq_false_iff] at *)
              all_goals (rw [hbad]; rfl)
            | false =>
              rw [hu] at hok
              have hne : ¬ (t.k = 0 ∧ t.v = 0) := by
                intro ⟨e1, e2⟩
                rw [e1, e2] at hok
                exact absurd hok (by simp)
              repeat' (first
                | (with_reducible refine go_seq ?_)
                | (with_reducible refine go_region ?_)
                | (with_reducible refine go_regionD mixed_ok ?_)
                | (with_reducible refine go_cond ?_)
                | (with_reducible refine go_skip ?_)
                | (with_reducible refine go_block ?_)
                | (with_reducible refine nx_code ?_)
                | (with_reducible refine nx_block ?_)
                | (with_reducible refine go_ret ?_)
                | (with_reducible refine nx_nil ?_)
                | (with_reducible refine go_exit ?_)
                | (with_reducible refine ex_code ?_)
                | (with_reducible refine ex_loop ?_)
                | (with_reducible refine ex_here ?_)
                | ((with_reducible refine ex_past ?_ ?_); (exact by decide))
                | ((with_reducible refine endD_intro ?_ ?_); (exact by kernel_rfl))
                | ((with_reducible refine runR_n ?_ ?_); (solve | ((repeat' (first | exact trivial | exact rfl | apply And.intro)) <;> (first | exact rfl | (intro hq; cases hq; done) | decide | omega | (simp only [List.length_map, List.length_append, List.length_cons, List.length_nil, List.length_replicate]; done) | (simp only [room, maxLen, allOnes, oneV, List.length_map, List.length_append, List.length_cons, List.length_nil, List.length_replicate] at *; omega) | (simp only [decide_eq_true_eq, decide_eq_false_iff_not, Bool.not_eq_true', Bool.not_eq_false', Bool.and_eq_true, Bool.or_eq_true, Bool.and_eq_false_iff, Bool.or_eq_false_iff, Int.not_le, Int.not_lt, Decidable.not_not, ne_eq, not_true_eq_false, not_false_eq_true, decide_true, decide_false, Bool.not_true, Bool.not_false, Bool.false_eq_true, reduceCtorEq, List.length_map, beq_self_eq_true, Bool.and_true, Bool.true_and, Bool.false_and, Bool.and_false] at * <;> omega)))))
                | (with_reducible refine runR_call hft ?_)
                | (dsimp only [run, undef, runR_ok, runR_t, runR_f, gd, gd2, skipR, ex1, pickR, boxR, loadR, loadO, storeR, storeO, nilR, fieldAR, fieldR, partOf, binR, intBin, unR, boolR, kindEq, shiftOp, onlyIf, orB, convR, extR, lenR, indexSlR, indexArrR, putE, updL, keysOf, lget, lset, evT, evs, Env.get, Env.set, N8.get, N8.set, env0, cellsD, oneD, oneV, andB, allOne, lenB, mapV, dget, ddrop, dtake, splice, xget, xset, partsD, partsOk, partsE, partsEOk, repl, elemsR, elemsO, xdrop, xtake, allOnes, appN, appOwn, appNew, appY, cellEq_i, cellEq_b, cellEq_s, consO, cmpAll, allB, negB, eqsO, eqsR, eqbR, minR, evO, bndO, keepB, snapCut, slCut, nilCut, sliceR, isS, isnilL, isnilX, isnilR, strBin, sbinR, slenR, strAtR, substrB, substrR, makeR, clearO, clearR, sliceW1, sliceW2, sliceW3, sliceWR, appWO, appWR, okByte, okBytes, b2sR, indexVR, isnilPR, chunk, sliceAR, s2bR, flat1, arrpR, exnR, appD, callvR, cond, condK_t, condK_f, argsE, slots0, List.length_cons, List.length_nil, Bool.true_or, Bool.false_or, Bool.or_true, Bool.or_false, bnf, bnt, Nat.add_zero, Nat.zero_add, Nat.reduceAdd, Nat.reduceMul, Int.reduceToNat, endS])
                | (with_reducible refine runR_b (fun h => ?_) (fun h => ?_) <;> first | (exfalso; (simp only [decide_eq_true_eq, decide_eq_false_iff_not, Bool.not_eq_true', Bool.not_eq_false', Bool.and_eq_true, Bool.or_eq_true, Bool.and_eq_false_iff, Bool.or_eq_false_iff, Int.not_le, Int.not_lt, Decidable.not_not, ne_eq, not_true_eq_false, not_false_eq_true, decide_true, decide_false, Bool.not_true, Bool.not_false, Bool.false_eq_true, reduceCtorEq, List.length_map, beq_self_eq_true, Bool.and_true, Bool.true_and, Bool.false_and, Bool.and_false] at * <;> omega); done) | simp only [h, runR_t, runR_f])
                | (with_reducible refine condK_bl ?_ ?_)
                | (with_reducible refine condK_b (fun h => ?_) (fun h => ?_) <;> first | (exfalso; (simp only [decide_eq_true_eq, decide_eq_false_iff_not, Bool.not_eq_true', Bool.not_eq_false', Bool.and_eq_true, Bool.or_eq_true, Bool.and_eq_false_iff, Bool.or_eq_false_iff, Int.not_le, Int.not_lt, Decidable.not_not, ne_eq, not_true_eq_false, not_false_eq_true, decide_true, decide_false, Bool.not_true, Bool.not_false, Bool.false_eq_true, reduceCtorEq, List.length_map, beq_self_eq_true, Bool.and_true, Bool.true_and, Bool.false_and, Bool.and_false] at * <;> omega); done) | skip)
                | (simp only [Int.toNat_natCast, ex, hu, List.length_map]))
              (all_goals first | (exfalso; (try simp only [List.length_map] at *); first | omega | (simp only [decide_eq_true_eq, decide_eq_false_iff_not, Bool.not_eq_true', Bool.not_eq_false', Bool.and_eq_true, Bool.or_eq_true, Bool.and_eq_false_iff, Bool.or_eq_false_iff, Int.not_le, Int.not_lt, Decidable.not_not, ne_eq, not_true_eq_false, not_false_eq_true, decide_true, decide_false, Bool.not_true, Bool.not_false, Bool.false_eq_true, reduceCtorEq, List.length_map, beq_self_eq_true, Bool.and_true, Bool.true_and, Bool.false_and, Bool.and_false] at * <;> omega)) | skip)
              all_goals first
                | (exfalso; apply hne; simpa using h; done)
                | skip
              all_goals with_reducible refine ret_spec (by (try dsimp only [RetOK, resOk, resDs, resD, resV, cellV, cellO, cellP, cellOk, htake, nfD, nfL, nfLL, nfH, lget, partOf, xget, ddrop, dtake, dget, Env.get, N8.get, env0, List.length_cons, List.length_nil, Env.set, N8.set, lset, updL]); (repeat' (first | exact trivial | exact rfl | decide | apply And.intro))) (by (try dsimp only [RetOK, resOk, resDs, resD, resV, cellV, cellO, cellP, cellOk, htake, nfD, nfL, nfLL, nfH, lget, partOf, xget, ddrop, dtake, dget, Env.get, N8.get, env0, List.length_cons, List.length_nil, Env.set, N8.set, lset, updL]); (repeat' (first | exact trivial | exact nfLL_map (fun x => by simp [nfL, nfD, nfD]) | apply And.intro))) ?_
              all_goals (try dsimp only [RetOK, resOk, resDs, resD, resV, cellV, cellO, cellP, cellOk, htake, nfD, nfL, nfLL, nfH, lget, partOf, xget, ddrop, dtake, dget, Env.get, N8.get, env0, List.length_cons, List.length_nil, Env.set, N8.set, lset, updL])
              all_goals (try simp only [decide_eq_true_eq, decide_eq_false_iff_not, Bool.not_eq_true', Bool.not_eq_false', Bool.and_eq_true, Bool.or_eq_true, Bool.and_eq_false_iff, Bool.or_eq_false_iff] at *)
              all_goals (rw [hbad]; rfl)
          | true =>
            have hnx := goodG_next ht hg hq
            rw [hq] at hok
            cases hu : t.u with
            | true =>
              rw [hu] at hok
              have he : ((fnd l t.k (hm (c + 1) t.k).toNat : Nat) : Int) = (k : Nat) := by
                have := hok
                simp only [if_true] at this
                have h2 : (fnd l t.k (hm (c + 1) t.k).toNat = k) := by simpa using this.symm
                omega
              repeat' (first
                | (with_reducible refine go_seq ?_)
                | (with_reducible refine go_region ?_)
                | (with_reducible refine go_regionD mixed_ok ?_)
                | (with_reducible refine go_cond ?_)
                | (with_reducible refine go_skip ?_)
                | (with_reducible refine go_block ?_)
                | (with_reducible refine nx_code ?_)
                | (with_reducible refine nx_block ?_)
                | (with_reducible refine go_ret ?_)
                | (with_reducible refine nx_nil ?_)
                | (with_reducible refine go_exit ?_)
                | (with_reducible refine ex_code ?_)
                | (with_reducible refine ex_loop ?_)
                | (with_reducible refine ex_here ?_)
                | ((with_reducible refine ex_past ?_ ?_); (exact by decide))
                | ((with_reducible refine endD_intro ?_ ?_); (exact by kernel_rfl))
                | ((with_reducible refine runR_n ?_ ?_); (solve | ((repeat' (first | exact trivial | exact rfl | apply And.intro)) <;> (first | exact rfl | (intro hq; cases hq; done) | decide | omega | (simp only [List.length_map, List.length_append, List.length_cons, List.length_nil, List.length_replicate]; done) | (simp only [room, maxLen, allOnes, oneV, List.length_map, List.length_append, List.length_cons, List.length_nil, List.length_replicate] at *; omega) | (simp only [decide_eq_true_eq, decide_eq_false_iff_not, Bool.not_eq_true', Bool.not_eq_false', Bool.and_eq_true, Bool.or_eq_true, Bool.and_eq_false_iff, Bool.or_eq_false_iff, Int.not_le, Int.not_lt, Decidable.not_not, ne_eq, not_true_eq_false, not_false_eq_true, decide_true, decide_false, Bool.not_true, Bool.not_false, Bool.false_eq_true, reduceCtorEq, List.length_map, beq_self_eq_true, Bool.and_true, Bool.true_and, Bool.false_and, Bool.and_false] at * <;> omega)))))
                | (with_reducible refine runR_call hft ?_)
                | (dsimp only [run, undef, runR_ok, runR_t, runR_f, gd, gd2, skipR, ex1, pickR, boxR, loadR, loadO, storeR, storeO, nilR, fieldAR, fieldR, partOf, binR, intBin, unR, boolR, kindEq, shiftOp, onlyIf, orB, convR, extR, lenR, indexSlR, indexArrR, putE, updL, keysOf, lget, lset, evT, evs, Env.get, Env.set, N8.get, N8.set, env0, cellsD, oneD, oneV, andB, allOne, lenB, mapV, dget, ddrop, dtake, splice, xget, xset, partsD, partsOk, partsE, partsEOk, repl, elemsR, elemsO, xdrop, xtake, allOnes, appN, appOwn, appNew, appY, cellEq_i, cellEq_b, cellEq_s, consO, cmpAll, allB, negB, eqsO, eqsR, eqbR, minR, evO, bndO, keepB, snapCut, slCut, nilCut, sliceR, isS, isnilL, isnilX, isnilR, strBin, sbinR, slenR, strAtR, substrB, substrR, makeR, clearO, clearR, sliceW1, sliceW2, sliceW3, sliceWR, appWO, appWR, okByte, okBytes, b2sR, indexVR, isnilPR, chunk, sliceAR, s2bR, flat1, arrpR, exnR, appD, callvR, cond, condK_t, condK_f, argsE, slots0, List.length_cons, List.length_nil, Bool.true_or, Bool.false_or, Bool.or_true, Bool.or_false, bnf, bnt, Nat.add_zero, Nat.zero_add, Nat.reduceAdd, Nat.reduceMul, Int.reduceToNat, endS])
                | (with_reducible refine runR_b (fun h => ?_) (fun h => ?_) <;> first | (exfalso; (simp only [decide_eq_true_eq, decide_eq_false_iff_not, Bool.not_eq_true', Bool.not_eq_false', Bool.and_eq_true, Bool.or_eq_true, Bool.and_eq_false_iff, Bool.or_eq_false_iff, Int.not_le, Int.not_lt, Decidable.not_not, ne_eq, not_true_eq_false, not_false_eq_true, decide_true, decide_false, Bool.not_true, Bool.not_false, Bool.false_eq_true, reduceCtorEq, List.length_map, beq_self_eq_true, Bool.and_true, Bool.true_and, Bool.false_and, Bool.and_false] at * <;> omega); done) | simp only [h, runR_t, runR_f])
                | (with_reducible refine condK_bl ?_ ?_)
                | (with_reducible refine condK_b (fun h => ?_) (fun h => ?_) <;> first | (exfalso; (simp only [decide_eq_true_eq, decide_eq_false_iff_not, Bool.not_eq_true', Bool.not_eq_false', Bool.and_eq_true, Bool.or_eq_true, Bool.and_eq_false_iff, Bool.or_eq_false_iff, Int.not_le, Int.not_lt, Decidable.not_not, ne_eq, not_true_eq_false, not_false_eq_true, decide_true, decide_false, Bool.not_true, Bool.not_false, Bool.false_eq_true, reduceCtorEq, List.length_map, beq_self_eq_true, Bool.and_true, Bool.true_and, Bool.false_and, Bool.and_false] at * <;> omega); done) | skip)
                | (simp only [Int.toNat_natCast, ex, hu, List.length_map]))
              (all_goals first | (exfalso; (try simp only [List.length_map] at *); first | omega | (simp only [decide_eq_true_eq, decide_eq_false_iff_not, Bool.not_eq_true', Bool.not_eq_false', Bool.and_eq_true, Bool.or_eq_true, Bool.and_eq_false_iff, Bool.or_eq_false_iff, Int.not_le, Int.not_lt, Decidable.not_not, ne_eq, not_true_eq_false, not_false_eq_true, decide_true, decide_false, Bool.not_true, Bool.not_false, Bool.false_eq_true, reduceCtorEq, List.length_map, beq_self_eq_true, Bool.and_true, Bool.true_and, Bool.false_and, Bool.and_false] at * <;> omega)) | skip)
              refine nx_loop ⟨(k + 1, gn + 1), ⟨hlt, hnx⟩, Nat.sub_lt_sub_left hlt (Nat.lt_succ_self k), ?_⟩
              refine le_mk ?_ ?_ (Nat.le_refl _)
              all_goals dsimp only [leE, leC, leR, leN, leD, leH, leO, writesX, dstsX, appS, havE, setsE, Env.get, Env.set, N8.get, N8.set, updL, lget, lset, env0]
              all_goals (repeat' (first | exact trivial | exact rfl | apply And.intro))
              all_goals exact dint ((IntWalk.i64_in _ (by omega)).trans (by omega))
            | false =>
              rw [hu] at hok
              have he : t.k = 0 ∧ t.v = 0 := by simpa using hok.symm
              repeat' (first
                | (with_reducible refine go_seq ?_)
                | (with_reducible refine go_region ?_)
                | (with_reducible refine go_regionD mixed_ok ?_)
                | (with_reducible refine go_cond ?_)
                | (with_reducible refine go_skip ?_)
                | (with_reducible refine go_block ?_)
                | (with_reducible refine nx_code ?_)
                | (with_reducible refine nx_block ?_)
                | (with_reducible refine go_ret ?_)
                | (with_reducible refine nx_nil ?_)
                | (with_reducible refine go_exit ?_)
                | (with_reducible refine ex_code ?_)
                | (with_reducible refine ex_loop ?_)
                | (with_reducible refine ex_here ?_)
                | ((with_reducible refine ex_past ?_ ?_); (exact by decide))
                | ((with_reducible refine endD_intro ?_ ?_); (exact by kernel_rfl))
                | ((with_reducible refine runR_n ?_ ?_); (solve | ((repeat' (first | exact trivial | exact rfl | apply And.intro)) <;> (first | exact rfl | (intro hq; cases hq; done) | decide | omega | (simp only [List.length_map, List.length_append, List.length_cons, List.length_nil, List.length_replicate]; done) | (simp only [room, maxLen, allOnes, oneV, List.length_map, List.length_append, List.length_cons, List.length_nil, List.length_replicate] at *; omega) | (simp only [decide_eq_true_eq, decide_eq_false_iff_not, Bool.not_eq_true', Bool.not_eq_false', Bool.and_eq_true, Bool.or_eq_true, Bool.and_eq_false_iff, Bool.or_eq_false_iff, Int.not_le, Int.not_lt, Decidable.not_not, ne_eq, not_true_eq_false, not_false_eq_true, decide_true, decide_false, Bool.not_true, Bool.not_false, Bool.false_eq_true, reduceCtorEq, List.length_map, beq_self_eq_true, Bool.and_true, Bool.true_and, Bool.false_and, Bool.and_false] at * <;> omega)))))
                | (with_reducible refine runR_call hft ?_)
                | (dsimp only [run, undef, runR_ok, runR_t, runR_f, gd, gd2, skipR, ex1, pickR, boxR, loadR, loadO, storeR, storeO, nilR, fieldAR, fieldR, partOf, binR, intBin, unR, boolR, kindEq, shiftOp, onlyIf, orB, convR, extR, lenR, indexSlR, indexArrR, putE, updL, keysOf, lget, lset, evT, evs, Env.get, Env.set, N8.get, N8.set, env0, cellsD, oneD, oneV, andB, allOne, lenB, mapV, dget, ddrop, dtake, splice, xget, xset, partsD, partsOk, partsE, partsEOk, repl, elemsR, elemsO, xdrop, xtake, allOnes, appN, appOwn, appNew, appY, cellEq_i, cellEq_b, cellEq_s, consO, cmpAll, allB, negB, eqsO, eqsR, eqbR, minR, evO, bndO, keepB, snapCut, slCut, nilCut, sliceR, isS, isnilL, isnilX, isnilR, strBin, sbinR, slenR, strAtR, substrB, substrR, makeR, clearO, clearR, sliceW1, sliceW2, sliceW3, sliceWR, appWO, appWR, okByte, okBytes, b2sR, indexVR, isnilPR, chunk, sliceAR, s2bR, flat1, arrpR, exnR, appD, callvR, cond, condK_t, condK_f, argsE, slots0, List.length_cons, List.length_nil, Bool.true_or, Bool.false_or, Bool.or_true, Bool.or_false, bnf, bnt, Nat.add_zero, Nat.zero_add, Nat.reduceAdd, Nat.reduceMul, Int.reduceToNat, endS])
                | (with_reducible refine runR_b (fun h => ?_) (fun h => ?_) <;> first | (exfalso; (simp only [decide_eq_true_eq, decide_eq_false_iff_not, Bool.not_eq_true', Bool.not_eq_false', Bool.and_eq_true, Bool.or_eq_true, Bool.and_eq_false_iff, Bool.or_eq_false_iff, Int.not_le, Int.not_lt, Decidable.not_not, ne_eq, not_true_eq_false, not_false_eq_true, decide_true, decide_false, Bool.not_true, Bool.not_false, Bool.false_eq_true, reduceCtorEq, List.length_map, beq_self_eq_true, Bool.and_true, Bool.true_and, Bool.false_and, Bool.and_false] at * <;> omega); done) | simp only [h, runR_t, runR_f])
                | (with_reducible refine condK_bl ?_ ?_)
                | (with_reducible refine condK_b (fun h => ?_) (fun h => ?_) <;> first | (exfalso; (simp only [decide_eq_true_eq, decide_eq_false_iff_not, Bool.not_eq_true', Bool.not_eq_false', Bool.and_eq_true, Bool.or_eq_true, Bool.and_eq_false_iff, Bool.or_eq_false_iff, Int.not_le, Int.not_lt, Decidable.not_not, ne_eq, not_true_eq_false, not_false_eq_true, decide_true, decide_false, Bool.not_true, Bool.not_false, Bool.false_eq_true, reduceCtorEq, List.length_map, beq_self_eq_true, Bool.and_true, Bool.true_and, Bool.false_and, Bool.and_false] at * <;> omega); done) | skip)
                | (simp only [Int.toNat_natCast, ex, hu, he.1, he.2, List.length_map]))
              (all_goals first | (exfalso; (try simp only [List.length_map] at *); first | omega | (simp only [decide_eq_true_eq, decide_eq_false_iff_not, Bool.not_eq_true', Bool.not_eq_false', Bool.and_eq_true, Bool.or_eq_true, Bool.and_eq_false_iff, Bool.or_eq_false_iff, Int.not_le, Int.not_lt, Decidable.not_not, ne_eq, not_true_eq_false, not_false_eq_true, decide_true, decide_false, Bool.not_true, Bool.not_false, Bool.false_eq_true, reduceCtorEq, List.length_map, beq_self_eq_true, Bool.and_true, Bool.true_and, Bool.false_and, Bool.and_false] at * <;> omega)) | skip)
              all_goals first
                | (exfalso; simp at h; done)
                | skip
              refine nx_loop ⟨(k + 1, gn + 1), ⟨hlt, hnx⟩, Nat.sub_lt_sub_left hlt (Nat.lt_succ_self k), ?_⟩
              refine le_mk ?_ ?_ (Nat.le_refl _)
              all_goals dsimp only [leE, leC, leR, leN, leD, leH, leO, writesX, dstsX, appS, havE, setsE, Env.get, Env.set, N8.get, N8.set, updL, lget, lset, env0]
              all_goals (repeat' (first | exact trivial | exact rfl | apply And.intro))
              all_goals exact dint ((IntWalk.i64_in _ (by omega)).trans (by omega))
        · obtain rfl : k = l.length := by omega
          rw [List.take_length, List.drop_length] at hg
          have hg' : goodG (okT (c + 1) l) [] l = true := hg
          repeat' (first
            | (with_reducible refine go_seq ?_)
            | (with_reducible refine go_region ?_)
            | (with_reducible refine go_regionD mixed_ok ?_)
            | (with_reducible refine go_cond ?_)
            | (with_reducible refine go_skip ?_)
            | (with_reducible refine go_block ?_)
            | (with_reducible refine nx_code ?_)
            | (with_reducible refine nx_block ?_)
            | (with_reducible refine go_ret ?_)
            | (with_reducible refine nx_nil ?_)
            | (with_reducible refine go_exit ?_)
            | (with_reducible refine ex_code ?_)
            | (with_reducible refine ex_loop ?_)
            | (with_reducible refine ex_here ?_)
            | ((with_reducible refine ex_past ?_ ?_); (exact by decide))
            | ((with_reducible refine endD_intro ?_ ?_); (exact by kernel_rfl))
            | ((with_reducible refine runR_n ?_ ?_); (solve | ((repeat' (first | exact trivial | exact rfl | apply And.intro)) <;> (first | exact rfl | (intro hq; cases hq; done) | decide | omega | (simp only [List.length_map, List.length_append, List.length_cons, List.length_nil, List.length_replicate]; done) | (simp only [room, maxLen, allOnes, oneV, List.length_map, List.length_append, List.length_cons, List.length_nil, List.length_replicate] at *; omega) | (simp only [decide_eq_true_eq, decide_eq_false_iff_not, Bool.not_eq_true', Bool.not_eq_false', Bool.and_eq_true, Bool.or_eq_true, Bool.and_eq_false_iff, Bool.or_eq_false_iff, Int.not_le, Int.not_lt, Decidable.not_not, ne_eq, not_true_eq_false, not_false_eq_true, decide_true, decide_false, Bool.not_true, Bool.not_false, Bool.false_eq_true, reduceCtorEq, List.length_map, beq_self_eq_true, Bool.and_true, Bool.true_and, Bool.false_and, Bool.and_false] at * <;> omega)))))
            | fail
            | (dsimp only [run, undef, runR_ok, runR_t, runR_f, gd, gd2, skipR, ex1, pickR, boxR, loadR, loadO, storeR, storeO, nilR, fieldAR, fieldR, partOf, binR, intBin, unR, boolR, kindEq, shiftOp, onlyIf, orB, convR, extR, lenR, indexSlR, indexArrR, putE, updL, keysOf, lget, lset, evT, evs, Env.get, Env.set, N8.get, N8.set, env0, cellsD, oneD, oneV, andB, allOne, lenB, mapV, dget, ddrop, dtake, splice, xget, xset, partsD, partsOk, partsE, partsEOk, repl, elemsR, elemsO, xdrop, xtake, allOnes, appN, appOwn, appNew, appY, cellEq_i, cellEq_b, cellEq_s, consO, cmpAll, allB, negB, eqsO, eqsR, eqbR, minR, evO, bndO, keepB, snapCut, slCut, nilCut, sliceR, isS, isnilL, isnilX, isnilR, strBin, sbinR, slenR, strAtR, substrB, substrR, makeR, clearO, clearR, sliceW1, sliceW2, sliceW3, sliceWR, appWO, appWR, okByte, okBytes, b2sR, indexVR, isnilPR, chunk, sliceAR, s2bR, flat1, arrpR, exnR, appD, callvR, cond, condK_t, condK_f, argsE, slots0, List.length_cons, List.length_nil, Bool.true_or, Bool.false_or, Bool.or_true, Bool.or_false, bnf, bnt, Nat.add_zero, Nat.zero_add, Nat.reduceAdd, Nat.reduceMul, Int.reduceToNat, endS])
            | (with_reducible refine runR_b (fun h => ?_) (fun h => ?_) <;> first | (exfalso; (simp only [decide_eq_true_eq, decide_eq_false_iff_not, Bool.not_eq_true', Bool.not_eq_false', Bool.and_eq_true, Bool.or_eq_true, Bool.and_eq_false_iff, Bool.or_eq_false_iff, Int.not_le, Int.not_lt, Decidable.not_not, ne_eq, not_true_eq_false, not_false_eq_true, decide_true, decide_false, Bool.not_true, Bool.not_false, Bool.false_eq_true, reduceCtorEq, List.length_map, beq_self_eq_true, Bool.and_true, Bool.true_and, Bool.false_and, Bool.and_false] at * <;> omega); done) | simp only [h, runR_t, runR_f])
            | (with_reducible refine condK_bl ?_ ?_)
            | (with_reducible refine condK_b (fun h => ?_) (fun h => ?_) <;> first | (exfalso; (simp only [decide_eq_true_eq, decide_eq_false_iff_not, Bool.not_eq_true', Bool.not_eq_false', Bool.and_eq_true, Bool.or_eq_true, Bool.and_eq_false_iff, Bool.or_eq_false_iff, Int.not_le, Int.not_lt, Decidable.not_not, ne_eq, not_true_eq_false, not_false_eq_true, decide_true, decide_false, Bool.not_true, Bool.not_false, Bool.false_eq_true, reduceCtorEq, List.length_map, beq_self_eq_true, Bool.and_true, Bool.true_and, Bool.false_and, Bool.and_false] at * <;> omega); done) | skip)
            | (simp only [List.length_map]))
          (all_goals first | (exfalso; (try simp only [List.length_map] at *); first | omega | (simp only [decide_eq_true_eq, decide_eq_false_iff_not, Bool.not_eq_true', Bool.not_eq_false', Bool.and_eq_true, Bool.or_eq_true, Bool.and_eq_false_iff, Bool.or_eq_false_iff, Int.not_le, Int.not_lt, Decidable.not_not, ne_eq, not_true_eq_false, not_false_eq_true, decide_true, decide_false, Bool.not_true, Bool.not_false, Bool.false_eq_true, reduceCtorEq, List.length_map, beq_self_eq_true, Bool.and_true, Bool.true_and, Bool.false_and, Bool.and_false] at * <;> omega)) | skip)
          all_goals with_reducible refine ret_spec (by (try dsimp only [RetOK, resOk, resDs, resD, resV, cellV, cellO, cellP, cellOk, htake, nfD, nfL, nfLL, nfH, lget, partOf, xget, ddrop, dtake, dget, Env.get, N8.get, env0, List.length_cons, List.length_nil, Env.set, N8.set, lset, updL]); (repeat' (first | exact trivial | exact rfl | decide | apply And.intro))) (by (try dsimp only [RetOK, resOk, resDs, resD, resV, cellV, cellO, cellP, cellOk, htake, nfD, nfL, nfLL, nfH, lget, partOf, xget, ddrop, dtake, dget, Env.get, N8.get, env0, List.length_cons, List.length_nil, Env.set, N8.set, lset, updL]); (repeat' (first | exact trivial | exact nfLL_map (fun x => by simp [nfL, nfD, nfD]) | apply And.intro))) ?_
          all_goals (try dsimp only [RetOK, resOk, resDs, resD, resV, cellV, cellO, cellP, cellOk, htake, nfD, nfL, nfLL, nfH, lget, partOf, xget, ddrop, dtake, dget, Env.get, N8.get, env0, List.length_cons, List.length_nil, Env.set, N8.set, lset, updL])
          all_goals (try simp only [decide_eq_true_eq, decide_eq_false_iff_not, Bool.not_eq_true', Bool.not_eq_false', Bool.and_eq_true, Bool.or_eq_true, Bool.and_eq_false_iff, Bool.or_eq_false_iff] at *)
          all_goals (rw [hg']; rfl)
  · have he : tbErr l = 1 := by
      have : btN l.length = 0 := by
        cases hb : btN l.length with
        | zero => rfl
        | succ c =>
          obtain ⟨⟨h1, h2⟩, hlen⟩ := btN_of hb (Nat.succ_ne_zero c)
          have h3 : 2 ^ (c + 1) ≤ 64 := Nat.pow_le_pow_right (show 0 < 2 by decide) h2
          have h4 : 2 ^ 1 ≤ 2 ^ (c + 1) := Nat.pow_le_pow_right (show 0 < 2 by decide) h1
          rw [← hlen] at h3 h4
          exact absurd ⟨h4, h3⟩ hn
      unfold tbErr; rw [this]; rfl
    rw [he]
    refine hspec_fn Try.func11 rfl ok_table_Check okr_table_Check rfl (by kernel_rfl) ?_
    intro Γ hW0 hN0 hL0
    have hW := hW0 rfl
    clear hW0 hN0 hL0
    unfold x_table_Check r_table_Check
    repeat' (first
      | (with_reducible refine go_seq ?_)
      | (with_reducible refine go_region ?_)
      | (with_reducible refine go_regionD mixed_ok ?_)
      | (with_reducible refine go_cond ?_)
      | (with_reducible refine go_skip ?_)
      | (with_reducible refine go_block ?_)
      | (with_reducible refine nx_code ?_)
      | (with_reducible refine nx_block ?_)
      | (with_reducible refine go_ret ?_)
      | (with_reducible refine nx_nil ?_)
      | (with_reducible refine go_exit ?_)
      | (with_reducible refine ex_code ?_)
      | (with_reducible refine ex_loop ?_)
      | (with_reducible refine ex_here ?_)
      | ((with_reducible refine ex_past ?_ ?_); (exact by decide))
      | ((with_reducible refine endD_intro ?_ ?_); (exact by kernel_rfl))
      | ((with_reducible refine runR_n ?_ ?_); (solve | ((repeat' (first | exact trivial | exact rfl | apply And.intro)) <;> (first | exact rfl | (intro hq; cases hq; done) | decide | omega | (simp only [List.length_map, List.length_append, List.length_cons, List.length_nil, List.length_replicate]; done) | (simp only [room, maxLen, allOnes, oneV, List.length_map, List.length_append, List.length_cons, List.length_nil, List.length_replicate] at *; omega) | (simp only [decide_eq_true_eq, decide_eq_false_iff_not, Bool.not_eq_true', Bool.not_eq_false', Bool.and_eq_true, Bool.or_eq_true, Bool.and_eq_false_iff, Bool.or_eq_false_iff, Int.not_le, Int.not_lt, Decidable.not_not, ne_eq, not_true_eq_false, not_false_eq_true, decide_true, decide_false, Bool.not_true, Bool.not_false, Bool.false_eq_true, reduceCtorEq, List.length_map, beq_self_eq_true, Bool.and_true, Bool.true_and, Bool.false_and, Bool.and_false] at * <;> omega)))))
      | (simp only [List.length_map])
      | (dsimp only [run, undef, runR_ok, runR_t, runR_f, gd, gd2, skipR, ex1, pickR, boxR, loadR, loadO, storeR, storeO, nilR, fieldAR, fieldR, partOf, binR, intBin, unR, boolR, kindEq, shiftOp, onlyIf, orB, convR, extR, lenR, indexSlR, indexArrR, putE, updL, keysOf, lget, lset, evT, evs, Env.get, Env.set, N8.get, N8.set, env0, cellsD, oneD, oneV, andB, allOne, lenB, mapV, dget, ddrop, dtake, splice, xget, xset, partsD, partsOk, partsE, partsEOk, repl, elemsR, elemsO, xdrop, xtake, allOnes, appN, appOwn, appNew, appY, cellEq_i, cellEq_b, cellEq_s, consO, cmpAll, allB, negB, eqsO, eqsR, eqbR, minR, evO, bndO, keepB, snapCut, slCut, nilCut, sliceR, isS, isnilL, isnilX, isnilR, strBin, sbinR, slenR, strAtR, substrB, substrR, makeR, clearO, clearR, sliceW1, sliceW2, sliceW3, sliceWR, appWO, appWR, okByte, okBytes, b2sR, indexVR, isnilPR, chunk, sliceAR, s2bR, flat1, arrpR, exnR, appD, callvR, cond, condK_t, condK_f, argsE, slots0, List.length_cons, List.length_nil, Bool.true_or, Bool.false_or, Bool.or_true, Bool.or_false, bnf, bnt, Nat.add_zero, Nat.zero_add, Nat.reduceAdd, Nat.reduceMul, Int.reduceToNat, endS])
      | (with_reducible refine runR_b (fun h => ?_) (fun h => ?_) <;> first | (exfalso; (simp only [decide_eq_true_eq, decide_eq_false_iff_not, Bool.not_eq_true', Bool.not_eq_false', Bool.and_eq_true, Bool.or_eq_true, Bool.and_eq_false_iff, Bool.or_eq_false_iff, Int.not_le, Int.not_lt, Decidable.not_not, ne_eq, not_true_eq_false, not_false_eq_true, decide_true, decide_false, Bool.not_true, Bool.not_false, Bool.false_eq_true, reduceCtorEq, List.length_map, beq_self_eq_true, Bool.and_true, Bool.true_and, Bool.false_and, Bool.and_false] at * <;> omega); done) | simp only [h, runR_t, runR_f])
      | (with_reducible refine condK_bl ?_ ?_)
      | (with_reducible refine condK_b (fun h => ?_) (fun h => ?_) <;> first | (exfalso; (simp only [decide_eq_true_eq, decide_eq_false_iff_not, Bool.not_eq_true', Bool.not_eq_false', Bool.and_eq_true, Bool.or_eq_true, Bool.and_eq_false_iff, Bool.or_eq_false_iff, Int.not_le, Int.not_lt, Decidable.not_not, ne_eq, not_true_eq_false, not_false_eq_true, decide_true, decide_false, Bool.not_true, Bool.not_false, Bool.false_eq_true, reduceCtorEq, List.length_map, beq_self_eq_true, Bool.and_true, Bool.true_and, Bool.false_and, Bool.and_false] at * <;> omega); done) | skip)
      | fail)
    (all_goals first | (exfalso; (try simp only [List.length_map] at *); first | omega | (simp only [decide_eq_true_eq, decide_eq_false_iff_not, Bool.not_eq_true', Bool.not_eq_false', Bool.and_eq_true, Bool.or_eq_true, Bool.and_eq_false_iff, Bool.or_eq_false_iff, Int.not_le, Int.not_lt, Decidable.not_not, ne_eq, not_true_eq_false, not_false_eq_true, decide_true, decide_false, Bool.not_true, Bool.not_false, Bool.false_eq_true, reduceCtorEq, List.length_map, beq_self_eq_true, Bool.and_true, Bool.true_and, Bool.false_and, Bool.and_false] at * <;> omega)) | skip)
    all_goals with_reducible refine ret_spec (by (try dsimp only [RetOK, resOk, resDs, resD, resV, cellV, cellO, cellP, cellOk, htake, nfD, nfL, nfLL, nfH, lget, partOf, xget, ddrop, dtake, dget, Env.get, N8.get, env0, List.length_cons, List.length_nil, Env.set, N8.set, lset, updL]); (repeat' (first | exact trivial | exact rfl | decide | apply And.intro))) (by (try dsimp only [RetOK, resOk, resDs, resD, resV, cellV, cellO, cellP, cellOk, htake, nfD, nfL, nfLL, nfH, lget, partOf, xget, ddrop, dtake, dget, Env.get, N8.get, env0, List.length_cons, List.length_nil, Env.set, N8.set, lset, updL]); (repeat' (first | exact trivial | exact nfLL_map (fun x => by simp [nfL, nfD, nfD]) | apply And.intro))) ?_
    all_goals (try dsimp only [RetOK, resOk, resDs, resD, resV, cellV, cellO, cellP, cellOk, htake, nfD, nfL, nfLL, nfH, lget, partOf, xget, ddrop, dtake, dget, Env.get, N8.get, env0, List.length_cons, List.length_nil, Env.set, N8.set, lset, updL])
    all_goals (try simp only [decide_eq_true_eq, decide_eq_false_iff_not, Bool.not_eq_true', Bool.not_eq_false', Bool.and_eq_true, Bool.or_eq_true, Bool.and_eq_false_iff, Bool.or_eq_false_iff] at *)
end Go.Proofs.Ytmkdgnocbjbijaa
