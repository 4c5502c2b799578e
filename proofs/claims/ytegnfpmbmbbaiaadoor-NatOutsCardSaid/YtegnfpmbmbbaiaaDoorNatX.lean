/-
  One address for many: ports, and which map is of whom.
-/
import Derived.Test.YtegnfpmbmbbaiaaDoorPortX
namespace Go.Proofs.YtegnfpmbmbbaiaaDoor
set_option linter.unusedVariables false
set_option linter.unusedSimpArgs false
abbrev rNt (l b1 : Int) (t1 : Nat) (b2 : Int) (t2 : Nat) (ms : List Mp) : List DV := [.v (.int .i64 l), .v (.int .i64 b1), .v (.int .u64 (t1 : Int)), .v (.int .i64 b2), .v (.int .u64 (t2 : Int)), .snap 5 (ms.map Mp.enc) false]
def placeD (pr : Int) (n k : Nat) : DV := if pr = 17 then .ptr k n 6 0 1 else if pr = 6 then .ptr k n 6 0 3 else .v (.pointer none)
theorem place_spec (n : Nat) (l b1 : Int) (t1 : Nat) (b2 : Int) (t2 : Nat) (ms : List Mp) (pr : Int) : HSpec Tryd.prog 19 [.ptr 0 n 6 0 0, .v (.int .i64 pr)] [some ⟨n, 6, [rNt l b1 t1 b2 t2 ms]⟩] (fun d H => d = placeD pr n 0 ∧ H = [some ⟨n, 6, [rNt l b1 t1 b2 t2 ms]⟩]) := by
  by_cases h17 : pr = 17
  · have e : placeD pr n 0 = .ptr 0 n 6 0 1 := by unfold placeD; rw [if_pos h17]
    rw [e]
    refine hspec_fn Tryd.func19 rfl ok_nat_place okr_nat_place rfl (by kernel_rfl) ?_
    intro Γ hW0 hN0 hL0
    clear hW0
    unfold x_nat_place r_nat_place
    have hn := hN0 0 _ rfl
    repeat' (first
      | (with_reducible first | refine go_seq ?_ | refine go_region ?_ | refine go_regionD mixed_ok ?_ | refine go_cond ?_ | refine go_skip ?_ | refine go_block ?_ | refine nx_code ?_ | refine nx_block ?_ | refine go_ret ?_ | refine nx_nil ?_ | refine go_exit ?_ | refine ex_code ?_ | refine ex_loop ?_ | refine ex_here ?_)
      | ((with_reducible refine ex_past ?_ ?_); (exact by decide))
      | ((with_reducible refine endD_intro ?_ ?_); (exact by kernel_rfl))
      | ((with_reducible refine runR_n ?_ ?_); exact auN)
      | fail
      | (dsimp only [run, undef, zipO, runR_ok, runR_t, runR_f, gd, gd2, skipR, ex1, pickR, boxR, loadR, loadO, storeR, storeO, nilR, fieldAR, fieldR, partOf, binR, intBin, unR, boolR, kindEq, shiftOp, onlyIf, orB, convR, extR, lenR, indexSlR, gidxR, putE, updL, keysOf, lget, lset, evT, evs, Env.get, Env.set, N8.get, N8.set, env0, cellsD, oneD, oneV, andB, allOne, lenB, mapV, dget, ddrop, dtake, splice, xget, xset, partsD, partsOk, partsE, partsEOk, repl, elemsR, elemsS, elemsO, xdrop, xtake, allOnes, appN, appOwn, appNew, appY, cellEq_i, consO, cmpAll, allB, negB, eqsO, eqsR, minR, evO, bndO, keepB, snapCut, slCut, nilCut, sliceR, isS, isnilL, isnilX, isnilR, makeR, clearO, clearR, sliceW1, sliceW2, sliceW3, sliceWR, appWO, appWR, isnilPR, appD, callvR, cond, condK_t, condK_f, argsE, slots0, List.length_cons, List.length_nil, Bool.true_or, Bool.false_or, Bool.or_true, Bool.or_false, bnf, bnt, Nat.add_zero, Nat.zero_add, Nat.reduceAdd, Nat.reduceMul, Int.reduceToNat, endS])
      | (with_reducible refine runR_b (fun h => ?_) (fun h => ?_) <;> first | exact auH | simp only [h, runR_t, runR_f])
      | (with_reducible refine condK_bl ?_ ?_)
      | (with_reducible refine condK_b (fun h => ?_) (fun h => ?_) <;> first | exact auH | skip)
      | fail)
    (all_goals first | exact auP | skip)
    refine ret_h1 trivial ?_ rfl rfl hn ?_ rfl
    · first
        | exact trivial
        | exact hn
        | (simp [resDs, resV, nfD, nfL]; done)
        | (show _ < _; exact hn)
        | (show nfD _ _; simp [nfD, hn])
    · refine ⟨⟨trivial, trivial, trivial, trivial, trivial, ?_, trivial⟩, trivial⟩
      show nfLL _ _
      exact nfLL_map (fun x => by simp [Mp.enc, nfL, nfD])
  · by_cases h6 : pr = 6
    · have e : placeD pr n 0 = .ptr 0 n 6 0 3 := by unfold placeD; rw [if_neg h17, if_pos h6]
      rw [e]
      refine hspec_fn Tryd.func19 rfl ok_nat_place okr_nat_place rfl (by kernel_rfl) ?_
      intro Γ hW0 hN0 hL0
      clear hW0
      unfold x_nat_place r_nat_place
      have hn := hN0 0 _ rfl
      repeat' (first
        | (with_reducible first | refine go_seq ?_ | refine go_region ?_ | refine go_regionD mixed_ok ?_ | refine go_cond ?_ | refine go_skip ?_ | refine go_block ?_ | refine nx_code ?_ | refine nx_block ?_ | refine go_ret ?_ | refine nx_nil ?_ | refine go_exit ?_ | refine ex_code ?_ | refine ex_loop ?_ | refine ex_here ?_)
        | ((with_reducible refine ex_past ?_ ?_); (exact by decide))
        | ((with_reducible refine endD_intro ?_ ?_); (exact by kernel_rfl))
        | ((with_reducible refine runR_n ?_ ?_); exact auN)
        | fail
        | (dsimp only [run, undef, zipO, runR_ok, runR_t, runR_f, gd, gd2, skipR, ex1, pickR, boxR, loadR, loadO, storeR, storeO, nilR, fieldAR, fieldR, partOf, binR, intBin, unR, boolR, kindEq, shiftOp, onlyIf, orB, convR, extR, lenR, indexSlR, gidxR, putE, updL, keysOf, lget, lset, evT, evs, Env.get, Env.set, N8.get, N8.set, env0, cellsD, oneD, oneV, andB, allOne, lenB, mapV, dget, ddrop, dtake, splice, xget, xset, partsD, partsOk, partsE, partsEOk, repl, elemsR, elemsS, elemsO, xdrop, xtake, allOnes, appN, appOwn, appNew, appY, cellEq_i, consO, cmpAll, allB, negB, eqsO, eqsR, minR, evO, bndO, keepB, snapCut, slCut, nilCut, sliceR, isS, isnilL, isnilX, isnilR, makeR, clearO, clearR, sliceW1, sliceW2, sliceW3, sliceWR, appWO, appWR, isnilPR, appD, callvR, cond, condK_t, condK_f, argsE, slots0, List.length_cons, List.length_nil, Bool.true_or, Bool.false_or, Bool.or_true, Bool.or_false, bnf, bnt, Nat.add_zero, Nat.zero_add, Nat.reduceAdd, Nat.reduceMul, Int.reduceToNat, endS])
        | (with_reducible refine runR_b (fun h => ?_) (fun h => ?_) <;> first | exact auH | simp only [h, runR_t, runR_f])
        | (with_reducible refine condK_bl ?_ ?_)
        | (with_reducible refine condK_b (fun h => ?_) (fun h => ?_) <;> first | exact auH | skip)
        | fail)
      (all_goals first | exact auP | skip)
      refine ret_h1 trivial ?_ rfl rfl hn ?_ rfl
      · first
          | exact trivial
          | exact hn
          | (simp [resDs, resV, nfD, nfL]; done)
          | (show _ < _; exact hn)
          | (show nfD _ _; simp [nfD, hn])
      · refine ⟨⟨trivial, trivial, trivial, trivial, trivial, ?_, trivial⟩, trivial⟩
        show nfLL _ _
        exact nfLL_map (fun x => by simp [Mp.enc, nfL, nfD])
    · have e : placeD pr n 0 = .v (.pointer none) := by unfold placeD; rw [if_neg h17, if_neg h6]
      rw [e]
      refine hspec_fn Tryd.func19 rfl ok_nat_place okr_nat_place rfl (by kernel_rfl) ?_
      intro Γ hW0 hN0 hL0
      clear hW0
      unfold x_nat_place r_nat_place
      have hn := hN0 0 _ rfl
      repeat' (first
        | (with_reducible first | refine go_seq ?_ | refine go_region ?_ | refine go_regionD mixed_ok ?_ | refine go_cond ?_ | refine go_skip ?_ | refine go_block ?_ | refine nx_code ?_ | refine nx_block ?_ | refine go_ret ?_ | refine nx_nil ?_ | refine go_exit ?_ | refine ex_code ?_ | refine ex_loop ?_ | refine ex_here ?_)
        | ((with_reducible refine ex_past ?_ ?_); (exact by decide))
        | ((with_reducible refine endD_intro ?_ ?_); (exact by kernel_rfl))
        | ((with_reducible refine runR_n ?_ ?_); exact auN)
        | fail
        | (dsimp only [run, undef, zipO, runR_ok, runR_t, runR_f, gd, gd2, skipR, ex1, pickR, boxR, loadR, loadO, storeR, storeO, nilR, fieldAR, fieldR, partOf, binR, intBin, unR, boolR, kindEq, shiftOp, onlyIf, orB, convR, extR, lenR, indexSlR, gidxR, putE, updL, keysOf, lget, lset, evT, evs, Env.get, Env.set, N8.get, N8.set, env0, cellsD, oneD, oneV, andB, allOne, lenB, mapV, dget, ddrop, dtake, splice, xget, xset, partsD, partsOk, partsE, partsEOk, repl, elemsR, elemsS, elemsO, xdrop, xtake, allOnes, appN, appOwn, appNew, appY, cellEq_i, consO, cmpAll, allB, negB, eqsO, eqsR, minR, evO, bndO, keepB, snapCut, slCut, nilCut, sliceR, isS, isnilL, isnilX, isnilR, makeR, clearO, clearR, sliceW1, sliceW2, sliceW3, sliceWR, appWO, appWR, isnilPR, appD, callvR, cond, condK_t, condK_f, argsE, slots0, List.length_cons, List.length_nil, Bool.true_or, Bool.false_or, Bool.or_true, Bool.or_false, bnf, bnt, Nat.add_zero, Nat.zero_add, Nat.reduceAdd, Nat.reduceMul, Int.reduceToNat, endS])
        | (with_reducible refine runR_b (fun h => ?_) (fun h => ?_) <;> first | exact auH | simp only [h, runR_t, runR_f])
        | (with_reducible refine condK_bl ?_ ?_)
        | (with_reducible refine condK_b (fun h => ?_) (fun h => ?_) <;> first | exact auH | skip)
        | fail)
      (all_goals first | exact auP | skip)
      refine ret_h1 trivial ?_ rfl rfl hn ?_ rfl
      · first
          | exact trivial
          | exact hn
          | (simp [resDs, resV, nfD, nfL]; done)
          | (show _ < _; exact hn)
          | (show nfD _ _; simp [nfD, hn])
      · refine ⟨⟨trivial, trivial, trivial, trivial, trivial, ?_, trivial⟩, trivial⟩
        show nfLL _ _
        exact nfLL_map (fun x => by simp [Mp.enc, nfL, nfD])
set_option maxHeartbeats 1000000 in
theorem mpindexf_spec {g : FuncId} {caps : List DV} (p : Mp → Bool) (l : List Mp) (c : Bool) (hl : l.length ≤ maxLen) (hg : ∀ t ∈ l, Spec Tryd.prog g (.agg (Mp.enc t) :: caps) (.v (.bool (p t)))) : Spec Tryd.prog 33 [.snap 5 (l.map Mp.enc) c, .fn (.func g) [] caps] (.v (.int .i64 (firstI p l 0))) := by
  unfold maxLen at hl
  refine hspec_fn Tryd.func33 rfl ok_slices_IndexFunc_api_Map okr_slices_IndexFunc_api_Map rfl (by kernel_rfl) ?_
  intro Γ hW0 hN0 hL0
  have hW := hW0 rfl
  clear hW0 hN0 hL0
  unfold x_slices_IndexFunc_api_Map r_slices_IndexFunc_api_Map
  repeat' (first
    | (with_reducible first | refine go_seq ?_ | refine go_region ?_ | refine go_regionD mixed_ok ?_ | refine go_cond ?_ | refine go_skip ?_ | refine go_block ?_ | refine nx_code ?_ | refine nx_block ?_ | refine go_ret ?_ | refine nx_nil ?_ | refine go_exit ?_ | refine ex_code ?_ | refine ex_loop ?_ | refine ex_here ?_)
    | ((with_reducible refine ex_past ?_ ?_); (exact by decide))
    | ((with_reducible refine endD_intro ?_ ?_); (exact by kernel_rfl))
    | ((with_reducible refine runR_n ?_ ?_); exact auN)
    | fail
    | (dsimp only [run, undef, zipO, runR_ok, runR_t, runR_f, gd, gd2, skipR, ex1, pickR, boxR, loadR, loadO, storeR, storeO, nilR, fieldAR, fieldR, partOf, binR, intBin, unR, boolR, kindEq, shiftOp, onlyIf, orB, convR, extR, lenR, indexSlR, gidxR, putE, updL, keysOf, lget, lset, evT, evs, Env.get, Env.set, N8.get, N8.set, env0, cellsD, oneD, oneV, andB, allOne, lenB, mapV, dget, ddrop, dtake, splice, xget, xset, partsD, partsOk, partsE, partsEOk, repl, elemsR, elemsS, elemsO, xdrop, xtake, allOnes, appN, appOwn, appNew, appY, cellEq_i, consO, cmpAll, allB, negB, eqsO, eqsR, minR, evO, bndO, keepB, snapCut, slCut, nilCut, sliceR, isS, isnilL, isnilX, isnilR, makeR, clearO, clearR, sliceW1, sliceW2, sliceW3, sliceWR, appWO, appWR, isnilPR, appD, callvR, cond, condK_t, condK_f, argsE, slots0, List.length_cons, List.length_nil, Bool.true_or, Bool.false_or, Bool.or_true, Bool.or_false, bnf, bnt, Nat.add_zero, Nat.zero_add, Nat.reduceAdd, Nat.reduceMul, Int.reduceToNat, endS])
    | (with_reducible refine runR_b (fun h => ?_) (fun h => ?_) <;> first | exact auH | simp only [h, runR_t, runR_f])
    | (with_reducible refine condK_bl ?_ ?_)
    | (with_reducible refine condK_b (fun h => ?_) (fun h => ?_) <;> first | exact auH | skip)
    | fail)
  refine go_loopH (α := Nat) (fun k => [(⟨.d0, .d1, .d0⟩, .v (.int .i64 (k : Nat)))]) (fun _ => []) (fun _ => Γ.g0) (fun k => l.length - k) (fun k => k ≤ l.length ∧ firstI p l 0 = firstI p (l.drop k) k) 0 ⟨Nat.zero_le _, rfl⟩ ?_ ?_
  · skip
    refine le_mk ?_ ?_ (Nat.le_refl _)
    all_goals dsimp only [leE, leC, leR, leN, leD, leH, leO, writesX, dstsX, appS, havE, setsE, Env.get, Env.set, N8.get, N8.set, updL, lget, lset, env0]
    all_goals (repeat' (first | exact trivial | exact rfl | apply And.intro))
  · rintro k ⟨hk, hp⟩
    dsimp only [writesX, dstsX, appS, havE, setsE, Env.get, Env.set, N8.get, N8.set, updL, lget, lset, env0]
    by_cases hlt : k < l.length
    · obtain ⟨t, ht⟩ : ∃ t, l[k]? = some t := ⟨_, List.getElem?_eq_getElem hlt⟩
      have ex := xget_map Mp.enc l k t ht
      have hgt := hg t (List.mem_of_getElem? ht)
      rw [List.drop_eq_getElem_cons hlt, show l[k] = t from Option.some.inj ((List.getElem?_eq_getElem hlt).symm.trans ht)] at hp
      repeat' (first
        | (with_reducible first | refine go_seq ?_ | refine go_region ?_ | refine go_regionD mixed_ok ?_ | refine go_cond ?_ | refine go_skip ?_ | refine go_block ?_ | refine nx_code ?_ | refine nx_block ?_ | refine go_ret ?_ | refine nx_nil ?_ | refine go_exit ?_ | refine ex_code ?_ | refine ex_loop ?_ | refine ex_here ?_)
        | ((with_reducible refine ex_past ?_ ?_); (exact by decide))
        | ((with_reducible refine endD_intro ?_ ?_); (exact by kernel_rfl))
        | ((with_reducible refine runR_n ?_ ?_); exact auN)
        | (with_reducible refine runR_call hgt ?_)
        | (dsimp only [run, undef, zipO, runR_ok, runR_t, runR_f, gd, gd2, skipR, ex1, pickR, boxR, loadR, loadO, storeR, storeO, nilR, fieldAR, fieldR, partOf, binR, intBin, unR, boolR, kindEq, shiftOp, onlyIf, orB, convR, extR, lenR, indexSlR, gidxR, putE, updL, keysOf, lget, lset, evT, evs, Env.get, Env.set, N8.get, N8.set, env0, cellsD, oneD, oneV, andB, allOne, lenB, mapV, dget, ddrop, dtake, splice, xget, xset, partsD, partsOk, partsE, partsEOk, repl, elemsR, elemsS, elemsO, xdrop, xtake, allOnes, appN, appOwn, appNew, appY, cellEq_i, consO, cmpAll, allB, negB, eqsO, eqsR, minR, evO, bndO, keepB, snapCut, slCut, nilCut, sliceR, isS, isnilL, isnilX, isnilR, makeR, clearO, clearR, sliceW1, sliceW2, sliceW3, sliceWR, appWO, appWR, isnilPR, appD, callvR, cond, condK_t, condK_f, argsE, slots0, List.length_cons, List.length_nil, Bool.true_or, Bool.false_or, Bool.or_true, Bool.or_false, bnf, bnt, Nat.add_zero, Nat.zero_add, Nat.reduceAdd, Nat.reduceMul, Int.reduceToNat, endS])
        | (with_reducible refine runR_b (fun h => ?_) (fun h => ?_) <;> first | exact auH | simp only [h, runR_t, runR_f])
        | (with_reducible refine condK_bl ?_ ?_)
        | (with_reducible refine condK_b (fun h => ?_) (fun h => ?_) <;> first | exact auH | skip)
        | (simp only [Int.toNat_natCast, ex]))
      (all_goals first | exact auP | skip)
      · skip
        all_goals with_reducible refine ret_spec2 (by (try dsimp only [RetOK, resOk, resDs, resD, resV, cellV, cellO, cellP, cellOk, htake, nfD, nfL, nfLL, nfH, lget, partOf, xget, ddrop, dtake, dget, Env.get, N8.get, env0, List.length_cons, List.length_nil, Env.set, N8.set, lset, updL]); (repeat' (first | exact trivial | exact rfl | exact nfLL_map (fun x => by simp [nfL, nfD, nfD]) | decide | apply And.intro))) ?_
        all_goals (try dsimp only [RetOK, resOk, resDs, resD, resV, cellV, cellO, cellP, cellOk, htake, nfD, nfL, nfLL, nfH, lget, partOf, xget, ddrop, dtake, dget, Env.get, N8.get, env0, List.length_cons, List.length_nil, Env.set, N8.set, lset, updL])
        all_goals (try simp only [hsM] at *)
        rw [hp]
        simp [firstI, *]
      · refine nx_loop ?_
        refine ⟨k + 1, ⟨Nat.succ_le_of_lt hlt, by rw [hp]; simp [firstI, *]⟩, Nat.sub_lt_sub_left hlt (Nat.lt_succ_self k), ?_⟩
        refine le_mk ?_ ?_ (Nat.le_refl _)
        all_goals dsimp only [leE, leC, leR, leN, leD, leH, leO, writesX, dstsX, appS, havE, setsE, Env.get, Env.set, N8.get, N8.set, updL, lget, lset, env0]
        all_goals (repeat' (first | exact trivial | exact rfl | apply And.intro))
        exact dint ((IntWalk.i64_in _ (by omega)).trans (by omega))
    · skip
      repeat' (first
        | (with_reducible first | refine go_seq ?_ | refine go_region ?_ | refine go_regionD mixed_ok ?_ | refine go_cond ?_ | refine go_skip ?_ | refine go_block ?_ | refine nx_code ?_ | refine nx_block ?_ | refine go_ret ?_ | refine nx_nil ?_ | refine go_exit ?_ | refine ex_code ?_ | refine ex_loop ?_ | refine ex_here ?_)
        | ((with_reducible refine ex_past ?_ ?_); (exact by decide))
        | ((with_reducible refine endD_intro ?_ ?_); (exact by kernel_rfl))
        | ((with_reducible refine runR_n ?_ ?_); exact auN)
        | fail
        | (dsimp only [run, undef, zipO, runR_ok, runR_t, runR_f, gd, gd2, skipR, ex1, pickR, boxR, loadR, loadO, storeR, storeO, nilR, fieldAR, fieldR, partOf, binR, intBin, unR, boolR, kindEq, shiftOp, onlyIf, orB, convR, extR, lenR, indexSlR, gidxR, putE, updL, keysOf, lget, lset, evT, evs, Env.get, Env.set, N8.get, N8.set, env0, cellsD, oneD, oneV, andB, allOne, lenB, mapV, dget, ddrop, dtake, splice, xget, xset, partsD, partsOk, partsE, partsEOk, repl, elemsR, elemsS, elemsO, xdrop, xtake, allOnes, appN, appOwn, appNew, appY, cellEq_i, consO, cmpAll, allB, negB, eqsO, eqsR, minR, evO, bndO, keepB, snapCut, slCut, nilCut, sliceR, isS, isnilL, isnilX, isnilR, makeR, clearO, clearR, sliceW1, sliceW2, sliceW3, sliceWR, appWO, appWR, isnilPR, appD, callvR, cond, condK_t, condK_f, argsE, slots0, List.length_cons, List.length_nil, Bool.true_or, Bool.false_or, Bool.or_true, Bool.or_false, bnf, bnt, Nat.add_zero, Nat.zero_add, Nat.reduceAdd, Nat.reduceMul, Int.reduceToNat, endS])
        | (with_reducible refine runR_b (fun h => ?_) (fun h => ?_) <;> first | exact auH | simp only [h, runR_t, runR_f])
        | (with_reducible refine condK_bl ?_ ?_)
        | (with_reducible refine condK_b (fun h => ?_) (fun h => ?_) <;> first | exact auH | skip)
        | fail)
      (all_goals first | exact auP | skip)
      all_goals with_reducible refine ret_spec2 (by (try dsimp only [RetOK, resOk, resDs, resD, resV, cellV, cellO, cellP, cellOk, htake, nfD, nfL, nfLL, nfH, lget, partOf, xget, ddrop, dtake, dget, Env.get, N8.get, env0, List.length_cons, List.length_nil, Env.set, N8.set, lset, updL]); (repeat' (first | exact trivial | exact rfl | exact nfLL_map (fun x => by simp [nfL, nfD, nfD]) | decide | apply And.intro))) ?_
      all_goals (try dsimp only [RetOK, resOk, resDs, resD, resV, cellV, cellO, cellP, cellOk, htake, nfD, nfL, nfLL, nfH, lget, partOf, xget, ddrop, dtake, dget, Env.get, N8.get, env0, List.length_cons, List.length_nil, Env.set, N8.set, lset, updL])
      all_goals (try simp only [hsM] at *)
      obtain rfl : k = l.length := by omega
      rw [hp, List.drop_length]
      rfl
theorem xget_mp {l : List Mp} {k : Nat} {t : Mp} (ht : l[k]? = some t) : xget (l.map Mp.enc) k = [.v (.int .i64 t.pr), .v (.int .u32 t.ad), .v (.int .i64 t.po), .v (.int .i64 t.ou), .v (.int .i64 t.tm)] := xget_map Mp.enc l k t ht
theorem within1_spec (m : Mp) (pr ad po : Int) : Spec Tryd.prog 34 [.agg m.enc, .rptr [.v (.int .i64 pr)], .rptr [.v (.int .u32 ad)], .rptr [.v (.int .i64 po)]] (.v (.bool (decide (m.pr = pr ∧ m.ad = ad ∧ m.po = po)))) := by
  refine hspec_fn Tryd.func34 rfl ok_nat_within_1 okr_nat_within_1 rfl (by kernel_rfl) ?_
  intro Γ hW0 hN0 hL0
  have hW := hW0 rfl
  clear hW0 hN0 hL0
  unfold x_nat_within_1 r_nat_within_1
  repeat' (first
    | (with_reducible first | refine go_seq ?_ | refine go_region ?_ | refine go_regionD mixed_ok ?_ | refine go_cond ?_ | refine go_skip ?_ | refine go_block ?_ | refine nx_code ?_ | refine nx_block ?_ | refine go_ret ?_ | refine nx_nil ?_ | refine go_exit ?_ | refine ex_code ?_ | refine ex_loop ?_ | refine ex_here ?_)
    | ((with_reducible refine ex_past ?_ ?_); (exact by decide))
    | ((with_reducible refine endD_intro ?_ ?_); (exact by kernel_rfl))
    | ((with_reducible refine runR_n ?_ ?_); exact auN)
    | fail
    | (dsimp only [run, undef, zipO, runR_ok, runR_t, runR_f, gd, gd2, skipR, ex1, pickR, boxR, loadR, loadO, storeR, storeO, nilR, fieldAR, fieldR, partOf, binR, intBin, unR, boolR, kindEq, shiftOp, onlyIf, orB, convR, extR, lenR, indexSlR, gidxR, putE, updL, keysOf, lget, lset, evT, evs, Env.get, Env.set, N8.get, N8.set, env0, cellsD, oneD, oneV, andB, allOne, lenB, mapV, dget, ddrop, dtake, splice, xget, xset, partsD, partsOk, partsE, partsEOk, repl, elemsR, elemsS, elemsO, xdrop, xtake, allOnes, appN, appOwn, appNew, appY, cellEq_i, consO, cmpAll, allB, negB, eqsO, eqsR, minR, evO, bndO, keepB, snapCut, slCut, nilCut, sliceR, isS, isnilL, isnilX, isnilR, makeR, clearO, clearR, sliceW1, sliceW2, sliceW3, sliceWR, appWO, appWR, isnilPR, appD, callvR, cond, condK_t, condK_f, argsE, slots0, List.length_cons, List.length_nil, Bool.true_or, Bool.false_or, Bool.or_true, Bool.or_false, bnf, bnt, Nat.add_zero, Nat.zero_add, Nat.reduceAdd, Nat.reduceMul, Int.reduceToNat, endS])
    | (with_reducible refine runR_b (fun h => ?_) (fun h => ?_) <;> first | exact auH | simp only [h, runR_t, runR_f])
    | (with_reducible refine condK_bl ?_ ?_)
    | (with_reducible refine condK_b (fun h => ?_) (fun h => ?_) <;> first | exact auH | skip)
    | fail)
  (all_goals first | exact auP | skip)
  all_goals with_reducible refine ret_spec2 (by (try dsimp only [RetOK, resOk, resDs, resD, resV, cellV, cellO, cellP, cellOk, htake, nfD, nfL, nfLL, nfH, lget, partOf, xget, ddrop, dtake, dget, Env.get, N8.get, env0, List.length_cons, List.length_nil, Env.set, N8.set, lset, updL]); (repeat' (first | exact trivial | exact rfl | exact nfLL_map (fun x => by simp [nfL, nfD, nfD]) | decide | apply And.intro))) ?_
  all_goals (try dsimp only [RetOK, resOk, resDs, resD, resV, cellV, cellO, cellP, cellOk, htake, nfD, nfL, nfLL, nfH, lget, partOf, xget, ddrop, dtake, dget, Env.get, N8.get, env0, List.length_cons, List.length_nil, Env.set, N8.set, lset, updL])
  all_goals (try simp only [hsM] at *)
  all_goals (refine dbool ?_; simp_all)
abbrev dNt (l b1 : Int) (t1 : Nat) (b2 : Int) (t2 : Nat) (ms : List Mp) : DV := .agg (rNt l b1 t1 b2 t2 ms)
theorem within_spec (l b1 : Int) (t1 : Nat) (b2 : Int) (t2 : Nat) (ms : List Mp) (pr ad po : Int) (hl : ms.length ≤ maxLen) : Spec Tryd.prog 17 [dNt l b1 t1 b2 t2 ms, .v (.int .i64 pr), .v (.int .u32 ad), .v (.int .i64 po)] (.v (.int .i64 (firstI (fun m : Mp => decide (m.pr = pr ∧ m.ad = ad ∧ m.po = po)) ms 0))) := by
  have hi := mpindexf_spec (g := 34) (caps := [.rptr [.v (.int .i64 pr)], .rptr [.v (.int .u32 ad)], .rptr [.v (.int .i64 po)]]) (fun m => decide (m.pr = pr ∧ m.ad = ad ∧ m.po = po)) ms false hl (fun m _ => within1_spec m pr ad po)
  refine hspec_fn Tryd.func17 rfl ok_nat_within okr_nat_within rfl (by kernel_rfl) ?_
  intro Γ hW0 hN0 hL0
  have hW := hW0 rfl
  clear hW0 hN0 hL0
  unfold x_nat_within r_nat_within
  repeat' (first
    | (first | (refine go_leG (leG_freezeP hW ⟨.d0, .d0, .d5⟩ rfl rfl ⟨rfl, rfl, Nat.succ_pos _⟩) ?_) | (refine go_leG (leG_freezeP hW ⟨.d0, .d0, .d6⟩ rfl rfl ⟨rfl, rfl, Nat.succ_pos _⟩) ?_) | (refine go_leG (leG_freezeP hW ⟨.d0, .d0, .d7⟩ rfl rfl ⟨rfl, rfl, Nat.succ_pos _⟩) ?_))
    | (with_reducible first | refine go_seq ?_ | refine go_region ?_ | refine go_regionD mixed_ok ?_ | refine go_cond ?_ | refine go_skip ?_ | refine go_block ?_ | refine nx_code ?_ | refine nx_block ?_ | refine go_ret ?_ | refine nx_nil ?_ | refine go_exit ?_ | refine ex_code ?_ | refine ex_loop ?_ | refine ex_here ?_)
    | ((with_reducible refine ex_past ?_ ?_); (exact by decide))
    | ((with_reducible refine endD_intro ?_ ?_); (exact by kernel_rfl))
    | ((with_reducible refine runR_n ?_ ?_); exact auN)
    | (with_reducible refine runR_call hi ?_)
    | (dsimp only [run, undef, zipO, runR_ok, runR_t, runR_f, gd, gd2, skipR, ex1, pickR, boxR, loadR, loadO, storeR, storeO, nilR, fieldAR, fieldR, partOf, binR, intBin, unR, boolR, kindEq, shiftOp, onlyIf, orB, convR, extR, lenR, indexSlR, gidxR, putE, updL, keysOf, lget, lset, evT, evs, Env.get, Env.set, N8.get, N8.set, env0, cellsD, oneD, oneV, andB, allOne, lenB, mapV, dget, ddrop, dtake, splice, xget, xset, partsD, partsOk, partsE, partsEOk, repl, elemsR, elemsS, elemsO, xdrop, xtake, allOnes, appN, appOwn, appNew, appY, cellEq_i, consO, cmpAll, allB, negB, eqsO, eqsR, minR, evO, bndO, keepB, snapCut, slCut, nilCut, sliceR, isS, isnilL, isnilX, isnilR, makeR, clearO, clearR, sliceW1, sliceW2, sliceW3, sliceWR, appWO, appWR, isnilPR, appD, callvR, cond, condK_t, condK_f, argsE, slots0, List.length_cons, List.length_nil, Bool.true_or, Bool.false_or, Bool.or_true, Bool.or_false, bnf, bnt, Nat.add_zero, Nat.zero_add, Nat.reduceAdd, Nat.reduceMul, Int.reduceToNat, endS])
    | (with_reducible refine runR_b (fun h => ?_) (fun h => ?_) <;> first | exact auH | simp only [h, runR_t, runR_f])
    | (with_reducible refine condK_bl ?_ ?_)
    | (with_reducible refine condK_b (fun h => ?_) (fun h => ?_) <;> first | exact auH | skip)
    | fail)
  all_goals with_reducible refine ret_spec2 (by (try dsimp only [RetOK, resOk, resDs, resD, resV, cellV, cellO, cellP, cellOk, htake, nfD, nfL, nfLL, nfH, lget, partOf, xget, ddrop, dtake, dget, Env.get, N8.get, env0, List.length_cons, List.length_nil, Env.set, N8.set, lset, updL]); (repeat' (first | exact trivial | exact rfl | exact nfLL_map (fun x => by simp [nfL, nfD, nfD]) | decide | apply And.intro))) ?_
  all_goals (try dsimp only [RetOK, resOk, resDs, resD, resV, cellV, cellO, cellP, cellOk, htake, nfD, nfL, nfLL, nfH, lget, partOf, xget, ddrop, dtake, dget, Env.get, N8.get, env0, List.length_cons, List.length_nil, Env.set, N8.set, lset, updL])
  all_goals (try simp only [hsM] at *)
end Go.Proofs.YtegnfpmbmbbaiaaDoor
