/-
  Turns of queues: are they right, in the program.
-/
import Derived.Test.YtkpechddgjbfkaaTurnW
namespace Go.Proofs.Ytkpechddgjbfkaa
set_option linter.unusedVariables false
set_option linter.unusedSimpArgs false
structure Qu where
  (sh sv : Int) (sz : List Int)
abbrev Qu.enc (q : Qu) : List DV := [.v (.int .i64 q.sh), .v (.int .i64 q.sv), .snap 1 (q.sz.map encI) false]
theorem xget_qu {l : List Qu} {k : Nat} {t : Qu} (ht : l[k]? = some t) : xget (l.map Qu.enc) k = [.v (.int .i64 t.sh), .v (.int .i64 t.sv), .snap 1 (t.sz.map encI) false] := xget_map Qu.enc l k t ht
def lgQ (q : Qu) : Bool := decide (200 < q.sz.length)
def bdQ (q : Qu) : Bool := !okSz q.sh || q.sz.any (fun n => !okSz n)
def limQ (q : Qu) : Int := match q.sz with | [] => 1 | x :: _ => x
def fmQ (q : Qu) : Bool := decide (q.sv < 0 ∨ limQ q ≤ q.sv)
def tuErr (s : List Qu) : Int := if decide (16 < s.length) || s.any lgQ then 2 else if s.any bdQ then 1 else if s.any fmQ then 4 else 0
theorem any_drop {α : Type} {f : α → Bool} {l : List α} {k : Nat} {t : α} (ht : l[k]? = some t) : (l.drop k).any f = (f t || (l.drop (k + 1)).any f) := by
  have hk : k < l.length := (List.getElem?_eq_some_iff.1 ht).1
  rw [List.drop_eq_getElem_cons hk, show l[k] = t from Option.some.inj ((List.getElem?_eq_getElem hk).symm.trans ht), List.any_cons]
theorem between_spec (n lo hi : Int) : Spec Try.prog 15 [.v (.int .i64 n), .v (.int .i64 lo), .v (.int .i64 hi)] (.v (.bool (decide (lo ≤ n ∧ n ≤ hi)))) := by
  refine hspec_fn Try.func15 rfl ok_custref_Between okr_custref_Between rfl (by kernel_rfl) ?_
  intro Γ hW0 hN0 hL0
  have hW := hW0 rfl
  clear hW0 hN0 hL0
  unfold x_custref_Between r_custref_Between
  repeat' (first
    | (with_reducible first | refine go_seq ?_ | refine go_region ?_ | refine go_regionD mixed_ok ?_ | refine go_cond ?_ | refine go_skip ?_ | refine go_block ?_ | refine nx_code ?_ | refine nx_block ?_ | refine go_ret ?_ | refine nx_nil ?_ | refine go_exit ?_ | refine ex_code ?_ | refine ex_loop ?_ | refine ex_here ?_)
    | ((with_reducible refine ex_past ?_ ?_); (exact by decide))
    | ((with_reducible refine endD_intro ?_ ?_); (exact by kernel_rfl))
    | ((with_reducible refine runR_n ?_ ?_); (solve | ((repeat' (first | exact trivial | exact rfl | apply And.intro)) <;> (first | exact rfl | (intro hq; cases hq; done) | decide | omega | exact keysOk_map (fun _ => rfl) _ | (simp only [List.length_map, List.length_append, List.length_cons, List.length_nil, List.length_replicate]; done) | (simp only [room, maxLen, allOnes, oneV, List.length_map, List.length_append, List.length_cons, List.length_nil, List.length_replicate] at *; omega) | (simp only [hsL, reduceCtorEq] at * <;> omega)))))
    | fail
    | (dsimp only [run, undef, runR_ok, runR_t, runR_f, gd, gd2, skipR, ex1, pickR, boxR, loadR, loadO, storeR, storeO, nilR, fieldAR, fieldR, partOf, binR, intBin, unR, boolR, kindEq, shiftOp, onlyIf, orB, convR, extR, lenR, indexSlR, indexArrR, putE, updL, keysOf, lget, lset, evT, evs, Env.get, Env.set, N8.get, N8.set, env0, cellsD, oneD, oneV, andB, allOne, lenB, mapV, dget, ddrop, dtake, splice, xget, xset, partsD, partsOk, partsE, partsEOk, repl, elemsR, elemsS, elemsO, xdrop, xtake, allOnes, appN, appOwn, appNew, appY, cellEq_i, cellEq_b, cellEq_s, consO, cmpAll, allB, negB, eqsO, eqsR, eqbR, minR, evO, bndO, keepB, snapCut, slCut, nilCut, sliceR, isS, isnilL, isnilX, isnilR, strBin, sbinR, slenR, strAtR, substrB, substrR, makeR, clearO, clearR, sliceW1, sliceW2, sliceW3, sliceWR, appWO, appWR, okByte, okBytes, b2sR, indexVR, isnilPR, chunk, sliceAR, s2bR, flat1, arrpR, exnR, mgetR, mgetK, mgetO, mputR, mputK, mputO, mlenR, mlenO, mgetLR, mgetLK, mgetLO, mgetLX, mentLR, mentLK, mentLO, mentLX, estLR, estLO, estLX, keyV, valL, s2bOR, appD, callvR, cond, condK_t, condK_f, argsE, slots0, List.length_cons, List.length_nil, Bool.true_or, Bool.false_or, Bool.or_true, Bool.or_false, bnf, bnt, Nat.add_zero, Nat.zero_add, Nat.reduceAdd, Nat.reduceMul, Int.reduceToNat, endS])
    | (with_reducible refine runR_b (fun h => ?_) (fun h => ?_) <;> first | (exfalso; (simp only [hsL, reduceCtorEq] at * <;> omega); done) | simp only [h, runR_t, runR_f])
    | (with_reducible refine condK_bl ?_ ?_)
    | (with_reducible refine condK_b (fun h => ?_) (fun h => ?_) <;> first | (exfalso; (simp only [hsL, reduceCtorEq] at * <;> omega); done) | skip)
    | fail)
  all_goals with_reducible refine ret_spec2 (by (try dsimp only [RetOK, resOk, resDs, resD, resV, cellV, cellO, cellP, cellOk, htake, nfD, nfL, nfLL, nfH, lget, partOf, xget, ddrop, dtake, dget, Env.get, N8.get, env0, List.length_cons, List.length_nil, Env.set, N8.set, lset, updL]); (repeat' (first | exact trivial | exact rfl | exact nfLL_map (fun x => by simp [nfL, nfD, nfD]) | decide | apply And.intro))) ?_
  all_goals (try dsimp only [RetOK, resOk, resDs, resD, resV, cellV, cellO, cellP, cellOk, htake, nfD, nfL, nfLL, nfH, lget, partOf, xget, ddrop, dtake, dget, Env.get, N8.get, env0, List.length_cons, List.length_nil, Env.set, N8.set, lset, updL])
  all_goals (try simp only [hsM] at *)
  · exact dbool (by simp [h])
  · exact dbool (by simp [h])
theorem check1_spec (q : Qu) : Spec Try.prog 63 [.agg q.enc] (.v (.bool (lgQ q))) := by
  refine hspec_fn Try.func63 rfl ok_turns_Check_1 okr_turns_Check_1 rfl (by kernel_rfl) ?_
  intro Γ hW0 hN0 hL0
  have hW := hW0 rfl
  clear hW0 hN0 hL0
  unfold x_turns_Check_1 r_turns_Check_1
  repeat' (first
    | (with_reducible first | refine go_seq ?_ | refine go_region ?_ | refine go_regionD mixed_ok ?_ | refine go_cond ?_ | refine go_skip ?_ | refine go_block ?_ | refine nx_code ?_ | refine nx_block ?_ | refine go_ret ?_ | refine nx_nil ?_ | refine go_exit ?_ | refine ex_code ?_ | refine ex_loop ?_ | refine ex_here ?_)
    | ((with_reducible refine ex_past ?_ ?_); (exact by decide))
    | ((with_reducible refine endD_intro ?_ ?_); (exact by kernel_rfl))
    | ((with_reducible refine runR_n ?_ ?_); (solve | ((repeat' (first | exact trivial | exact rfl | apply And.intro)) <;> (first | exact rfl | (intro hq; cases hq; done) | decide | omega | exact keysOk_map (fun _ => rfl) _ | (simp only [List.length_map, List.length_append, List.length_cons, List.length_nil, List.length_replicate]; done) | (simp only [room, maxLen, allOnes, oneV, List.length_map, List.length_append, List.length_cons, List.length_nil, List.length_replicate] at *; omega) | (simp only [hsL, reduceCtorEq] at * <;> omega)))))
    | fail
    | (dsimp only [run, undef, runR_ok, runR_t, runR_f, gd, gd2, skipR, ex1, pickR, boxR, loadR, loadO, storeR, storeO, nilR, fieldAR, fieldR, partOf, binR, intBin, unR, boolR, kindEq, shiftOp, onlyIf, orB, convR, extR, lenR, indexSlR, indexArrR, putE, updL, keysOf, lget, lset, evT, evs, Env.get, Env.set, N8.get, N8.set, env0, cellsD, oneD, oneV, andB, allOne, lenB, mapV, dget, ddrop, dtake, splice, xget, xset, partsD, partsOk, partsE, partsEOk, repl, elemsR, elemsS, elemsO, xdrop, xtake, allOnes, appN, appOwn, appNew, appY, cellEq_i, cellEq_b, cellEq_s, consO, cmpAll, allB, negB, eqsO, eqsR, eqbR, minR, evO, bndO, keepB, snapCut, slCut, nilCut, sliceR, isS, isnilL, isnilX, isnilR, strBin, sbinR, slenR, strAtR, substrB, substrR, makeR, clearO, clearR, sliceW1, sliceW2, sliceW3, sliceWR, appWO, appWR, okByte, okBytes, b2sR, indexVR, isnilPR, chunk, sliceAR, s2bR, flat1, arrpR, exnR, mgetR, mgetK, mgetO, mputR, mputK, mputO, mlenR, mlenO, mgetLR, mgetLK, mgetLO, mgetLX, mentLR, mentLK, mentLO, mentLX, estLR, estLO, estLX, keyV, valL, s2bOR, appD, callvR, cond, condK_t, condK_f, argsE, slots0, List.length_cons, List.length_nil, Bool.true_or, Bool.false_or, Bool.or_true, Bool.or_false, bnf, bnt, Nat.add_zero, Nat.zero_add, Nat.reduceAdd, Nat.reduceMul, Int.reduceToNat, endS])
    | (with_reducible refine runR_b (fun h => ?_) (fun h => ?_) <;> first | (exfalso; (simp only [hsL, reduceCtorEq] at * <;> omega); done) | simp only [h, runR_t, runR_f])
    | (with_reducible refine condK_bl ?_ ?_)
    | (with_reducible refine condK_b (fun h => ?_) (fun h => ?_) <;> first | (exfalso; (simp only [hsL, reduceCtorEq] at * <;> omega); done) | skip)
    | fail)
  all_goals with_reducible refine ret_spec2 (by (try dsimp only [RetOK, resOk, resDs, resD, resV, cellV, cellO, cellP, cellOk, htake, nfD, nfL, nfLL, nfH, lget, partOf, xget, ddrop, dtake, dget, Env.get, N8.get, env0, List.length_cons, List.length_nil, Env.set, N8.set, lset, updL]); (repeat' (first | exact trivial | exact rfl | exact nfLL_map (fun x => by simp [nfL, nfD, nfD]) | decide | apply And.intro))) ?_
  all_goals (try dsimp only [RetOK, resOk, resDs, resD, resV, cellV, cellO, cellP, cellOk, htake, nfD, nfL, nfLL, nfH, lget, partOf, xget, ddrop, dtake, dget, Env.get, N8.get, env0, List.length_cons, List.length_nil, Env.set, N8.set, lset, updL])
  all_goals (try simp only [hsM] at *)
  all_goals (refine dbool ?_; unfold lgQ; simp; try omega)
set_option maxHeartbeats 1000000 in
theorem quindexf_spec {g : FuncId} {caps : List DV} (p : Qu → Bool) (l : List Qu) (c : Bool) (hl : l.length ≤ maxLen) (hg : ∀ t ∈ l, Spec Try.prog g (.agg (Qu.enc t) :: caps) (.v (.bool (p t)))) : Spec Try.prog 81 [.snap 3 (l.map Qu.enc) c, .fn (.func g) [] caps] (.v (.int .i64 (firstI p l 0))) := by
  unfold maxLen at hl
  refine hspec_fn Try.func81 rfl ok_slices_IndexFunc_api_Queue okr_slices_IndexFunc_api_Queue rfl (by kernel_rfl) ?_
  intro Γ hW0 hN0 hL0
  have hW := hW0 rfl
  clear hW0 hN0 hL0
  unfold x_slices_IndexFunc_api_Queue r_slices_IndexFunc_api_Queue
  repeat' (first
    | (with_reducible first | refine go_seq ?_ | refine go_region ?_ | refine go_regionD mixed_ok ?_ | refine go_cond ?_ | refine go_skip ?_ | refine go_block ?_ | refine nx_code ?_ | refine nx_block ?_ | refine go_ret ?_ | refine nx_nil ?_ | refine go_exit ?_ | refine ex_code ?_ | refine ex_loop ?_ | refine ex_here ?_)
    | ((with_reducible refine ex_past ?_ ?_); (exact by decide))
    | ((with_reducible refine endD_intro ?_ ?_); (exact by kernel_rfl))
    | ((with_reducible refine runR_n ?_ ?_); (solve | ((repeat' (first | exact trivial | exact rfl | apply And.intro)) <;> (first | exact rfl | (intro hq; cases hq; done) | decide | omega | exact keysOk_map (fun _ => rfl) _ | (simp only [List.length_map, List.length_append, List.length_cons, List.length_nil, List.length_replicate]; done) | (simp only [room, maxLen, allOnes, oneV, List.length_map, List.length_append, List.length_cons, List.length_nil, List.length_replicate] at *; omega) | (simp only [hsL, reduceCtorEq] at * <;> omega)))))
    | fail
    | (dsimp only [run, undef, runR_ok, runR_t, runR_f, gd, gd2, skipR, ex1, pickR, boxR, loadR, loadO, storeR, storeO, nilR, fieldAR, fieldR, partOf, binR, intBin, unR, boolR, kindEq, shiftOp, onlyIf, orB, convR, extR, lenR, indexSlR, indexArrR, putE, updL, keysOf, lget, lset, evT, evs, Env.get, Env.set, N8.get, N8.set, env0, cellsD, oneD, oneV, andB, allOne, lenB, mapV, dget, ddrop, dtake, splice, xget, xset, partsD, partsOk, partsE, partsEOk, repl, elemsR, elemsS, elemsO, xdrop, xtake, allOnes, appN, appOwn, appNew, appY, cellEq_i, cellEq_b, cellEq_s, consO, cmpAll, allB, negB, eqsO, eqsR, eqbR, minR, evO, bndO, keepB, snapCut, slCut, nilCut, sliceR, isS, isnilL, isnilX, isnilR, strBin, sbinR, slenR, strAtR, substrB, substrR, makeR, clearO, clearR, sliceW1, sliceW2, sliceW3, sliceWR, appWO, appWR, okByte, okBytes, b2sR, indexVR, isnilPR, chunk, sliceAR, s2bR, flat1, arrpR, exnR, mgetR, mgetK, mgetO, mputR, mputK, mputO, mlenR, mlenO, mgetLR, mgetLK, mgetLO, mgetLX, mentLR, mentLK, mentLO, mentLX, estLR, estLO, estLX, keyV, valL, s2bOR, appD, callvR, cond, condK_t, condK_f, argsE, slots0, List.length_cons, List.length_nil, Bool.true_or, Bool.false_or, Bool.or_true, Bool.or_false, bnf, bnt, Nat.add_zero, Nat.zero_add, Nat.reduceAdd, Nat.reduceMul, Int.reduceToNat, endS])
    | (with_reducible refine runR_b (fun h => ?_) (fun h => ?_) <;> first | (exfalso; (simp only [hsL, reduceCtorEq] at * <;> omega); done) | simp only [h, runR_t, runR_f])
    | (with_reducible refine condK_bl ?_ ?_)
    | (with_reducible refine condK_b (fun h => ?_) (fun h => ?_) <;> first | (exfalso; (simp only [hsL, reduceCtorEq] at * <;> omega); done) | skip)
    | fail)
  refine go_loopH (α := Nat) (fun k => [(⟨.d0, .d1, .d0⟩, .v (.int .i64 (k : Nat)))]) (fun _ => []) (fun _ => Γ.g0) (fun k => l.length - k) (fun k => k ≤ l.length ∧ firstI p l 0 = firstI p (l.drop k) k) 0 ⟨Nat.zero_le _, rfl⟩ ?_ ?_
  · skip
    refine le_mk ?_ ?_ (Nat.le_refl _)
    all_goals dsimp only [leE, leC, leR, leN, leD, leH, leO, writesX, dstsX, appS, havE, setsE, Env.get, Env.set, N8.get, N8.set, updL, lget, lset, env0]
    all_goals (repeat' (first | exact trivial | exact rfl | apply And.intro))
  · rintro k ⟨hk, hp⟩
    dsimp only [writesX, dstsX, appS, havE, setsE, Env.get, Env.set, N8.get, N8.set, updL, lget, lset, env0]
    by_cases hlt : k < l.length
    · obtain ⟨t, ht⟩ : ∃ t, l[k]? = some t := ⟨_, List.getElem?_eq_getElem hlt⟩
      have ex := xget_map Qu.enc l k t ht
      have hgt := hg t (List.mem_of_getElem? ht)
      rw [List.drop_eq_getElem_cons hlt, show l[k] = t from Option.some.inj ((List.getElem?_eq_getElem hlt).symm.trans ht)] at hp
      repeat' (first
        | (with_reducible first | refine go_seq ?_ | refine go_region ?_ | refine go_regionD mixed_ok ?_ | refine go_cond ?_ | refine go_skip ?_ | refine go_block ?_ | refine nx_code ?_ | refine nx_block ?_ | refine go_ret ?_ | refine nx_nil ?_ | refine go_exit ?_ | refine ex_code ?_ | refine ex_loop ?_ | refine ex_here ?_)
        | ((with_reducible refine ex_past ?_ ?_); (exact by decide))
        | ((with_reducible refine endD_intro ?_ ?_); (exact by kernel_rfl))
        | ((with_reducible refine runR_n ?_ ?_); (solve | ((repeat' (first | exact trivial | exact rfl | apply And.intro)) <;> (first | exact rfl | (intro hq; cases hq; done) | decide | omega | exact keysOk_map (fun _ => rfl) _ | (simp only [List.length_map, List.length_append, List.length_cons, List.length_nil, List.length_replicate]; done) | (simp only [room, maxLen, allOnes, oneV, List.length_map, List.length_append, List.length_cons, List.length_nil, List.length_replicate] at *; omega) | (simp only [hsL, reduceCtorEq] at * <;> omega)))))
        | (with_reducible refine runR_call hgt ?_)
        | (dsimp only [run, undef, runR_ok, runR_t, runR_f, gd, gd2, skipR, ex1, pickR, boxR, loadR, loadO, storeR, storeO, nilR, fieldAR, fieldR, partOf, binR, intBin, unR, boolR, kindEq, shiftOp, onlyIf, orB, convR, extR, lenR, indexSlR, indexArrR, putE, updL, keysOf, lget, lset, evT, evs, Env.get, Env.set, N8.get, N8.set, env0, cellsD, oneD, oneV, andB, allOne, lenB, mapV, dget, ddrop, dtake, splice, xget, xset, partsD, partsOk, partsE, partsEOk, repl, elemsR, elemsS, elemsO, xdrop, xtake, allOnes, appN, appOwn, appNew, appY, cellEq_i, cellEq_b, cellEq_s, consO, cmpAll, allB, negB, eqsO, eqsR, eqbR, minR, evO, bndO, keepB, snapCut, slCut, nilCut, sliceR, isS, isnilL, isnilX, isnilR, strBin, sbinR, slenR, strAtR, substrB, substrR, makeR, clearO, clearR, sliceW1, sliceW2, sliceW3, sliceWR, appWO, appWR, okByte, okBytes, b2sR, indexVR, isnilPR, chunk, sliceAR, s2bR, flat1, arrpR, exnR, mgetR, mgetK, mgetO, mputR, mputK, mputO, mlenR, mlenO, mgetLR, mgetLK, mgetLO, mgetLX, mentLR, mentLK, mentLO, mentLX, estLR, estLO, estLX, keyV, valL, s2bOR, appD, callvR, cond, condK_t, condK_f, argsE, slots0, List.length_cons, List.length_nil, Bool.true_or, Bool.false_or, Bool.or_true, Bool.or_false, bnf, bnt, Nat.add_zero, Nat.zero_add, Nat.reduceAdd, Nat.reduceMul, Int.reduceToNat, endS])
        | (with_reducible refine runR_b (fun h => ?_) (fun h => ?_) <;> first | (exfalso; (simp only [hsL, reduceCtorEq] at * <;> omega); done) | simp only [h, runR_t, runR_f])
        | (with_reducible refine condK_bl ?_ ?_)
        | (with_reducible refine condK_b (fun h => ?_) (fun h => ?_) <;> first | (exfalso; (simp only [hsL, reduceCtorEq] at * <;> omega); done) | skip)
        | (simp only [Int.toNat_natCast, ex]))
      (all_goals first | (exfalso; (try simp only [List.length_map] at *); first | omega | (simp only [hsL, reduceCtorEq] at * <;> omega)) | skip)
      · skip
        all_goals with_reducible refine ret_spec2 (by (try dsimp only [RetOK, resOk, resDs, resD, resV, cellV, cellO, cellP, cellOk, htake, nfD, nfL, nfLL, nfH, lget, partOf, xget, ddrop, dtake, dget, Env.get, N8.get, env0, List.length_cons, List.length_nil, Env.set, N8.set, lset, updL]); (repeat' (first | exact trivial | exact rfl | exact nfLL_map (fun x => by simp [nfL, nfD, nfD]) | decide | apply And.intro))) ?_
        all_goals (try dsimp only [RetOK, resOk, resDs, resD, resV, cellV, cellO, cellP, cellOk, htake, nfD, nfL, nfLL, nfH, lget, partOf, xget, ddrop, dtake, dget, Env.get, N8.get, env0, List.length_cons, List.length_nil, Env.set, N8.set, lset, updL])
        all_goals (try simp only [hsM] at *)
        rw [hp]
        simp [firstI, *]
      · refine nx_loop ?_
        refine ⟨k + 1, ⟨Nat.succ_le_of_lt hlt, by rw [hp]; simp [firstI, *]⟩, Nat.sub_lt_sub_left hlt (Nat.lt_succ_self k), ?_⟩
        refine le_mk ?_ ?_ (Nat.le_refl _)
        all_goals dsimp only [leE, leC, leR, leN, leD, leH, leO, writesX, dstsX, appS, havE, setsE, Env.get, Env.set, N8.get, N8.set, updL, lget, lset, env0]
        all_goals (repeat' (first | exact trivial | exact rfl | apply And.intro))
        exact dint ((IntWalk.i64_in _ (by omega)).trans (by omega))
    · skip
      repeat' (first
        | (with_reducible first | refine go_seq ?_ | refine go_region ?_ | refine go_regionD mixed_ok ?_ | refine go_cond ?_ | refine go_skip ?_ | refine go_block ?_ | refine nx_code ?_ | refine nx_block ?_ | refine go_ret ?_ | refine nx_nil ?_ | refine go_exit ?_ | refine ex_code ?_ | refine ex_loop ?_ | refine ex_here ?_)
        | ((with_reducible refine ex_past ?_ ?_); (exact by decide))
        | ((with_reducible refine endD_intro ?_ ?_); (exact by kernel_rfl))
        | ((with_reducible refine runR_n ?_ ?_); (solve | ((repeat' (first | exact trivial | exact rfl | apply And.intro)) <;> (first | exact rfl | (intro hq; cases hq; done) | decide | omega | exact keysOk_map (fun _ => rfl) _ | (simp only [List.length_map, List.length_append, List.length_cons, List.length_nil, List.length_replicate]; done) | (simp only [room, maxLen, allOnes, oneV, List.length_map, List.length_append, List.length_cons, List.length_nil, List.length_replicate] at *; omega) | (simp only [hsL, reduceCtorEq] at * <;> omega)))))
        | fail
        | (dsimp only [run, undef, runR_ok, runR_t, runR_f, gd, gd2, skipR, ex1, pickR, boxR, loadR, loadO, storeR, storeO, nilR, fieldAR, fieldR, partOf, binR, intBin, unR, boolR, kindEq, shiftOp, onlyIf, orB, convR, extR, lenR, indexSlR, indexArrR, putE, updL, keysOf, lget, lset, evT, evs, Env.get, Env.set, N8.get, N8.set, env0, cellsD, oneD, oneV, andB, allOne, lenB, mapV, dget, ddrop, dtake, splice, xget, xset, partsD, partsOk, partsE, partsEOk, repl, elemsR, elemsS, elemsO, xdrop, xtake, allOnes, appN, appOwn, appNew, appY, cellEq_i, cellEq_b, cellEq_s, consO, cmpAll, allB, negB, eqsO, eqsR, eqbR, minR, evO, bndO, keepB, snapCut, slCut, nilCut, sliceR, isS, isnilL, isnilX, isnilR, strBin, sbinR, slenR, strAtR, substrB, substrR, makeR, clearO, clearR, sliceW1, sliceW2, sliceW3, sliceWR, appWO, appWR, okByte, okBytes, b2sR, indexVR, isnilPR, chunk, sliceAR, s2bR, flat1, arrpR, exnR, mgetR, mgetK, mgetO, mputR, mputK, mputO, mlenR, mlenO, mgetLR, mgetLK, mgetLO, mgetLX, mentLR, mentLK, mentLO, mentLX, estLR, estLO, estLX, keyV, valL, s2bOR, appD, callvR, cond, condK_t, condK_f, argsE, slots0, List.length_cons, List.length_nil, Bool.true_or, Bool.false_or, Bool.or_true, Bool.or_false, bnf, bnt, Nat.add_zero, Nat.zero_add, Nat.reduceAdd, Nat.reduceMul, Int.reduceToNat, endS])
        | (with_reducible refine runR_b (fun h => ?_) (fun h => ?_) <;> first | (exfalso; (simp only [hsL, reduceCtorEq] at * <;> omega); done) | simp only [h, runR_t, runR_f])
        | (with_reducible refine condK_bl ?_ ?_)
        | (with_reducible refine condK_b (fun h => ?_) (fun h => ?_) <;> first | (exfalso; (simp only [hsL, reduceCtorEq] at * <;> omega); done) | skip)
        | fail)
      (all_goals first | (exfalso; (try simp only [List.length_map] at *); first | omega | (simp only [hsL, reduceCtorEq] at * <;> omega)) | skip)
      all_goals with_reducible refine ret_spec2 (by (try dsimp only [RetOK, resOk, resDs, resD, resV, cellV, cellO, cellP, cellOk, htake, nfD, nfL, nfLL, nfH, lget, partOf, xget, ddrop, dtake, dget, Env.get, N8.get, env0, List.length_cons, List.length_nil, Env.set, N8.set, lset, updL]); (repeat' (first | exact trivial | exact rfl | exact nfLL_map (fun x => by simp [nfL, nfD, nfD]) | decide | apply And.intro))) ?_
      all_goals (try dsimp only [RetOK, resOk, resDs, resD, resV, cellV, cellO, cellP, cellOk, htake, nfD, nfL, nfLL, nfH, lget, partOf, xget, ddrop, dtake, dget, Env.get, N8.get, env0, List.length_cons, List.length_nil, Env.set, N8.set, lset, updL])
      all_goals (try simp only [hsM] at *)
      obtain rfl : k = l.length := by omega
      rw [hp, List.drop_length]
      rfl
theorem containsQ_spec (l : List Qu) (c : Bool) (hl : l.length ≤ maxLen) : Spec Try.prog 62 [.snap 3 (l.map Qu.enc) c, .fn (.func 63) [] []] (.v (.bool (l.any lgQ))) := by
  have hi := quindexf_spec (g := 63) (caps := []) lgQ l c hl (fun q _ => check1_spec q)
  refine hspec_fn Try.func62 rfl ok_slices_ContainsFunc_api_Queue okr_slices_ContainsFunc_api_Queue rfl (by kernel_rfl) ?_
  intro Γ hW0 hN0 hL0
  have hW := hW0 rfl
  clear hW0 hN0 hL0
  unfold x_slices_ContainsFunc_api_Queue r_slices_ContainsFunc_api_Queue
  repeat' (first
    | (with_reducible first | refine go_seq ?_ | refine go_region ?_ | refine go_regionD mixed_ok ?_ | refine go_cond ?_ | refine go_skip ?_ | refine go_block ?_ | refine nx_code ?_ | refine nx_block ?_ | refine go_ret ?_ | refine nx_nil ?_ | refine go_exit ?_ | refine ex_code ?_ | refine ex_loop ?_ | refine ex_here ?_)
    | ((with_reducible refine ex_past ?_ ?_); (exact by decide))
    | ((with_reducible refine endD_intro ?_ ?_); (exact by kernel_rfl))
    | ((with_reducible refine runR_n ?_ ?_); (solve | ((repeat' (first | exact trivial | exact rfl | apply And.intro)) <;> (first | exact rfl | (intro hq; cases hq; done) | decide | omega | exact keysOk_map (fun _ => rfl) _ | (simp only [List.length_map, List.length_append, List.length_cons, List.length_nil, List.length_replicate]; done) | (simp only [room, maxLen, allOnes, oneV, List.length_map, List.length_append, List.length_cons, List.length_nil, List.length_replicate] at *; omega) | (simp only [hsL, reduceCtorEq] at * <;> omega)))))
    | (with_reducible refine runR_call hi ?_)
    | (dsimp only [run, undef, runR_ok, runR_t, runR_f, gd, gd2, skipR, ex1, pickR, boxR, loadR, loadO, storeR, storeO, nilR, fieldAR, fieldR, partOf, binR, intBin, unR, boolR, kindEq, shiftOp, onlyIf, orB, convR, extR, lenR, indexSlR, indexArrR, putE, updL, keysOf, lget, lset, evT, evs, Env.get, Env.set, N8.get, N8.set, env0, cellsD, oneD, oneV, andB, allOne, lenB, mapV, dget, ddrop, dtake, splice, xget, xset, partsD, partsOk, partsE, partsEOk, repl, elemsR, elemsS, elemsO, xdrop, xtake, allOnes, appN, appOwn, appNew, appY, cellEq_i, cellEq_b, cellEq_s, consO, cmpAll, allB, negB, eqsO, eqsR, eqbR, minR, evO, bndO, keepB, snapCut, slCut, nilCut, sliceR, isS, isnilL, isnilX, isnilR, strBin, sbinR, slenR, strAtR, substrB, substrR, makeR, clearO, clearR, sliceW1, sliceW2, sliceW3, sliceWR, appWO, appWR, okByte, okBytes, b2sR, indexVR, isnilPR, chunk, sliceAR, s2bR, flat1, arrpR, exnR, mgetR, mgetK, mgetO, mputR, mputK, mputO, mlenR, mlenO, mgetLR, mgetLK, mgetLO, mgetLX, mentLR, mentLK, mentLO, mentLX, estLR, estLO, estLX, keyV, valL, s2bOR, appD, callvR, cond, condK_t, condK_f, argsE, slots0, List.length_cons, List.length_nil, Bool.true_or, Bool.false_or, Bool.or_true, Bool.or_false, bnf, bnt, Nat.add_zero, Nat.zero_add, Nat.reduceAdd, Nat.reduceMul, Int.reduceToNat, endS])
    | (with_reducible refine runR_b (fun h => ?_) (fun h => ?_) <;> first | (exfalso; (simp only [hsL, reduceCtorEq] at * <;> omega); done) | simp only [h, runR_t, runR_f])
    | (with_reducible refine condK_bl ?_ ?_)
    | (with_reducible refine condK_b (fun h => ?_) (fun h => ?_) <;> first | (exfalso; (simp only [hsL, reduceCtorEq] at * <;> omega); done) | skip)
    | fail)
  all_goals with_reducible refine ret_spec2 (by (try dsimp only [RetOK, resOk, resDs, resD, resV, cellV, cellO, cellP, cellOk, htake, nfD, nfL, nfLL, nfH, lget, partOf, xget, ddrop, dtake, dget, Env.get, N8.get, env0, List.length_cons, List.length_nil, Env.set, N8.set, lset, updL]); (repeat' (first | exact trivial | exact rfl | exact nfLL_map (fun x => by simp [nfL, nfD, nfD]) | decide | apply And.intro))) ?_
  all_goals (try dsimp only [RetOK, resOk, resDs, resD, resV, cellV, cellO, cellP, cellOk, htake, nfD, nfL, nfLL, nfH, lget, partOf, xget, ddrop, dtake, dget, Env.get, N8.get, env0, List.length_cons, List.length_nil, Env.set, N8.set, lset, updL])
  all_goals (try simp only [hsM] at *)
  all_goals exact dbool (firstI_any _ _)
set_option maxRecDepth 8000 in
set_option maxHeartbeats 4000000 in
theorem tcheck_spec (s : List Qu) (c : Bool) (hl : s.length ≤ maxLen) (hz : ∀ q ∈ s, q.sz.length ≤ maxLen) : Spec Try.prog 32 [.snap 3 (s.map Qu.enc) c] (.v (.int .i64 (tuErr s))) := by
  have h1 := containsQ_spec s c hl
  have hlen : (s.map Qu.enc).length = s.length := List.length_map _
  have hl' := hl
  unfold maxLen at hl'
  cases hlg : (decide (16 < s.length) || s.any lgQ) with
  | true =>
    have e : tuErr s = 2 := by unfold tuErr; rw [hlg]; rfl
    rw [e]
    by_cases h16 : 16 < s.length
    · skip
      refine hspec_fn Try.func32 rfl ok_turns_Check okr_turns_Check rfl (by kernel_rfl) ?_
      intro Γ hW0 hN0 hL0
      have hW := hW0 rfl
      clear hW0 hN0 hL0
      unfold x_turns_Check r_turns_Check
      repeat' (first
        | (with_reducible first | refine go_seq ?_ | refine go_region ?_ | refine go_regionD mixed_ok ?_ | refine go_cond ?_ | refine go_skip ?_ | refine go_block ?_ | refine nx_code ?_ | refine nx_block ?_ | refine go_ret ?_ | refine nx_nil ?_ | refine go_exit ?_ | refine ex_code ?_ | refine ex_loop ?_ | refine ex_here ?_)
        | ((with_reducible refine ex_past ?_ ?_); (exact by decide))
        | ((with_reducible refine endD_intro ?_ ?_); (exact by kernel_rfl))
        | ((with_reducible refine runR_n ?_ ?_); (solve | ((repeat' (first | exact trivial | exact rfl | apply And.intro)) <;> (first | exact rfl | (intro hq; cases hq; done) | decide | omega | exact keysOk_map (fun _ => rfl) _ | (simp only [List.length_map, List.length_append, List.length_cons, List.length_nil, List.length_replicate]; done) | (simp only [room, maxLen, allOnes, oneV, List.length_map, List.length_append, List.length_cons, List.length_nil, List.length_replicate] at *; omega) | (simp only [hsL, reduceCtorEq] at * <;> omega)))))
        | (first | (with_reducible refine runR_call h1 ?_))
        | (dsimp only [run, undef, runR_ok, runR_t, runR_f, gd, gd2, skipR, ex1, pickR, boxR, loadR, loadO, storeR, storeO, nilR, fieldAR, fieldR, partOf, binR, intBin, unR, boolR, kindEq, shiftOp, onlyIf, orB, convR, extR, lenR, indexSlR, indexArrR, putE, updL, keysOf, lget, lset, evT, evs, Env.get, Env.set, N8.get, N8.set, env0, cellsD, oneD, oneV, andB, allOne, lenB, mapV, dget, ddrop, dtake, splice, xget, xset, partsD, partsOk, partsE, partsEOk, repl, elemsR, elemsS, elemsO, xdrop, xtake, allOnes, appN, appOwn, appNew, appY, cellEq_i, cellEq_b, cellEq_s, consO, cmpAll, allB, negB, eqsO, eqsR, eqbR, minR, evO, bndO, keepB, snapCut, slCut, nilCut, sliceR, isS, isnilL, isnilX, isnilR, strBin, sbinR, slenR, strAtR, substrB, substrR, makeR, clearO, clearR, sliceW1, sliceW2, sliceW3, sliceWR, appWO, appWR, okByte, okBytes, b2sR, indexVR, isnilPR, chunk, sliceAR, s2bR, flat1, arrpR, exnR, mgetR, mgetK, mgetO, mputR, mputK, mputO, mlenR, mlenO, mgetLR, mgetLK, mgetLO, mgetLX, mentLR, mentLK, mentLO, mentLX, estLR, estLO, estLX, keyV, valL, s2bOR, appD, callvR, cond, condK_t, condK_f, argsE, slots0, List.length_cons, List.length_nil, Bool.true_or, Bool.false_or, Bool.or_true, Bool.or_false, bnf, bnt, Nat.add_zero, Nat.zero_add, Nat.reduceAdd, Nat.reduceMul, Int.reduceToNat, endS])
        | (with_reducible refine runR_b (fun h => ?_) (fun h => ?_) <;> first | (exfalso; (simp only [hsL, reduceCtorEq] at * <;> omega); done) | simp only [h, runR_t, runR_f])
        | (with_reducible refine condK_bl ?_ ?_)
        | (with_reducible refine condK_b (fun h => ?_) (fun h => ?_) <;> first | (exfalso; (simp only [hsL, reduceCtorEq] at * <;> omega); done) | skip)
        | fail)
      (all_goals first | (exfalso; (try simp only [List.length_map] at *); first | omega | (simp only [hsL, reduceCtorEq] at * <;> omega)) | skip)
      all_goals first
        | (exfalso; simp at h; done)
        | skip
      all_goals with_reducible refine ret_spec2 (by (try dsimp only [RetOK, resOk, resDs, resD, resV, cellV, cellO, cellP, cellOk, htake, nfD, nfL, nfLL, nfH, lget, partOf, xget, ddrop, dtake, dget, Env.get, N8.get, env0, List.length_cons, List.length_nil, Env.set, N8.set, lset, updL]); (repeat' (first | exact trivial | exact rfl | exact nfLL_map (fun x => by simp [nfL, nfD, nfD]) | decide | apply And.intro))) ?_
      all_goals (try dsimp only [RetOK, resOk, resDs, resD, resV, cellV, cellO, cellP, cellOk, htake, nfD, nfL, nfLL, nfH, lget, partOf, xget, ddrop, dtake, dget, Env.get, N8.get, env0, List.length_cons, List.length_nil, Env.set, N8.set, lset, updL])
      all_goals (try simp only [hsM] at *)
    · have h2 : s.any lgQ = true := by rw [decide_eq_false h16, Bool.false_or] at hlg; exact hlg
      rw [h2] at h1
      refine hspec_fn Try.func32 rfl ok_turns_Check okr_turns_Check rfl (by kernel_rfl) ?_
      intro Γ hW0 hN0 hL0
      have hW := hW0 rfl
      clear hW0 hN0 hL0
      unfold x_turns_Check r_turns_Check
      repeat' (first
        | (with_reducible first | refine go_seq ?_ | refine go_region ?_ | refine go_regionD mixed_ok ?_ | refine go_cond ?_ | refine go_skip ?_ | refine go_block ?_ | refine nx_code ?_ | refine nx_block ?_ | refine go_ret ?_ | refine nx_nil ?_ | refine go_exit ?_ | refine ex_code ?_ | refine ex_loop ?_ | refine ex_here ?_)
        | ((with_reducible refine ex_past ?_ ?_); (exact by decide))
        | ((with_reducible refine endD_intro ?_ ?_); (exact by kernel_rfl))
        | ((with_reducible refine runR_n ?_ ?_); (solve | ((repeat' (first | exact trivial | exact rfl | apply And.intro)) <;> (first | exact rfl | (intro hq; cases hq; done) | decide | omega | exact keysOk_map (fun _ => rfl) _ | (simp only [List.length_map, List.length_append, List.length_cons, List.length_nil, List.length_replicate]; done) | (simp only [room, maxLen, allOnes, oneV, List.length_map, List.length_append, List.length_cons, List.length_nil, List.length_replicate] at *; omega) | (simp only [hsL, reduceCtorEq] at * <;> omega)))))
        | (first | (with_reducible refine runR_call h1 ?_))
        | (dsimp only [run, undef, runR_ok, runR_t, runR_f, gd, gd2, skipR, ex1, pickR, boxR, loadR, loadO, storeR, storeO, nilR, fieldAR, fieldR, partOf, binR, intBin, unR, boolR, kindEq, shiftOp, onlyIf, orB, convR, extR, lenR, indexSlR, indexArrR, putE, updL, keysOf, lget, lset, evT, evs, Env.get, Env.set, N8.get, N8.set, env0, cellsD, oneD, oneV, andB, allOne, lenB, mapV, dget, ddrop, dtake, splice, xget, xset, partsD, partsOk, partsE, partsEOk, repl, elemsR, elemsS, elemsO, xdrop, xtake, allOnes, appN, appOwn, appNew, appY, cellEq_i, cellEq_b, cellEq_s, consO, cmpAll, allB, negB, eqsO, eqsR, eqbR, minR, evO, bndO, keepB, snapCut, slCut, nilCut, sliceR, isS, isnilL, isnilX, isnilR, strBin, sbinR, slenR, strAtR, substrB, substrR, makeR, clearO, clearR, sliceW1, sliceW2, sliceW3, sliceWR, appWO, appWR, okByte, okBytes, b2sR, indexVR, isnilPR, chunk, sliceAR, s2bR, flat1, arrpR, exnR, mgetR, mgetK, mgetO, mputR, mputK, mputO, mlenR, mlenO, mgetLR, mgetLK, mgetLO, mgetLX, mentLR, mentLK, mentLO, mentLX, estLR, estLO, estLX, keyV, valL, s2bOR, appD, callvR, cond, condK_t, condK_f, argsE, slots0, List.length_cons, List.length_nil, Bool.true_or, Bool.false_or, Bool.or_true, Bool.or_false, bnf, bnt, Nat.add_zero, Nat.zero_add, Nat.reduceAdd, Nat.reduceMul, Int.reduceToNat, endS])
        | (with_reducible refine runR_b (fun h => ?_) (fun h => ?_) <;> first | (exfalso; (simp only [hsL, reduceCtorEq] at * <;> omega); done) | simp only [h, runR_t, runR_f])
        | (with_reducible refine condK_bl ?_ ?_)
        | (with_reducible refine condK_b (fun h => ?_) (fun h => ?_) <;> first | (exfalso; (simp only [hsL, reduceCtorEq] at * <;> omega); done) | skip)
        | fail)
      (all_goals first | (exfalso; (try simp only [List.length_map] at *); first | omega | (simp only [hsL, reduceCtorEq] at * <;> omega)) | skip)
      all_goals first
        | (exfalso; simp at h; done)
        | skip
      all_goals with_reducible refine ret_spec2 (by (try dsimp only [RetOK, resOk, resDs, resD, resV, cellV, cellO, cellP, cellOk, htake, nfD, nfL, nfLL, nfH, lget, partOf, xget, ddrop, dtake, dget, Env.get, N8.get, env0, List.length_cons, List.length_nil, Env.set, N8.set, lset, updL]); (repeat' (first | exact trivial | exact rfl | exact nfLL_map (fun x => by simp [nfL, nfD, nfD]) | decide | apply And.intro))) ?_
      all_goals (try dsimp only [RetOK, resOk, resDs, resD, resV, cellV, cellO, cellP, cellOk, htake, nfD, nfL, nfLL, nfH, lget, partOf, xget, ddrop, dtake, dget, Env.get, N8.get, env0, List.length_cons, List.length_nil, Env.set, N8.set, lset, updL])
      all_goals (try simp only [hsM] at *)
  | false =>
    rw [Bool.or_eq_false_iff, decide_eq_false_iff_not] at hlg
    obtain ⟨h16, h2⟩ := hlg
    have e : tuErr s = if s.any bdQ then 1 else if s.any fmQ then 4 else 0 := by unfold tuErr; rw [h2, decide_eq_false h16]; rfl
    rw [e]
    rw [h2] at h1
    refine hspec_fn Try.func32 rfl ok_turns_Check okr_turns_Check rfl (by kernel_rfl) ?_
    intro Γ hW0 hN0 hL0
    have hW := hW0 rfl
    clear hW0 hN0 hL0
    unfold x_turns_Check r_turns_Check
    repeat' (first
      | (with_reducible first | refine go_seq ?_ | refine go_region ?_ | refine go_regionD mixed_ok ?_ | refine go_cond ?_ | refine go_skip ?_ | refine go_block ?_ | refine nx_code ?_ | refine nx_block ?_ | refine go_ret ?_ | refine nx_nil ?_ | refine go_exit ?_ | refine ex_code ?_ | refine ex_loop ?_ | refine ex_here ?_)
      | ((with_reducible refine ex_past ?_ ?_); (exact by decide))
      | ((with_reducible refine endD_intro ?_ ?_); (exact by kernel_rfl))
      | ((with_reducible refine runR_n ?_ ?_); (solve | ((repeat' (first | exact trivial | exact rfl | apply And.intro)) <;> (first | exact rfl | (intro hq; cases hq; done) | decide | omega | exact keysOk_map (fun _ => rfl) _ | (simp only [List.length_map, List.length_append, List.length_cons, List.length_nil, List.length_replicate]; done) | (simp only [room, maxLen, allOnes, oneV, List.length_map, List.length_append, List.length_cons, List.length_nil, List.length_replicate] at *; omega) | (simp only [hsL, reduceCtorEq] at * <;> omega)))))
      | (first | (with_reducible refine runR_call h1 ?_))
      | (dsimp only [run, undef, runR_ok, runR_t, runR_f, gd, gd2, skipR, ex1, pickR, boxR, loadR, loadO, storeR, storeO, nilR, fieldAR, fieldR, partOf, binR, intBin, unR, boolR, kindEq, shiftOp, onlyIf, orB, convR, extR, lenR, indexSlR, indexArrR, putE, updL, keysOf, lget, lset, evT, evs, Env.get, Env.set, N8.get, N8.set, env0, cellsD, oneD, oneV, andB, allOne, lenB, mapV, dget, ddrop, dtake, splice, xget, xset, partsD, partsOk, partsE, partsEOk, repl, elemsR, elemsS, elemsO, xdrop, xtake, allOnes, appN, appOwn, appNew, appY, cellEq_i, cellEq_b, cellEq_s, consO, cmpAll, allB, negB, eqsO, eqsR, eqbR, minR, evO, bndO, keepB, snapCut, slCut, nilCut, sliceR, isS, isnilL, isnilX, isnilR, strBin, sbinR, slenR, strAtR, substrB, substrR, makeR, clearO, clearR, sliceW1, sliceW2, sliceW3, sliceWR, appWO, appWR, okByte, okBytes, b2sR, indexVR, isnilPR, chunk, sliceAR, s2bR, flat1, arrpR, exnR, mgetR, mgetK, mgetO, mputR, mputK, mputO, mlenR, mlenO, mgetLR, mgetLK, mgetLO, mgetLX, mentLR, mentLK, mentLO, mentLX, estLR, estLO, estLX, keyV, valL, s2bOR, appD, callvR, cond, condK_t, condK_f, argsE, slots0, List.length_cons, List.length_nil, Bool.true_or, Bool.false_or, Bool.or_true, Bool.or_false, bnf, bnt, Nat.add_zero, Nat.zero_add, Nat.reduceAdd, Nat.reduceMul, Int.reduceToNat, endS])
      | (with_reducible refine runR_b (fun h => ?_) (fun h => ?_) <;> first | (exfalso; (simp only [hsL, reduceCtorEq] at * <;> omega); done) | simp only [h, runR_t, runR_f])
      | (with_reducible refine condK_bl ?_ ?_)
      | (with_reducible refine condK_b (fun h => ?_) (fun h => ?_) <;> first | (exfalso; (simp only [hsL, reduceCtorEq] at * <;> omega); done) | skip)
      | fail)
    (all_goals first | (exfalso; (try simp only [List.length_map] at *); first | omega | (simp only [hsL, reduceCtorEq] at * <;> omega)) | skip)
    all_goals first
      | (exfalso; simp at h; done)
      | skip
    refine go_loopH (α := Nat × Nat) (fun p => [(⟨.d0, .d2, .d0⟩, .v (.int .i64 (p.1 : Nat)))]) (fun _ => [(0, none)]) (fun p => p.2) (fun p => s.length - p.1) (fun p => p.1 ≤ s.length ∧ s.any bdQ = (s.drop p.1).any bdQ) (0, Γ.g0) ⟨Nat.zero_le _, rfl⟩ ?_ ?_
    · skip
      refine le_mk ?_ ?_ (Nat.le_refl _)
      all_goals dsimp only [leE, leC, leR, leN, leD, leH, leO, writesX, dstsX, appS, havE, setsE, Env.get, Env.set, N8.get, N8.set, updL, lget, lset, env0]
      all_goals (repeat' (first | exact trivial | exact rfl | apply And.intro))
    rintro ⟨k, gn⟩ ⟨hk, hb⟩
    dsimp only at hk hb ⊢
    dsimp only [writesX, dstsX, appS, havE, setsE, Env.get, Env.set, N8.get, N8.set, updL, lget, lset, env0]
    by_cases hlt : k < s.length
    · obtain ⟨q, hq⟩ : ∃ q, s[k]? = some q := ⟨_, List.getElem?_eq_getElem hlt⟩
      have ex := xget_qu hq
      have hqm := hz q (List.mem_of_getElem? hq)
      have hwk : IntKind.i64.wrap ((k : Int) + 1) = ((k + 1 : Nat) : Int) := (IntWalk.i64_in _ (by omega)).trans (by omega)
      have c1 := size_spec q.sh
      have c2 := containsI_spec q.sz false hqm
      rw [any_drop hq, bdQ] at hb
      cases o1 : okSz q.sh with
      | false =>
        rw [o1] at c1 hb
        rw [hb]
        repeat' (first
          | (with_reducible first | refine go_seq ?_ | refine go_region ?_ | refine go_regionD mixed_ok ?_ | refine go_cond ?_ | refine go_skip ?_ | refine go_block ?_ | refine nx_code ?_ | refine nx_block ?_ | refine go_ret ?_ | refine nx_nil ?_ | refine go_exit ?_ | refine ex_code ?_ | refine ex_loop ?_ | refine ex_here ?_)
          | ((with_reducible refine ex_past ?_ ?_); (exact by decide))
          | ((with_reducible refine endD_intro ?_ ?_); (exact by kernel_rfl))
          | ((with_reducible refine runR_n ?_ ?_); (solve | ((repeat' (first | exact trivial | exact rfl | apply And.intro)) <;> (first | exact rfl | (intro hq; cases hq; done) | decide | omega | exact keysOk_map (fun _ => rfl) _ | (simp only [List.length_map, List.length_append, List.length_cons, List.length_nil, List.length_replicate]; done) | (simp only [room, maxLen, allOnes, oneV, List.length_map, List.length_append, List.length_cons, List.length_nil, List.length_replicate] at *; omega) | (simp only [hsL, reduceCtorEq] at * <;> omega)))))
          | (first | (with_reducible refine runR_call c1 ?_) | (with_reducible refine runR_call c2 ?_))
          | (dsimp only [run, undef, runR_ok, runR_t, runR_f, gd, gd2, skipR, ex1, pickR, boxR, loadR, loadO, storeR, storeO, nilR, fieldAR, fieldR, partOf, binR, intBin, unR, boolR, kindEq, shiftOp, onlyIf, orB, convR, extR, lenR, indexSlR, indexArrR, putE, updL, keysOf, lget, lset, evT, evs, Env.get, Env.set, N8.get, N8.set, env0, cellsD, oneD, oneV, andB, allOne, lenB, mapV, dget, ddrop, dtake, splice, xget, xset, partsD, partsOk, partsE, partsEOk, repl, elemsR, elemsS, elemsO, xdrop, xtake, allOnes, appN, appOwn, appNew, appY, cellEq_i, cellEq_b, cellEq_s, consO, cmpAll, allB, negB, eqsO, eqsR, eqbR, minR, evO, bndO, keepB, snapCut, slCut, nilCut, sliceR, isS, isnilL, isnilX, isnilR, strBin, sbinR, slenR, strAtR, substrB, substrR, makeR, clearO, clearR, sliceW1, sliceW2, sliceW3, sliceWR, appWO, appWR, okByte, okBytes, b2sR, indexVR, isnilPR, chunk, sliceAR, s2bR, flat1, arrpR, exnR, mgetR, mgetK, mgetO, mputR, mputK, mputO, mlenR, mlenO, mgetLR, mgetLK, mgetLO, mgetLX, mentLR, mentLK, mentLO, mentLX, estLR, estLO, estLX, keyV, valL, s2bOR, appD, callvR, cond, condK_t, condK_f, argsE, slots0, List.length_cons, List.length_nil, Bool.true_or, Bool.false_or, Bool.or_true, Bool.or_false, bnf, bnt, Nat.add_zero, Nat.zero_add, Nat.reduceAdd, Nat.reduceMul, Int.reduceToNat, endS])
          | (with_reducible refine runR_b (fun h => ?_) (fun h => ?_) <;> first | (exfalso; (simp only [hsL, reduceCtorEq] at * <;> omega); done) | simp only [h, runR_t, runR_f])
          | (with_reducible refine condK_bl ?_ ?_)
          | (with_reducible refine condK_b (fun h => ?_) (fun h => ?_) <;> first | (exfalso; (simp only [hsL, reduceCtorEq] at * <;> omega); done) | skip)
          | (simp only [Int.toNat_natCast, ex]))
        (all_goals first | (exfalso; (try simp only [List.length_map] at *); first | omega | (simp only [hsL, reduceCtorEq] at * <;> omega)) | skip)
        all_goals with_reducible refine ret_spec2 (by (try dsimp only [RetOK, resOk, resDs, resD, resV, cellV, cellO, cellP, cellOk, htake, nfD, nfL, nfLL, nfH, lget, partOf, xget, ddrop, dtake, dget, Env.get, N8.get, env0, List.length_cons, List.length_nil, Env.set, N8.set, lset, updL]); (repeat' (first | exact trivial | exact rfl | exact nfLL_map (fun x => by simp [nfL, nfD, nfD]) | decide | apply And.intro))) ?_
        all_goals (try dsimp only [RetOK, resOk, resDs, resD, resV, cellV, cellO, cellP, cellOk, htake, nfD, nfL, nfLL, nfH, lget, partOf, xget, ddrop, dtake, dget, Env.get, N8.get, env0, List.length_cons, List.length_nil, Env.set, N8.set, lset, updL])
        all_goals (try simp only [hsM] at *)
        all_goals rfl
      | true =>
        rw [o1] at c1 hb
        cases o2 : q.sz.any (fun n => !okSz n) with
        | true =>
          rw [o2] at c2 hb
          rw [hb]
          repeat' (first
            | (with_reducible first | refine go_seq ?_ | refine go_region ?_ | refine go_regionD mixed_ok ?_ | refine go_cond ?_ | refine go_skip ?_ | refine go_block ?_ | refine nx_code ?_ | refine nx_block ?_ | refine go_ret ?_ | refine nx_nil ?_ | refine go_exit ?_ | refine ex_code ?_ | refine ex_loop ?_ | refine ex_here ?_)
            | ((with_reducible refine ex_past ?_ ?_); (exact by decide))
            | ((with_reducible refine endD_intro ?_ ?_); (exact by kernel_rfl))
            | ((with_reducible refine runR_n ?_ ?_); (solve | ((repeat' (first | exact trivial | exact rfl | apply And.intro)) <;> (first | exact rfl | (intro hq; cases hq; done) | decide | omega | exact keysOk_map (fun _ => rfl) _ | (simp only [List.length_map, List.length_append, List.length_cons, List.length_nil, List.length_replicate]; done) | (simp only [room, maxLen, allOnes, oneV, List.length_map, List.length_append, List.length_cons, List.length_nil, List.length_replicate] at *; omega) | (simp only [hsL, reduceCtorEq] at * <;> omega)))))
            | (first | (with_reducible refine runR_call c1 ?_) | (with_reducible refine runR_call c2 ?_))
            | (dsimp only [run, undef, runR_ok, runR_t, runR_f, gd, gd2, skipR, ex1, pickR, boxR, loadR, loadO, storeR, storeO, nilR, fieldAR, fieldR, partOf, binR, intBin, unR, boolR, kindEq, shiftOp, onlyIf, orB, convR, extR, lenR, indexSlR, indexArrR, putE, updL, keysOf, lget, lset, evT, evs, Env.get, Env.set, N8.get, N8.set, env0, cellsD, oneD, oneV, andB, allOne, lenB, mapV, dget, ddrop, dtake, splice, xget, xset, partsD, partsOk, partsE, partsEOk, repl, elemsR, elemsS, elemsO, xdrop, xtake, allOnes, appN, appOwn, appNew, appY, cellEq_i, cellEq_b, cellEq_s, consO, cmpAll, allB, negB, eqsO, eqsR, eqbR, minR, evO, bndO, keepB, snapCut, slCut, nilCut, sliceR, isS, isnilL, isnilX, isnilR, strBin, sbinR, slenR, strAtR, substrB, substrR, makeR, clearO, clearR, sliceW1, sliceW2, sliceW3, sliceWR, appWO, appWR, okByte, okBytes, b2sR, indexVR, isnilPR, chunk, sliceAR, s2bR, flat1, arrpR, exnR, mgetR, mgetK, mgetO, mputR, mputK, mputO, mlenR, mlenO, mgetLR, mgetLK, mgetLO, mgetLX, mentLR, mentLK, mentLO, mentLX, estLR, estLO, estLX, keyV, valL, s2bOR, appD, callvR, cond, condK_t, condK_f, argsE, slots0, List.length_cons, List.length_nil, Bool.true_or, Bool.false_or, Bool.or_true, Bool.or_false, bnf, bnt, Nat.add_zero, Nat.zero_add, Nat.reduceAdd, Nat.reduceMul, Int.reduceToNat, endS])
            | (with_reducible refine runR_b (fun h => ?_) (fun h => ?_) <;> first | (exfalso; (simp only [hsL, reduceCtorEq] at * <;> omega); done) | simp only [h, runR_t, runR_f])
            | (with_reducible refine condK_bl ?_ ?_)
            | (with_reducible refine condK_b (fun h => ?_) (fun h => ?_) <;> first | (exfalso; (simp only [hsL, reduceCtorEq] at * <;> omega); done) | skip)
            | (simp only [Int.toNat_natCast, ex]))
          (all_goals first | (exfalso; (try simp only [List.length_map] at *); first | omega | (simp only [hsL, reduceCtorEq] at * <;> omega)) | skip)
          all_goals with_reducible refine ret_spec2 (by (try dsimp only [RetOK, resOk, resDs, resD, resV, cellV, cellO, cellP, cellOk, htake, nfD, nfL, nfLL, nfH, lget, partOf, xget, ddrop, dtake, dget, Env.get, N8.get, env0, List.length_cons, List.length_nil, Env.set, N8.set, lset, updL]); (repeat' (first | exact trivial | exact rfl | exact nfLL_map (fun x => by simp [nfL, nfD, nfD]) | decide | apply And.intro))) ?_
          all_goals (try dsimp only [RetOK, resOk, resDs, resD, resV, cellV, cellO, cellP, cellOk, htake, nfD, nfL, nfLL, nfH, lget, partOf, xget, ddrop, dtake, dget, Env.get, N8.get, env0, List.length_cons, List.length_nil, Env.set, N8.set, lset, updL])
          all_goals (try simp only [hsM] at *)
          all_goals rfl
        | false =>
          rw [o2] at c2 hb
          repeat' (first
            | (with_reducible first | refine go_seq ?_ | refine go_region ?_ | refine go_regionD mixed_ok ?_ | refine go_cond ?_ | refine go_skip ?_ | refine go_block ?_ | refine nx_code ?_ | refine nx_block ?_ | refine go_ret ?_ | refine nx_nil ?_ | refine go_exit ?_ | refine ex_code ?_ | refine ex_loop ?_ | refine ex_here ?_)
            | ((with_reducible refine ex_past ?_ ?_); (exact by decide))
            | ((with_reducible refine endD_intro ?_ ?_); (exact by kernel_rfl))
            | ((with_reducible refine runR_n ?_ ?_); (solve | ((repeat' (first | exact trivial | exact rfl | apply And.intro)) <;> (first | exact rfl | (intro hq; cases hq; done) | decide | omega | exact keysOk_map (fun _ => rfl) _ | (simp only [List.length_map, List.length_append, List.length_cons, List.length_nil, List.length_replicate]; done) | (simp only [room, maxLen, allOnes, oneV, List.length_map, List.length_append, List.length_cons, List.length_nil, List.length_replicate] at *; omega) | (simp only [hsL, reduceCtorEq] at * <;> omega)))))
            | (first | (with_reducible refine runR_call c1 ?_) | (with_reducible refine runR_call c2 ?_) | (simp only [hwk]))
            | (dsimp only [run, undef, runR_ok, runR_t, runR_f, gd, gd2, skipR, ex1, pickR, boxR, loadR, loadO, storeR, storeO, nilR, fieldAR, fieldR, partOf, binR, intBin, unR, boolR, kindEq, shiftOp, onlyIf, orB, convR, extR, lenR, indexSlR, indexArrR, putE, updL, keysOf, lget, lset, evT, evs, Env.get, Env.set, N8.get, N8.set, env0, cellsD, oneD, oneV, andB, allOne, lenB, mapV, dget, ddrop, dtake, splice, xget, xset, partsD, partsOk, partsE, partsEOk, repl, elemsR, elemsS, elemsO, xdrop, xtake, allOnes, appN, appOwn, appNew, appY, cellEq_i, cellEq_b, cellEq_s, consO, cmpAll, allB, negB, eqsO, eqsR, eqbR, minR, evO, bndO, keepB, snapCut, slCut, nilCut, sliceR, isS, isnilL, isnilX, isnilR, strBin, sbinR, slenR, strAtR, substrB, substrR, makeR, clearO, clearR, sliceW1, sliceW2, sliceW3, sliceWR, appWO, appWR, okByte, okBytes, b2sR, indexVR, isnilPR, chunk, sliceAR, s2bR, flat1, arrpR, exnR, mgetR, mgetK, mgetO, mputR, mputK, mputO, mlenR, mlenO, mgetLR, mgetLK, mgetLO, mgetLX, mentLR, mentLK, mentLO, mentLX, estLR, estLO, estLX, keyV, valL, s2bOR, appD, callvR, cond, condK_t, condK_f, argsE, slots0, List.length_cons, List.length_nil, Bool.true_or, Bool.false_or, Bool.or_true, Bool.or_false, bnf, bnt, Nat.add_zero, Nat.zero_add, Nat.reduceAdd, Nat.reduceMul, Int.reduceToNat, endS])
            | (with_reducible refine runR_b (fun h => ?_) (fun h => ?_) <;> first | (exfalso; (simp only [hsL, reduceCtorEq] at * <;> omega); done) | simp only [h, runR_t, runR_f])
            | (with_reducible refine condK_bl ?_ ?_)
            | (with_reducible refine condK_b (fun h => ?_) (fun h => ?_) <;> first | (exfalso; (simp only [hsL, reduceCtorEq] at * <;> omega); done) | skip)
            | (simp only [Int.toNat_natCast, ex]))
          (all_goals first | (exfalso; (try simp only [List.length_map] at *); first | omega | (simp only [hsL, reduceCtorEq] at * <;> omega)) | skip)
          refine nx_loop ⟨(k + 1, gn + 1), ⟨hlt, by simpa using hb⟩, Nat.sub_lt_sub_left hlt (Nat.lt_succ_self k), ?_⟩
          refine le_mk ?_ ?_ (Nat.le_refl _)
          all_goals dsimp only [leE, leC, leR, leN, leD, leH, leO, writesX, dstsX, appS, havE, setsE, Env.get, Env.set, N8.get, N8.set, updL, lget, lset, env0]
          all_goals (repeat' (first | exact trivial | exact rfl | apply And.intro))
    obtain rfl : k = s.length := by omega
    rw [List.drop_length] at hb
    rw [hb]
    repeat' (first
      | (with_reducible first | refine go_seq ?_ | refine go_region ?_ | refine go_regionD mixed_ok ?_ | refine go_cond ?_ | refine go_skip ?_ | refine go_block ?_ | refine nx_code ?_ | refine nx_block ?_ | refine go_ret ?_ | refine nx_nil ?_ | refine go_exit ?_ | refine ex_code ?_ | refine ex_loop ?_ | refine ex_here ?_)
      | ((with_reducible refine ex_past ?_ ?_); (exact by decide))
      | ((with_reducible refine endD_intro ?_ ?_); (exact by kernel_rfl))
      | ((with_reducible refine runR_n ?_ ?_); (solve | ((repeat' (first | exact trivial | exact rfl | apply And.intro)) <;> (first | exact rfl | (intro hq; cases hq; done) | decide | omega | exact keysOk_map (fun _ => rfl) _ | (simp only [List.length_map, List.length_append, List.length_cons, List.length_nil, List.length_replicate]; done) | (simp only [room, maxLen, allOnes, oneV, List.length_map, List.length_append, List.length_cons, List.length_nil, List.length_replicate] at *; omega) | (simp only [hsL, reduceCtorEq] at * <;> omega)))))
      | fail
      | (dsimp only [run, undef, runR_ok, runR_t, runR_f, gd, gd2, skipR, ex1, pickR, boxR, loadR, loadO, storeR, storeO, nilR, fieldAR, fieldR, partOf, binR, intBin, unR, boolR, kindEq, shiftOp, onlyIf, orB, convR, extR, lenR, indexSlR, indexArrR, putE, updL, keysOf, lget, lset, evT, evs, Env.get, Env.set, N8.get, N8.set, env0, cellsD, oneD, oneV, andB, allOne, lenB, mapV, dget, ddrop, dtake, splice, xget, xset, partsD, partsOk, partsE, partsEOk, repl, elemsR, elemsS, elemsO, xdrop, xtake, allOnes, appN, appOwn, appNew, appY, cellEq_i, cellEq_b, cellEq_s, consO, cmpAll, allB, negB, eqsO, eqsR, eqbR, minR, evO, bndO, keepB, snapCut, slCut, nilCut, sliceR, isS, isnilL, isnilX, isnilR, strBin, sbinR, slenR, strAtR, substrB, substrR, makeR, clearO, clearR, sliceW1, sliceW2, sliceW3, sliceWR, appWO, appWR, okByte, okBytes, b2sR, indexVR, isnilPR, chunk, sliceAR, s2bR, flat1, arrpR, exnR, mgetR, mgetK, mgetO, mputR, mputK, mputO, mlenR, mlenO, mgetLR, mgetLK, mgetLO, mgetLX, mentLR, mentLK, mentLO, mentLX, estLR, estLO, estLX, keyV, valL, s2bOR, appD, callvR, cond, condK_t, condK_f, argsE, slots0, List.length_cons, List.length_nil, Bool.true_or, Bool.false_or, Bool.or_true, Bool.or_false, bnf, bnt, Nat.add_zero, Nat.zero_add, Nat.reduceAdd, Nat.reduceMul, Int.reduceToNat, endS])
      | (with_reducible refine runR_b (fun h => ?_) (fun h => ?_) <;> first | (exfalso; (simp only [hsL, reduceCtorEq] at * <;> omega); done) | simp only [h, runR_t, runR_f])
      | (with_reducible refine condK_bl ?_ ?_)
      | (with_reducible refine condK_b (fun h => ?_) (fun h => ?_) <;> first | (exfalso; (simp only [hsL, reduceCtorEq] at * <;> omega); done) | skip)
      | fail)
    (all_goals first | (exfalso; (try simp only [List.length_map] at *); first | omega | (simp only [hsL, reduceCtorEq] at * <;> omega)) | skip)
    refine go_loopH (α := Nat × Nat) (fun p => [(⟨.d0, .d4, .d0⟩, .v (.int .i64 (p.1 : Nat)))]) (fun _ => [(1, none)]) (fun p => p.2) (fun p => s.length - p.1) (fun p => p.1 ≤ s.length ∧ s.any fmQ = (s.drop p.1).any fmQ) (0, gn) ⟨Nat.zero_le _, rfl⟩ ?_ ?_
    · skip
      refine le_mk ?_ ?_ (Nat.le_refl _)
      all_goals dsimp only [leE, leC, leR, leN, leD, leH, leO, writesX, dstsX, appS, havE, setsE, Env.get, Env.set, N8.get, N8.set, updL, lget, lset, env0]
      all_goals (repeat' (first | exact trivial | exact rfl | apply And.intro))
    rintro ⟨k, gm⟩ ⟨hk, hb⟩
    dsimp only at hk hb ⊢
    dsimp only [writesX, dstsX, appS, havE, setsE, Env.get, Env.set, N8.get, N8.set, updL, lget, lset, env0]
    by_cases hlt : k < s.length
    · obtain ⟨q, hq⟩ : ∃ q, s[k]? = some q := ⟨_, List.getElem?_eq_getElem hlt⟩
      have ex := xget_qu hq
      have hwk : IntKind.i64.wrap ((k : Int) + 1) = ((k + 1 : Nat) : Int) := (IntWalk.i64_in _ (by omega)).trans (by omega)
      rw [any_drop hq] at hb
      obtain ⟨sh, sv, sz⟩ := q
      cases sz with
      | nil =>
        have hn : (([] : List Int).map encI).length = 0 := rfl
        cases hf : fmQ ⟨sh, sv, []⟩ with
        | true =>
          rw [hf, Bool.true_or] at hb
          rw [hb]
          have hf' := hf
          unfold fmQ limQ at hf'
          rw [decide_eq_true_eq] at hf'
          dsimp only at hf'
          repeat' (first
            | (with_reducible first | refine go_seq ?_ | refine go_region ?_ | refine go_regionD mixed_ok ?_ | refine go_cond ?_ | refine go_skip ?_ | refine go_block ?_ | refine nx_code ?_ | refine nx_block ?_ | refine go_ret ?_ | refine nx_nil ?_ | refine go_exit ?_ | refine ex_code ?_ | refine ex_loop ?_ | refine ex_here ?_)
            | ((with_reducible refine ex_past ?_ ?_); (exact by decide))
            | ((with_reducible refine endD_intro ?_ ?_); (exact by kernel_rfl))
            | ((with_reducible refine runR_n ?_ ?_); (solve | ((repeat' (first | exact trivial | exact rfl | apply And.intro)) <;> (first | exact rfl | (intro hq; cases hq; done) | decide | omega | exact keysOk_map (fun _ => rfl) _ | (simp only [List.length_map, List.length_append, List.length_cons, List.length_nil, List.length_replicate]; done) | (simp only [room, maxLen, allOnes, oneV, List.length_map, List.length_append, List.length_cons, List.length_nil, List.length_replicate] at *; omega) | (simp only [hsL, reduceCtorEq] at * <;> omega)))))
            | (simp only [hn])
            | (dsimp only [run, undef, runR_ok, runR_t, runR_f, gd, gd2, skipR, ex1, pickR, boxR, loadR, loadO, storeR, storeO, nilR, fieldAR, fieldR, partOf, binR, intBin, unR, boolR, kindEq, shiftOp, onlyIf, orB, convR, extR, lenR, indexSlR, indexArrR, putE, updL, keysOf, lget, lset, evT, evs, Env.get, Env.set, N8.get, N8.set, env0, cellsD, oneD, oneV, andB, allOne, lenB, mapV, dget, ddrop, dtake, splice, xget, xset, partsD, partsOk, partsE, partsEOk, repl, elemsR, elemsS, elemsO, xdrop, xtake, allOnes, appN, appOwn, appNew, appY, cellEq_i, cellEq_b, cellEq_s, consO, cmpAll, allB, negB, eqsO, eqsR, eqbR, minR, evO, bndO, keepB, snapCut, slCut, nilCut, sliceR, isS, isnilL, isnilX, isnilR, strBin, sbinR, slenR, strAtR, substrB, substrR, makeR, clearO, clearR, sliceW1, sliceW2, sliceW3, sliceWR, appWO, appWR, okByte, okBytes, b2sR, indexVR, isnilPR, chunk, sliceAR, s2bR, flat1, arrpR, exnR, mgetR, mgetK, mgetO, mputR, mputK, mputO, mlenR, mlenO, mgetLR, mgetLK, mgetLO, mgetLX, mentLR, mentLK, mentLO, mentLX, estLR, estLO, estLX, keyV, valL, s2bOR, appD, callvR, cond, condK_t, condK_f, argsE, slots0, List.length_cons, List.length_nil, Bool.true_or, Bool.false_or, Bool.or_true, Bool.or_false, bnf, bnt, Nat.add_zero, Nat.zero_add, Nat.reduceAdd, Nat.reduceMul, Int.reduceToNat, endS])
            | (with_reducible refine runR_b (fun h => ?_) (fun h => ?_) <;> first | (exfalso; (simp only [hsL, reduceCtorEq] at * <;> omega); done) | simp only [h, runR_t, runR_f])
            | (with_reducible refine condK_bl ?_ ?_)
            | (with_reducible refine condK_b (fun h => ?_) (fun h => ?_) <;> first | (exfalso; (simp only [hsL, reduceCtorEq] at * <;> omega); done) | skip)
            | (first | (simp only [Int.toNat_natCast, ex]) | (simp only [Int.toNat_zero, e0])))
          (all_goals first | (exfalso; (try simp only [List.length_map] at *); first | omega | (simp only [hsL, reduceCtorEq] at * <;> omega)) | skip)
          all_goals with_reducible refine ret_spec2 (by (try dsimp only [RetOK, resOk, resDs, resD, resV, cellV, cellO, cellP, cellOk, htake, nfD, nfL, nfLL, nfH, lget, partOf, xget, ddrop, dtake, dget, Env.get, N8.get, env0, List.length_cons, List.length_nil, Env.set, N8.set, lset, updL]); (repeat' (first | exact trivial | exact rfl | exact nfLL_map (fun x => by simp [nfL, nfD, nfD]) | decide | apply And.intro))) ?_
          all_goals (try dsimp only [RetOK, resOk, resDs, resD, resV, cellV, cellO, cellP, cellOk, htake, nfD, nfL, nfLL, nfH, lget, partOf, xget, ddrop, dtake, dget, Env.get, N8.get, env0, List.length_cons, List.length_nil, Env.set, N8.set, lset, updL])
          all_goals (try simp only [hsM] at *)
          all_goals first
            | rfl
            | (exfalso; omega)
        | false =>
          rw [hf, Bool.false_or] at hb
          have hf' := hf
          unfold fmQ limQ at hf'
          rw [decide_eq_false_iff_not] at hf'
          dsimp only at hf'
          repeat' (first
            | (with_reducible first | refine go_seq ?_ | refine go_region ?_ | refine go_regionD mixed_ok ?_ | refine go_cond ?_ | refine go_skip ?_ | refine go_block ?_ | refine nx_code ?_ | refine nx_block ?_ | refine go_ret ?_ | refine nx_nil ?_ | refine go_exit ?_ | refine ex_code ?_ | refine ex_loop ?_ | refine ex_here ?_)
            | ((with_reducible refine ex_past ?_ ?_); (exact by decide))
            | ((with_reducible refine endD_intro ?_ ?_); (exact by kernel_rfl))
            | ((with_reducible refine runR_n ?_ ?_); (solve | ((repeat' (first | exact trivial | exact rfl | apply And.intro)) <;> (first | exact rfl | (intro hq; cases hq; done) | decide | omega | exact keysOk_map (fun _ => rfl) _ | (simp only [List.length_map, List.length_append, List.length_cons, List.length_nil, List.length_replicate]; done) | (simp only [room, maxLen, allOnes, oneV, List.length_map, List.length_append, List.length_cons, List.length_nil, List.length_replicate] at *; omega) | (simp only [hsL, reduceCtorEq] at * <;> omega)))))
            | (first | (simp only [hn]) | (simp only [hwk]))
            | (dsimp only [run, undef, runR_ok, runR_t, runR_f, gd, gd2, skipR, ex1, pickR, boxR, loadR, loadO, storeR, storeO, nilR, fieldAR, fieldR, partOf, binR, intBin, unR, boolR, kindEq, shiftOp, onlyIf, orB, convR, extR, lenR, indexSlR, indexArrR, putE, updL, keysOf, lget, lset, evT, evs, Env.get, Env.set, N8.get, N8.set, env0, cellsD, oneD, oneV, andB, allOne, lenB, mapV, dget, ddrop, dtake, splice, xget, xset, partsD, partsOk, partsE, partsEOk, repl, elemsR, elemsS, elemsO, xdrop, xtake, allOnes, appN, appOwn, appNew, appY, cellEq_i, cellEq_b, cellEq_s, consO, cmpAll, allB, negB, eqsO, eqsR, eqbR, minR, evO, bndO, keepB, snapCut, slCut, nilCut, sliceR, isS, isnilL, isnilX, isnilR, strBin, sbinR, slenR, strAtR, substrB, substrR, makeR, clearO, clearR, sliceW1, sliceW2, sliceW3, sliceWR, appWO, appWR, okByte, okBytes, b2sR, indexVR, isnilPR, chunk, sliceAR, s2bR, flat1, arrpR, exnR, mgetR, mgetK, mgetO, mputR, mputK, mputO, mlenR, mlenO, mgetLR, mgetLK, mgetLO, mgetLX, mentLR, mentLK, mentLO, mentLX, estLR, estLO, estLX, keyV, valL, s2bOR, appD, callvR, cond, condK_t, condK_f, argsE, slots0, List.length_cons, List.length_nil, Bool.true_or, Bool.false_or, Bool.or_true, Bool.or_false, bnf, bnt, Nat.add_zero, Nat.zero_add, Nat.reduceAdd, Nat.reduceMul, Int.reduceToNat, endS])
            | (with_reducible refine runR_b (fun h => ?_) (fun h => ?_) <;> first | (exfalso; (simp only [hsL, reduceCtorEq] at * <;> omega); done) | simp only [h, runR_t, runR_f])
            | (with_reducible refine condK_bl ?_ ?_)
            | (with_reducible refine condK_b (fun h => ?_) (fun h => ?_) <;> first | (exfalso; (simp only [hsL, reduceCtorEq] at * <;> omega); done) | skip)
            | (first | (simp only [Int.toNat_natCast, ex]) | (simp only [Int.toNat_zero, e0])))
          (all_goals first | (exfalso; (try simp only [List.length_map] at *); first | omega | (simp only [hsL, reduceCtorEq] at * <;> omega)) | skip)
          all_goals (refine nx_loop ⟨(k + 1, gm + 1), ⟨hlt, hb⟩, Nat.sub_lt_sub_left hlt (Nat.lt_succ_self k), ?_⟩; (refine le_mk ?_ ?_ (Nat.le_refl _)); (all_goals dsimp only [leE, leC, leR, leN, leD, leH, leO, writesX, dstsX, appS, havE, setsE, Env.get, Env.set, N8.get, N8.set, updL, lget, lset, env0]); (all_goals (repeat' (first | exact trivial | exact rfl | apply And.intro))))
      | cons x t =>
        have hn : ((x :: t).map encI).length = t.length + 1 := by simp
        have e0 : xget ((x :: t).map encI) 0 = [.v (.int .i64 x)] := rfl
        cases hf : fmQ ⟨sh, sv, x :: t⟩ with
        | true =>
          rw [hf, Bool.true_or] at hb
          rw [hb]
          have hf' := hf
          unfold fmQ limQ at hf'
          rw [decide_eq_true_eq] at hf'
          dsimp only at hf'
          repeat' (first
            | (with_reducible first | refine go_seq ?_ | refine go_region ?_ | refine go_regionD mixed_ok ?_ | refine go_cond ?_ | refine go_skip ?_ | refine go_block ?_ | refine nx_code ?_ | refine nx_block ?_ | refine go_ret ?_ | refine nx_nil ?_ | refine go_exit ?_ | refine ex_code ?_ | refine ex_loop ?_ | refine ex_here ?_)
            | ((with_reducible refine ex_past ?_ ?_); (exact by decide))
            | ((with_reducible refine endD_intro ?_ ?_); (exact by kernel_rfl))
            | ((with_reducible refine runR_n ?_ ?_); (solve | ((repeat' (first | exact trivial | exact rfl | apply And.intro)) <;> (first | exact rfl | (intro hq; cases hq; done) | decide | omega | exact keysOk_map (fun _ => rfl) _ | (simp only [List.length_map, List.length_append, List.length_cons, List.length_nil, List.length_replicate]; done) | (simp only [room, maxLen, allOnes, oneV, List.length_map, List.length_append, List.length_cons, List.length_nil, List.length_replicate] at *; omega) | (simp only [hsL, reduceCtorEq] at * <;> omega)))))
            | (simp only [hn])
            | (dsimp only [run, undef, runR_ok, runR_t, runR_f, gd, gd2, skipR, ex1, pickR, boxR, loadR, loadO, storeR, storeO, nilR, fieldAR, fieldR, partOf, binR, intBin, unR, boolR, kindEq, shiftOp, onlyIf, orB, convR, extR, lenR, indexSlR, indexArrR, putE, updL, keysOf, lget, lset, evT, evs, Env.get, Env.set, N8.get, N8.set, env0, cellsD, oneD, oneV, andB, allOne, lenB, mapV, dget, ddrop, dtake, splice, xget, xset, partsD, partsOk, partsE, partsEOk, repl, elemsR, elemsS, elemsO, xdrop, xtake, allOnes, appN, appOwn, appNew, appY, cellEq_i, cellEq_b, cellEq_s, consO, cmpAll, allB, negB, eqsO, eqsR, eqbR, minR, evO, bndO, keepB, snapCut, slCut, nilCut, sliceR, isS, isnilL, isnilX, isnilR, strBin, sbinR, slenR, strAtR, substrB, substrR, makeR, clearO, clearR, sliceW1, sliceW2, sliceW3, sliceWR, appWO, appWR, okByte, okBytes, b2sR, indexVR, isnilPR, chunk, sliceAR, s2bR, flat1, arrpR, exnR, mgetR, mgetK, mgetO, mputR, mputK, mputO, mlenR, mlenO, mgetLR, mgetLK, mgetLO, mgetLX, mentLR, mentLK, mentLO, mentLX, estLR, estLO, estLX, keyV, valL, s2bOR, appD, callvR, cond, condK_t, condK_f, argsE, slots0, List.length_cons, List.length_nil, Bool.true_or, Bool.false_or, Bool.or_true, Bool.or_false, bnf, bnt, Nat.add_zero, Nat.zero_add, Nat.reduceAdd, Nat.reduceMul, Int.reduceToNat, endS])
            | (with_reducible refine runR_b (fun h => ?_) (fun h => ?_) <;> first | (exfalso; (simp only [hsL, reduceCtorEq] at * <;> omega); done) | simp only [h, runR_t, runR_f])
            | (with_reducible refine condK_bl ?_ ?_)
            | (with_reducible refine condK_b (fun h => ?_) (fun h => ?_) <;> first | (exfalso; (simp only [hsL, reduceCtorEq] at * <;> omega); done) | skip)
            | (first | (simp only [Int.toNat_natCast, ex]) | (simp only [Int.toNat_zero, e0])))
          (all_goals first | (exfalso; (try simp only [List.length_map] at *); first | omega | (simp only [hsL, reduceCtorEq] at * <;> omega)) | skip)
          all_goals with_reducible refine ret_spec2 (by (try dsimp only [RetOK, resOk, resDs, resD, resV, cellV, cellO, cellP, cellOk, htake, nfD, nfL, nfLL, nfH, lget, partOf, xget, ddrop, dtake, dget, Env.get, N8.get, env0, List.length_cons, List.length_nil, Env.set, N8.set, lset, updL]); (repeat' (first | exact trivial | exact rfl | exact nfLL_map (fun x => by simp [nfL, nfD, nfD]) | decide | apply And.intro))) ?_
          all_goals (try dsimp only [RetOK, resOk, resDs, resD, resV, cellV, cellO, cellP, cellOk, htake, nfD, nfL, nfLL, nfH, lget, partOf, xget, ddrop, dtake, dget, Env.get, N8.get, env0, List.length_cons, List.length_nil, Env.set, N8.set, lset, updL])
          all_goals (try simp only [hsM] at *)
          all_goals first
            | rfl
            | (exfalso; omega)
        | false =>
          rw [hf, Bool.false_or] at hb
          have hf' := hf
          unfold fmQ limQ at hf'
          rw [decide_eq_false_iff_not] at hf'
          dsimp only at hf'
          repeat' (first
            | (with_reducible first | refine go_seq ?_ | refine go_region ?_ | refine go_regionD mixed_ok ?_ | refine go_cond ?_ | refine go_skip ?_ | refine go_block ?_ | refine nx_code ?_ | refine nx_block ?_ | refine go_ret ?_ | refine nx_nil ?_ | refine go_exit ?_ | refine ex_code ?_ | refine ex_loop ?_ | refine ex_here ?_)
            | ((with_reducible refine ex_past ?_ ?_); (exact by decide))
            | ((with_reducible refine endD_intro ?_ ?_); (exact by kernel_rfl))
            | ((with_reducible refine runR_n ?_ ?_); (solve | ((repeat' (first | exact trivial | exact rfl | apply And.intro)) <;> (first | exact rfl | (intro hq; cases hq; done) | decide | omega | exact keysOk_map (fun _ => rfl) _ | (simp only [List.length_map, List.length_append, List.length_cons, List.length_nil, List.length_replicate]; done) | (simp only [room, maxLen, allOnes, oneV, List.length_map, List.length_append, List.length_cons, List.length_nil, List.length_replicate] at *; omega) | (simp only [hsL, reduceCtorEq] at * <;> omega)))))
            | (first | (simp only [hn]) | (simp only [hwk]))
            | (dsimp only [run, undef, runR_ok, runR_t, runR_f, gd, gd2, skipR, ex1, pickR, boxR, loadR, loadO, storeR, storeO, nilR, fieldAR, fieldR, partOf, binR, intBin, unR, boolR, kindEq, shiftOp, onlyIf, orB, convR, extR, lenR, indexSlR, indexArrR, putE, updL, keysOf, lget, lset, evT, evs, Env.get, Env.set, N8.get, N8.set, env0, cellsD, oneD, oneV, andB, allOne, lenB, mapV, dget, ddrop, dtake, splice, xget, xset, partsD, partsOk, partsE, partsEOk, repl, elemsR, elemsS, elemsO, xdrop, xtake, allOnes, appN, appOwn, appNew, appY, cellEq_i, cellEq_b, cellEq_s, consO, cmpAll, allB, negB, eqsO, eqsR, eqbR, minR, evO, bndO, keepB, snapCut, slCut, nilCut, sliceR, isS, isnilL, isnilX, isnilR, strBin, sbinR, slenR, strAtR, substrB, substrR, makeR, clearO, clearR, sliceW1, sliceW2, sliceW3, sliceWR, appWO, appWR, okByte, okBytes, b2sR, indexVR, isnilPR, chunk, sliceAR, s2bR, flat1, arrpR, exnR, mgetR, mgetK, mgetO, mputR, mputK, mputO, mlenR, mlenO, mgetLR, mgetLK, mgetLO, mgetLX, mentLR, mentLK, mentLO, mentLX, estLR, estLO, estLX, keyV, valL, s2bOR, appD, callvR, cond, condK_t, condK_f, argsE, slots0, List.length_cons, List.length_nil, Bool.true_or, Bool.false_or, Bool.or_true, Bool.or_false, bnf, bnt, Nat.add_zero, Nat.zero_add, Nat.reduceAdd, Nat.reduceMul, Int.reduceToNat, endS])
            | (with_reducible refine runR_b (fun h => ?_) (fun h => ?_) <;> first | (exfalso; (simp only [hsL, reduceCtorEq] at * <;> omega); done) | simp only [h, runR_t, runR_f])
            | (with_reducible refine condK_bl ?_ ?_)
            | (with_reducible refine condK_b (fun h => ?_) (fun h => ?_) <;> first | (exfalso; (simp only [hsL, reduceCtorEq] at * <;> omega); done) | skip)
            | (first | (simp only [Int.toNat_natCast, ex]) | (simp only [Int.toNat_zero, e0])))
          (all_goals first | (exfalso; (try simp only [List.length_map] at *); first | omega | (simp only [hsL, reduceCtorEq] at * <;> omega)) | skip)
          all_goals (refine nx_loop ⟨(k + 1, gm + 1), ⟨hlt, hb⟩, Nat.sub_lt_sub_left hlt (Nat.lt_succ_self k), ?_⟩; (refine le_mk ?_ ?_ (Nat.le_refl _)); (all_goals dsimp only [leE, leC, leR, leN, leD, leH, leO, writesX, dstsX, appS, havE, setsE, Env.get, Env.set, N8.get, N8.set, updL, lget, lset, env0]); (all_goals (repeat' (first | exact trivial | exact rfl | apply And.intro))))
    obtain rfl : k = s.length := by omega
    rw [List.drop_length] at hb
    rw [hb]
    repeat' (first
      | (with_reducible first | refine go_seq ?_ | refine go_region ?_ | refine go_regionD mixed_ok ?_ | refine go_cond ?_ | refine go_skip ?_ | refine go_block ?_ | refine nx_code ?_ | refine nx_block ?_ | refine go_ret ?_ | refine nx_nil ?_ | refine go_exit ?_ | refine ex_code ?_ | refine ex_loop ?_ | refine ex_here ?_)
      | ((with_reducible refine ex_past ?_ ?_); (exact by decide))
      | ((with_reducible refine endD_intro ?_ ?_); (exact by kernel_rfl))
      | ((with_reducible refine runR_n ?_ ?_); (solve | ((repeat' (first | exact trivial | exact rfl | apply And.intro)) <;> (first | exact rfl | (intro hq; cases hq; done) | decide | omega | exact keysOk_map (fun _ => rfl) _ | (simp only [List.length_map, List.length_append, List.length_cons, List.length_nil, List.length_replicate]; done) | (simp only [room, maxLen, allOnes, oneV, List.length_map, List.length_append, List.length_cons, List.length_nil, List.length_replicate] at *; omega) | (simp only [hsL, reduceCtorEq] at * <;> omega)))))
      | fail
      | (dsimp only [run, undef, runR_ok, runR_t, runR_f, gd, gd2, skipR, ex1, pickR, boxR, loadR, loadO, storeR, storeO, nilR, fieldAR, fieldR, partOf, binR, intBin, unR, boolR, kindEq, shiftOp, onlyIf, orB, convR, extR, lenR, indexSlR, indexArrR, putE, updL, keysOf, lget, lset, evT, evs, Env.get, Env.set, N8.get, N8.set, env0, cellsD, oneD, oneV, andB, allOne, lenB, mapV, dget, ddrop, dtake, splice, xget, xset, partsD, partsOk, partsE, partsEOk, repl, elemsR, elemsS, elemsO, xdrop, xtake, allOnes, appN, appOwn, appNew, appY, cellEq_i, cellEq_b, cellEq_s, consO, cmpAll, allB, negB, eqsO, eqsR, eqbR, minR, evO, bndO, keepB, snapCut, slCut, nilCut, sliceR, isS, isnilL, isnilX, isnilR, strBin, sbinR, slenR, strAtR, substrB, substrR, makeR, clearO, clearR, sliceW1, sliceW2, sliceW3, sliceWR, appWO, appWR, okByte, okBytes, b2sR, indexVR, isnilPR, chunk, sliceAR, s2bR, flat1, arrpR, exnR, mgetR, mgetK, mgetO, mputR, mputK, mputO, mlenR, mlenO, mgetLR, mgetLK, mgetLO, mgetLX, mentLR, mentLK, mentLO, mentLX, estLR, estLO, estLX, keyV, valL, s2bOR, appD, callvR, cond, condK_t, condK_f, argsE, slots0, List.length_cons, List.length_nil, Bool.true_or, Bool.false_or, Bool.or_true, Bool.or_false, bnf, bnt, Nat.add_zero, Nat.zero_add, Nat.reduceAdd, Nat.reduceMul, Int.reduceToNat, endS])
      | (with_reducible refine runR_b (fun h => ?_) (fun h => ?_) <;> first | (exfalso; (simp only [hsL, reduceCtorEq] at * <;> omega); done) | simp only [h, runR_t, runR_f])
      | (with_reducible refine condK_bl ?_ ?_)
      | (with_reducible refine condK_b (fun h => ?_) (fun h => ?_) <;> first | (exfalso; (simp only [hsL, reduceCtorEq] at * <;> omega); done) | skip)
      | fail)
    (all_goals first | (exfalso; (try simp only [List.length_map] at *); first | omega | (simp only [hsL, reduceCtorEq] at * <;> omega)) | skip)
    all_goals with_reducible refine ret_spec2 (by (try dsimp only [RetOK, resOk, resDs, resD, resV, cellV, cellO, cellP, cellOk, htake, nfD, nfL, nfLL, nfH, lget, partOf, xget, ddrop, dtake, dget, Env.get, N8.get, env0, List.length_cons, List.length_nil, Env.set, N8.set, lset, updL]); (repeat' (first | exact trivial | exact rfl | exact nfLL_map (fun x => by simp [nfL, nfD, nfD]) | decide | apply And.intro))) ?_
    all_goals (try dsimp only [RetOK, resOk, resDs, resD, resV, cellV, cellO, cellP, cellOk, htake, nfD, nfL, nfLL, nfH, lget, partOf, xget, ddrop, dtake, dget, Env.get, N8.get, env0, List.length_cons, List.length_nil, Env.set, N8.set, lset, updL])
    all_goals (try simp only [hsM] at *)
    all_goals rfl
end Go.Proofs.Ytkpechddgjbfkaa
