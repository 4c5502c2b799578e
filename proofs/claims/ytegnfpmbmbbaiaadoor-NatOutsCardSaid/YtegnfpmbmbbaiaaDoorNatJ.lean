/-
  One address for many, from within: the reference's NatOut where all is right.
-/
import Derived.Test.YtegnfpmbmbbaiaaDoorNatK
namespace Go.Proofs.YtegnfpmbmbbaiaaDoor
set_option linter.unusedVariables false
set_option linter.unusedSimpArgs false
theorem yng_no {l now : Int} {ms : List Mp} {k : Nat} {m : Mp} (h : ms[k]? = some m) (hy : ¬ now ≤ m.tm + l) : yng l now (ms.take (k + 1)) = yng l now (ms.take k) := by
  rw [yng_snoc h, show young l now m = false from decide_eq_false hy]
  simp
theorem yng_yes {l now : Int} {ms : List Mp} {k : Nat} {m : Mp} (h : ms[k]? = some m) (hy : now ≤ m.tm + l) : yng l now (ms.take (k + 1)) = yng l now (ms.take k) ++ [m] := by
  rw [yng_snoc h, show young l now m = true from decide_eq_true hy]
  simp
theorem but_yes {pr ad po : Int} {m : Mp} (h : m.pr = pr ∧ m.ad = ad ∧ m.po = po) (L : List Mp) : butP pr ad po (L ++ [m]) = butP pr ad po L := by
  rw [butP_app]
  unfold butP
  rw [List.filter_cons, show isP pr ad po m = true from decide_eq_true h]
  simp
theorem but_no {pr ad po : Int} {m : Mp} (h : ¬ (m.pr = pr ∧ m.ad = ad ∧ m.po = po)) (L : List Mp) : butP pr ad po (L ++ [m]) = butP pr ad po L ++ [m] := by
  rw [butP_app]
  congr 1
  unfold butP
  rw [List.filter_cons, show isP pr ad po m = false from decide_eq_false h]
  simp
theorem outF_snoc (pr ad po : Int) (L : List Mp) (m : Mp) (o : Int) : outF pr ad po (L ++ [m]) o = if isP pr ad po m then m.ou else outF pr ad po L o := by rw [outF_app]; rfl
section
variable (l b1 : Int) (t1 : Nat) (b2 : Int) (t2 : Nat) (ms : List Mp) (ad po now : Int) (hl : ms.length * 40 ≤ 140737488351232) (h10 : t1 < 18446744073709551616) (h20 : t2 < 18446744073709551616)
include hl h10 h20
set_option maxRecDepth 8000 in
set_option maxHeartbeats 8000000 in
theorem nout_found6 (he : natErr l b1 t1 b2 t2 ms = 0) (ha : ((0 ≤ po ∧ po ≤ 65535) ∧ lastT ms ≤ now ∧ now ≤ 1099511627776)) {o : Int} (ho : outF 6 ad po (yng l now ms) (-1) = o) (ho0 : 0 ≤ o) (hr1 : inR b1 17 (butP 6 ad po (yng l now ms) ++ [⟨6, ad, po, o, now⟩])) (hr2 : inR b2 6 (butP 6 ad po (yng l now ms) ++ [⟨6, ad, po, o, now⟩])) (hnd : ((butP 6 ad po (yng l now ms) ++ [(⟨6, ad, po, o, now⟩ : Mp)]).map keyE).Nodup) :
    Spec Tryd.prog 6 [dNt l b1 t1 b2 t2 ms, .v (.int .i64 6), .v (.int .u32 ad), .v (.int .i64 po), .v (.int .i64 now)] (dOut l b1 (bs b1 17 (butP 6 ad po (yng l now ms) ++ [⟨6, ad, po, o, now⟩])) b2 (bs b2 6 (butP 6 ad po (yng l now ms) ++ [⟨6, ad, po, o, now⟩])) (butP 6 ad po (yng l now ms) ++ [⟨6, ad, po, o, now⟩]) o 0) := by
  have hml : ms.length ≤ maxLen := by unfold maxLen; omega
  have h2 := nright_spec l b1 t1 b2 t2 ms hml h10 h20
  rw [he] at h2
  obtain ⟨hlf, hb, hg, -, -⟩ := good_all h10 h20 he
  have hbr1 := (pOk_rng' hb.1).1
  have hbr2 := (pOk_rng' hb.2).1
  have hlen : (ms.map Mp.enc).length = ms.length := List.length_map _
  have h3 := between_spec po 0 65535
  have h4 := between_spec now (lastT ms) 1099511627776
  rw [decide_eq_true ha.1] at h3
  rw [decide_eq_true ha.2] at h4
  obtain ⟨hpo, hn1, hn2⟩ := ha
  have hl0 : 0 ≤ lastT ms := by
    unfold lastT
    split
    · rename_i m hm
      exact (hg.tm m (List.mem_of_getElem? hm)).1
    · exact Int.le_refl _
  have hyl : (yng l now ms).length ≤ ms.length := List.length_filter_le _ _
  refine hspec_fn Tryd.func6 rfl ok_custref_NatOut okr_custref_NatOut rfl (by kernel_rfl) ?_
  intro Γ hW0 hN0 hL0
  have hW := hW0 rfl
  clear hW0 hN0 hL0
  unfold x_custref_NatOut r_custref_NatOut
  repeat' (first
    | (with_reducible first | refine go_seq ?_ | refine go_region ?_ | refine go_regionD mixed_ok ?_ | refine go_cond ?_ | refine go_skip ?_ | refine go_block ?_ | refine nx_code ?_ | refine nx_block ?_ | refine go_ret ?_ | refine nx_nil ?_ | refine go_exit ?_ | refine ex_code ?_ | refine ex_loop ?_ | refine ex_here ?_)
    | ((with_reducible refine ex_past ?_ ?_); (exact by decide))
    | ((with_reducible refine endD_intro ?_ ?_); (exact by kernel_rfl))
    | ((with_reducible refine runR_n ?_ ?_); exact auN)
    | (first | (with_reducible refine runR_call h2 ?_))
    | (dsimp only [run, undef, zipO, runR_ok, runR_t, runR_f, gd, gd2, skipR, ex1, pickR, boxR, loadR, loadO, storeR, storeO, nilR, fieldAR, fieldR, partOf, binR, intBin, unR, boolR, kindEq, shiftOp, onlyIf, orB, convR, extR, lenR, indexSlR, gidxR, putE, updL, keysOf, lget, lset, evT, evs, Env.get, Env.set, N8.get, N8.set, env0, cellsD, oneD, oneV, andB, allOne, lenB, mapV, dget, ddrop, dtake, splice, xget, xset, partsD, partsOk, partsE, partsEOk, repl, elemsR, elemsS, elemsO, xdrop, xtake, allOnes, appN, appOwn, appNew, appY, cellEq_i, consO, cmpAll, allB, negB, eqsO, eqsR, minR, evO, bndO, keepB, snapCut, slCut, nilCut, sliceR, isS, isnilL, isnilX, isnilR, makeR, clearO, clearR, sliceW1, sliceW2, sliceW3, sliceWR, appWO, appWR, isnilPR, appD, callvR, cond, condK_t, condK_f, argsE, slots0, List.length_cons, List.length_nil, Bool.true_or, Bool.false_or, Bool.or_true, Bool.or_false, bnf, bnt, Nat.add_zero, Nat.zero_add, Nat.reduceAdd, Nat.reduceMul, Int.reduceToNat, endS])
    | (with_reducible refine runR_b (fun h => ?_) (fun h => ?_) <;> first | exact auH | simp only [h, runR_t, runR_f])
    | (with_reducible refine condK_bl ?_ ?_)
    | (with_reducible refine condK_b (fun h => ?_) (fun h => ?_) <;> first | exact auH | skip)
    | fail)
  (all_goals first | exact auP | skip)
  all_goals first
    | (exfalso; simp at h; done)
    | skip
  refine go_loopH (α := Nat × Nat) (fun p => [(⟨.d0, .d5, .d0⟩, .v (.int .i64 (p.1 : Nat))), (⟨.d0, .d1, .d6⟩, .v (.int .i64 (lastK ms p.1)))]) (fun p => [(2, none)]) (fun p => p.2) (fun p => ms.length - p.1) (fun p => p.1 ≤ ms.length) (0, Γ.g0 + 2) (Nat.zero_le _) ?_ ?_
  · skip
    refine le_mk ?_ ?_ (Nat.le_refl _)
    all_goals dsimp only [leE, leC, leR, leN, leD, leH, leO, writesX, dstsX, appS, havE, setsE, Env.get, Env.set, N8.get, N8.set, updL, lget, lset, env0]
    all_goals (repeat' (first | exact trivial | exact rfl | apply And.intro))
  rintro ⟨k, gn⟩ hk
  dsimp only at hk ⊢
  dsimp only [writesX, dstsX, appS, havE, setsE, Env.get, Env.set, N8.get, N8.set, updL, lget, lset, env0]
  by_cases hlt : k < ms.length
  · obtain ⟨m, hm⟩ : ∃ m, ms[k]? = some m := ⟨_, List.getElem?_eq_getElem hlt⟩
    have ex := xget_mp hm
    have hwk : IntKind.i64.wrap ((k : Int) + 1) = ((k + 1 : Nat) : Int) := (IntWalk.i64_in _ (by omega)).trans (by omega)
    have hlk := lastK_succ hm
    repeat' (first
      | (with_reducible first | refine go_seq ?_ | refine go_region ?_ | refine go_regionD mixed_ok ?_ | refine go_cond ?_ | refine go_skip ?_ | refine go_block ?_ | refine nx_code ?_ | refine nx_block ?_ | refine go_ret ?_ | refine nx_nil ?_ | refine go_exit ?_ | refine ex_code ?_ | refine ex_loop ?_ | refine ex_here ?_)
      | ((with_reducible refine ex_past ?_ ?_); (exact by decide))
      | ((with_reducible refine endD_intro ?_ ?_); (exact by kernel_rfl))
      | ((with_reducible refine runR_n ?_ ?_); exact auN)
      | (simp only [hwk])
      | (dsimp only [run, undef, zipO, runR_ok, runR_t, runR_f, gd, gd2, skipR, ex1, pickR, boxR, loadR, loadO, storeR, storeO, nilR, fieldAR, fieldR, partOf, binR, intBin, unR, boolR, kindEq, shiftOp, onlyIf, orB, convR, extR, lenR, indexSlR, gidxR, putE, updL, keysOf, lget, lset, evT, evs, Env.get, Env.set, N8.get, N8.set, env0, cellsD, oneD, oneV, andB, allOne, lenB, mapV, dget, ddrop, dtake, splice, xget, xset, partsD, partsOk, partsE, partsEOk, repl, elemsR, elemsS, elemsO, xdrop, xtake, allOnes, appN, appOwn, appNew, appY, cellEq_i, consO, cmpAll, allB, negB, eqsO, eqsR, minR, evO, bndO, keepB, snapCut, slCut, nilCut, sliceR, isS, isnilL, isnilX, isnilR, makeR, clearO, clearR, sliceW1, sliceW2, sliceW3, sliceWR, appWO, appWR, isnilPR, appD, callvR, cond, condK_t, condK_f, argsE, slots0, List.length_cons, List.length_nil, Bool.true_or, Bool.false_or, Bool.or_true, Bool.or_false, bnf, bnt, Nat.add_zero, Nat.zero_add, Nat.reduceAdd, Nat.reduceMul, Int.reduceToNat, endS])
      | (with_reducible refine runR_b (fun h => ?_) (fun h => ?_) <;> first | exact auH | simp only [h, runR_t, runR_f])
      | (with_reducible refine condK_bl ?_ ?_)
      | (with_reducible refine condK_b (fun h => ?_) (fun h => ?_) <;> first | exact auH | skip)
      | (first | (simp only [Int.toNat_natCast, ex]) | fail))
    (all_goals first | exact auP | skip)
    refine nx_loop ⟨(k + 1, gn + 1), hlt, Nat.sub_lt_sub_left hlt (Nat.lt_succ_self k), ?_⟩
    dsimp only
    rw [hlk]
    refine le_mk ?_ ?_ (Nat.le_refl _)
    all_goals dsimp only [leE, leC, leR, leN, leD, leH, leO, writesX, dstsX, appS, havE, setsE, Env.get, Env.set, N8.get, N8.set, updL, lget, lset, env0]
    all_goals (repeat' (first | exact trivial | exact rfl | apply And.intro))
  obtain rfl : k = ms.length := by omega
  rw [lastK_all]
  clear hk
  repeat' (first
    | (with_reducible first | refine go_seq ?_ | refine go_region ?_ | refine go_regionD mixed_ok ?_ | refine go_cond ?_ | refine go_skip ?_ | refine go_block ?_ | refine nx_code ?_ | refine nx_block ?_ | refine go_ret ?_ | refine nx_nil ?_ | refine go_exit ?_ | refine ex_code ?_ | refine ex_loop ?_ | refine ex_here ?_)
    | ((with_reducible refine ex_past ?_ ?_); (exact by decide))
    | ((with_reducible refine endD_intro ?_ ?_); (exact by kernel_rfl))
    | ((with_reducible refine runR_n ?_ ?_); exact auN)
    | (first | (with_reducible refine runR_call h3 ?_) | (with_reducible refine runR_call h4 ?_))
    | (dsimp only [run, undef, zipO, runR_ok, runR_t, runR_f, gd, gd2, skipR, ex1, pickR, boxR, loadR, loadO, storeR, storeO, nilR, fieldAR, fieldR, partOf, binR, intBin, unR, boolR, kindEq, shiftOp, onlyIf, orB, convR, extR, lenR, indexSlR, gidxR, putE, updL, keysOf, lget, lset, evT, evs, Env.get, Env.set, N8.get, N8.set, env0, cellsD, oneD, oneV, andB, allOne, lenB, mapV, dget, ddrop, dtake, splice, xget, xset, partsD, partsOk, partsE, partsEOk, repl, elemsR, elemsS, elemsO, xdrop, xtake, allOnes, appN, appOwn, appNew, appY, cellEq_i, consO, cmpAll, allB, negB, eqsO, eqsR, minR, evO, bndO, keepB, snapCut, slCut, nilCut, sliceR, isS, isnilL, isnilX, isnilR, makeR, clearO, clearR, sliceW1, sliceW2, sliceW3, sliceWR, appWO, appWR, isnilPR, appD, callvR, cond, condK_t, condK_f, argsE, slots0, List.length_cons, List.length_nil, Bool.true_or, Bool.false_or, Bool.or_true, Bool.or_false, bnf, bnt, Nat.add_zero, Nat.zero_add, Nat.reduceAdd, Nat.reduceMul, Int.reduceToNat, endS])
    | (with_reducible refine runR_b (fun h => ?_) (fun h => ?_) <;> first | exact auH | simp only [h, runR_t, runR_f])
    | (with_reducible refine condK_bl ?_ ?_)
    | (with_reducible refine condK_b (fun h => ?_) (fun h => ?_) <;> first | exact auH | skip)
    | fail)
  (all_goals first | exact auP | skip)
  all_goals first
    | (exfalso; simp at h; done)
    | skip
  refine go_le (le_row ⟨.d0, .d2, .d1⟩ 5 5 rfl rfl) ?_
  dsimp only [writesX, dstsX, appS, havE, setsE, Env.get, Env.set, N8.get, N8.set, updL, lget, lset, env0]
  refine go_loopH (α := Nat × Nat × Nat) (fun p => [(⟨.d0, .d7, .d4⟩, .v (.int .i64 (p.1 : Nat))), (⟨.d0, .d2, .d1⟩, .sl 5 p.2.1 5 0 (butP 6 ad po (yng l now (ms.take p.1))).length false), (⟨.d0, .d2, .d2⟩, .v (.int .i64 (outF 6 ad po (yng l now (ms.take p.1)) (-1))))]) (fun p => [(3, none), (4, none), (5, some ⟨p.2.1, 5, (butP 6 ad po (yng l now (ms.take p.1))).map Mp.enc⟩)]) (fun p => p.2.2) (fun p => ms.length - p.1) (fun p => p.1 ≤ ms.length) (0, gn, gn + 1) (Nat.zero_le _) ?_ ?_
  · skip
    refine le_mk ?_ ?_ (Nat.le_refl _)
    all_goals dsimp only [leE, leC, leR, leN, leD, leH, leO, writesX, dstsX, appS, havE, setsE, Env.get, Env.set, N8.get, N8.set, updL, lget, lset, env0]
    all_goals (repeat' (first | exact trivial | exact rfl | apply And.intro))
  rintro ⟨k, nm, gn⟩ hk
  dsimp only at hk ⊢
  dsimp only [writesX, dstsX, appS, havE, setsE, Env.get, Env.set, N8.get, N8.set, updL, lget, lset, env0]
  by_cases hlt : k < ms.length
  · obtain ⟨m, hm⟩ : ∃ m, ms[k]? = some m := ⟨_, List.getElem?_eq_getElem hlt⟩
    have ex := xget_mp hm
    have htm := hg.tm m (List.mem_of_getElem? hm)
    have hwk : IntKind.i64.wrap ((k : Int) + 1) = ((k + 1 : Nat) : Int) := (IntWalk.i64_in _ (by omega)).trans (by omega)
    have hws : IntKind.i64.wrap (now - m.tm) = now - m.tm := IntWalk.i64_in _ (by omega)
    by_cases hy : now ≤ m.tm + l
    · have hyk := yng_yes hm hy
      by_cases hp : m.pr = 6 ∧ m.ad = ad ∧ m.po = po
      · have e1 := but_yes hp (yng l now (ms.take k))
        have e2 := outF_snoc 6 ad po (yng l now (ms.take k)) m (-1)
        rw [show isP 6 ad po m = true from decide_eq_true hp, if_pos rfl] at e2
        rw [← hyk] at e1 e2
        obtain ⟨p1, p2, p3⟩ := hp
        repeat' (first
          | (with_reducible first | refine go_seq ?_ | refine go_region ?_ | refine go_regionD mixed_ok ?_ | refine go_cond ?_ | refine go_skip ?_ | refine go_block ?_ | refine nx_code ?_ | refine nx_block ?_ | refine go_ret ?_ | refine nx_nil ?_ | refine go_exit ?_ | refine ex_code ?_ | refine ex_loop ?_ | refine ex_here ?_)
          | ((with_reducible refine ex_past ?_ ?_); (exact by decide))
          | ((with_reducible refine endD_intro ?_ ?_); (exact by kernel_rfl))
          | ((with_reducible refine runR_n ?_ ?_); exact auN)
          | (simp only [hwk, hws])
          | (dsimp only [run, undef, zipO, runR_ok, runR_t, runR_f, gd, gd2, skipR, ex1, pickR, boxR, loadR, loadO, storeR, storeO, nilR, fieldAR, fieldR, partOf, binR, intBin, unR, boolR, kindEq, shiftOp, onlyIf, orB, convR, extR, lenR, indexSlR, gidxR, putE, updL, keysOf, lget, lset, evT, evs, Env.get, Env.set, N8.get, N8.set, env0, cellsD, oneD, oneV, andB, allOne, lenB, mapV, dget, ddrop, dtake, splice, xget, xset, partsD, partsOk, partsE, partsEOk, repl, elemsR, elemsS, elemsO, xdrop, xtake, allOnes, appN, appOwn, appNew, appY, cellEq_i, consO, cmpAll, allB, negB, eqsO, eqsR, minR, evO, bndO, keepB, snapCut, slCut, nilCut, sliceR, isS, isnilL, isnilX, isnilR, makeR, clearO, clearR, sliceW1, sliceW2, sliceW3, sliceWR, appWO, appWR, isnilPR, appD, callvR, cond, condK_t, condK_f, argsE, slots0, List.length_cons, List.length_nil, Bool.true_or, Bool.false_or, Bool.or_true, Bool.or_false, bnf, bnt, Nat.add_zero, Nat.zero_add, Nat.reduceAdd, Nat.reduceMul, Int.reduceToNat, endS])
          | (with_reducible refine runR_b (fun h => ?_) (fun h => ?_) <;> first | exact auH | simp only [h, runR_t, runR_f])
          | (with_reducible refine condK_bl ?_ ?_)
          | (with_reducible refine condK_b (fun h => ?_) (fun h => ?_) <;> first | exact auH | skip)
          | (first | (simp only [Int.toNat_natCast, ex]) | fail))
        (all_goals first | exact auP | skip)
        all_goals first
          | (exfalso; simp_all; done)
          | skip
        all_goals (refine nx_loop ⟨(k + 1, nm, gn + 1), hlt, Nat.sub_lt_sub_left hlt (Nat.lt_succ_self k), ?_⟩; dsimp only; rw [e1, e2]; (refine le_mk ?_ ?_ (Nat.le_refl _)); (all_goals dsimp only [leE, leC, leR, leN, leD, leH, leO, writesX, dstsX, appS, havE, setsE, Env.get, Env.set, N8.get, N8.set, updL, lget, lset, env0]); (all_goals (repeat' (first | exact trivial | exact rfl | apply And.intro))))
      · have e1 := but_no hp (yng l now (ms.take k))
        have e2 := outF_snoc 6 ad po (yng l now (ms.take k)) m (-1)
        rw [show isP 6 ad po m = false from decide_eq_false hp, if_neg (by decide)] at e2
        rw [← hyk] at e1 e2
        have hbl : (butP 6 ad po (yng l now (ms.take k))).length ≤ k := Nat.le_trans (List.length_filter_le _ _) (Nat.le_trans (List.length_filter_le _ _) (by rw [List.length_take]; omega))
        have hxs : ((butP 6 ad po (yng l now (ms.take k))).map Mp.enc).length = (butP 6 ad po (yng l now (ms.take k))).length := List.length_map _
        have e3 : (butP 6 ad po (yng l now (ms.take (k + 1)))).map Mp.enc = (butP 6 ad po (yng l now (ms.take k))).map Mp.enc ++ [[.v (.int .i64 m.pr), .v (.int .u32 m.ad), .v (.int .i64 m.po), .v (.int .i64 m.ou), .v (.int .i64 m.tm)]] := by rw [e1, List.map_append]; rfl
        have e4 : (butP 6 ad po (yng l now (ms.take (k + 1)))).length = ((butP 6 ad po (yng l now (ms.take k))).map Mp.enc).length + 1 := by rw [e1, hxs]; simp
        repeat' (first
          | (with_reducible first | refine go_seq ?_ | refine go_region ?_ | refine go_regionD mixed_ok ?_ | refine go_cond ?_ | refine go_skip ?_ | refine go_block ?_ | refine nx_code ?_ | refine nx_block ?_ | refine go_ret ?_ | refine nx_nil ?_ | refine go_exit ?_ | refine ex_code ?_ | refine ex_loop ?_ | refine ex_here ?_)
          | ((with_reducible refine ex_past ?_ ?_); (exact by decide))
          | ((with_reducible refine endD_intro ?_ ?_); (exact by kernel_rfl))
          | ((with_reducible refine runR_n ?_ ?_); exact auN)
          | (simp only [hwk, hws])
          | (dsimp only [run, undef, zipO, runR_ok, runR_t, runR_f, gd, gd2, skipR, ex1, pickR, boxR, loadR, loadO, storeR, storeO, nilR, fieldAR, fieldR, partOf, binR, intBin, unR, boolR, kindEq, shiftOp, onlyIf, orB, convR, extR, lenR, indexSlR, gidxR, putE, updL, keysOf, lget, lset, evT, evs, Env.get, Env.set, N8.get, N8.set, env0, cellsD, oneD, oneV, andB, allOne, lenB, mapV, dget, ddrop, dtake, splice, xget, xset, partsD, partsOk, partsE, partsEOk, repl, elemsR, elemsS, elemsO, xdrop, xtake, allOnes, appN, appOwn, appNew, appY, cellEq_i, consO, cmpAll, allB, negB, eqsO, eqsR, minR, evO, bndO, keepB, snapCut, slCut, nilCut, sliceR, isS, isnilL, isnilX, isnilR, makeR, clearO, clearR, sliceW1, sliceW2, sliceW3, sliceWR, appWO, appWR, isnilPR, appD, callvR, cond, condK_t, condK_f, argsE, slots0, List.length_cons, List.length_nil, Bool.true_or, Bool.false_or, Bool.or_true, Bool.or_false, bnf, bnt, Nat.add_zero, Nat.zero_add, Nat.reduceAdd, Nat.reduceMul, Int.reduceToNat, endS])
          | (with_reducible refine runR_b (fun h => ?_) (fun h => ?_) <;> first | exact auH | simp only [h, runR_t, runR_f])
          | (with_reducible refine condK_bl ?_ ?_)
          | (with_reducible refine condK_b (fun h => ?_) (fun h => ?_) <;> first | exact auH | skip)
          | (first | (simp only [Int.toNat_natCast, ex]) | (refine runR_n ⟨by trivial, by unfold room maxLen; rw [hxs]; simp; omega⟩ ?_) | fail))
        (all_goals first | exact auP | skip)
        all_goals first
          | (exfalso; simp_all; done)
          | skip
        all_goals (refine nx_loop ⟨(k + 1, gn + 2, gn + 3), hlt, Nat.sub_lt_sub_left hlt (Nat.lt_succ_self k), ?_⟩; dsimp only; rw [e2, e3, e4]; (refine le_mk ?_ ?_ (Nat.le_refl _)); (all_goals dsimp only [leE, leC, leR, leN, leD, leH, leO, writesX, dstsX, appS, havE, setsE, Env.get, Env.set, N8.get, N8.set, updL, lget, lset, env0]); (all_goals (repeat' (first | exact trivial | exact rfl | apply And.intro))))
    · have hyk := yng_no hm hy
      repeat' (first
        | (with_reducible first | refine go_seq ?_ | refine go_region ?_ | refine go_regionD mixed_ok ?_ | refine go_cond ?_ | refine go_skip ?_ | refine go_block ?_ | refine nx_code ?_ | refine nx_block ?_ | refine go_ret ?_ | refine nx_nil ?_ | refine go_exit ?_ | refine ex_code ?_ | refine ex_loop ?_ | refine ex_here ?_)
        | ((with_reducible refine ex_past ?_ ?_); (exact by decide))
        | ((with_reducible refine endD_intro ?_ ?_); (exact by kernel_rfl))
        | ((with_reducible refine runR_n ?_ ?_); exact auN)
        | (simp only [hwk, hws])
        | (dsimp only [run, undef, zipO, runR_ok, runR_t, runR_f, gd, gd2, skipR, ex1, pickR, boxR, loadR, loadO, storeR, storeO, nilR, fieldAR, fieldR, partOf, binR, intBin, unR, boolR, kindEq, shiftOp, onlyIf, orB, convR, extR, lenR, indexSlR, gidxR, putE, updL, keysOf, lget, lset, evT, evs, Env.get, Env.set, N8.get, N8.set, env0, cellsD, oneD, oneV, andB, allOne, lenB, mapV, dget, ddrop, dtake, splice, xget, xset, partsD, partsOk, partsE, partsEOk, repl, elemsR, elemsS, elemsO, xdrop, xtake, allOnes, appN, appOwn, appNew, appY, cellEq_i, consO, cmpAll, allB, negB, eqsO, eqsR, minR, evO, bndO, keepB, snapCut, slCut, nilCut, sliceR, isS, isnilL, isnilX, isnilR, makeR, clearO, clearR, sliceW1, sliceW2, sliceW3, sliceWR, appWO, appWR, isnilPR, appD, callvR, cond, condK_t, condK_f, argsE, slots0, List.length_cons, List.length_nil, Bool.true_or, Bool.false_or, Bool.or_true, Bool.or_false, bnf, bnt, Nat.add_zero, Nat.zero_add, Nat.reduceAdd, Nat.reduceMul, Int.reduceToNat, endS])
        | (with_reducible refine runR_b (fun h => ?_) (fun h => ?_) <;> first | exact auH | simp only [h, runR_t, runR_f])
        | (with_reducible refine condK_bl ?_ ?_)
        | (with_reducible refine condK_b (fun h => ?_) (fun h => ?_) <;> first | exact auH | skip)
        | (first | (simp only [Int.toNat_natCast, ex]) | fail))
      (all_goals first | exact auP | skip)
      all_goals first
        | (exfalso; simp_all; done)
        | skip
      refine nx_loop ⟨(k + 1, nm, gn + 1), hlt, Nat.sub_lt_sub_left hlt (Nat.lt_succ_self k), ?_⟩
      dsimp only
      rw [hyk]
      refine le_mk ?_ ?_ (Nat.le_refl _)
      all_goals dsimp only [leE, leC, leR, leN, leD, leH, leO, writesX, dstsX, appS, havE, setsE, Env.get, Env.set, N8.get, N8.set, updL, lget, lset, env0]
      all_goals (repeat' (first | exact trivial | exact rfl | apply And.intro))
  obtain rfl : k = ms.length := by omega
  rw [List.take_length]
  have hZl : (butP 6 ad po (yng l now ms)).length ≤ ms.length := Nat.le_trans (List.length_filter_le _ _) (List.length_filter_le _ _)
  rw [ho]
  generalize butP 6 ad po (yng l now ms) = Z at *
  clear hg
  generalize yng l now ms = Y at *
  have h7 : True := trivial
  have h8 : True := trivial
  have h9 : True := trivial
  have hxs : (Z.map Mp.enc).length = Z.length := List.length_map _
  have hcat : Z.map Mp.enc ++ [[.v (.int .i64 6), .v (.int .u32 ad), .v (.int .i64 po), .v (.int .i64 o), .v (.int .i64 now)]] = (Z ++ [(⟨6, ad, po, o, now⟩ : Mp)]).map Mp.enc := by rw [List.map_append]; rfl
  have h5 := but_spec b1 t1 17 (Z ++ [(⟨6, ad, po, o, now⟩ : Mp)]) false (by unfold maxLen; simp; omega) hbr1 hr1 hnd
  have h6 := but_spec b2 t2 6 (Z ++ [(⟨6, ad, po, o, now⟩ : Mp)]) false (by unfold maxLen; simp; omega) hbr2 hr2 hnd
  have nf1 := fun g => nf_mp g (Z ++ [(⟨6, ad, po, o, now⟩ : Mp)])
  repeat' (first
    | (with_reducible first | refine go_seq ?_ | refine go_region ?_ | refine go_regionD mixed_ok ?_ | refine go_cond ?_ | refine go_skip ?_ | refine go_block ?_ | refine nx_code ?_ | refine nx_block ?_ | refine go_ret ?_ | refine nx_nil ?_ | refine go_exit ?_ | refine ex_code ?_ | refine ex_loop ?_ | refine ex_here ?_)
    | ((with_reducible refine ex_past ?_ ?_); (exact by decide))
    | ((with_reducible refine endD_intro ?_ ?_); (exact by kernel_rfl))
    | ((with_reducible refine runR_n ?_ ?_); exact auN)
    | (first | (refine runR_callF 9 rfl h5 ⟨⟨rfl, rfl, rfl⟩, .inl ⟨rfl, rfl, by simp, by rw [xall (by simp)]; exact congrArg (fun q => DV.snap 5 q false) hcat.symm⟩, rfl, rfl⟩ rfl ?_) | (refine runR_callF 9 rfl h6 ⟨⟨rfl, rfl, rfl⟩, .inl ⟨rfl, rfl, by simp, by rw [xall (by simp)]; exact congrArg (fun q => DV.snap 5 q false) hcat.symm⟩, rfl, rfl⟩ rfl ?_) | (refine runR_callF 5 rfl h7 ⟨⟨rfl, rfl, rfl⟩, .inl ⟨rfl, rfl, by simp, by rw [xall (by simp)]⟩, rfl, rfl⟩ rfl ?_) | (refine runR_callF 5 rfl h8 ⟨⟨rfl, rfl, rfl⟩, .inl ⟨rfl, rfl, by simp, by rw [xall (by simp)]⟩, rfl, rfl⟩ rfl ?_) | (with_reducible refine runR_call h9 ?_))
    | (dsimp only [run, undef, zipO, runR_ok, runR_t, runR_f, gd, gd2, skipR, ex1, pickR, boxR, loadR, loadO, storeR, storeO, nilR, fieldAR, fieldR, partOf, binR, intBin, unR, boolR, kindEq, shiftOp, onlyIf, orB, convR, extR, lenR, indexSlR, gidxR, putE, updL, keysOf, lget, lset, evT, evs, Env.get, Env.set, N8.get, N8.set, env0, cellsD, oneD, oneV, andB, allOne, lenB, mapV, dget, ddrop, dtake, splice, xget, xset, partsD, partsOk, partsE, partsEOk, repl, elemsR, elemsS, elemsO, xdrop, xtake, allOnes, appN, appOwn, appNew, appY, cellEq_i, consO, cmpAll, allB, negB, eqsO, eqsR, minR, evO, bndO, keepB, snapCut, slCut, nilCut, sliceR, isS, isnilL, isnilX, isnilR, makeR, clearO, clearR, sliceW1, sliceW2, sliceW3, sliceWR, appWO, appWR, isnilPR, appD, callvR, cond, condK_t, condK_f, argsE, slots0, List.length_cons, List.length_nil, Bool.true_or, Bool.false_or, Bool.or_true, Bool.or_false, bnf, bnt, Nat.add_zero, Nat.zero_add, Nat.reduceAdd, Nat.reduceMul, Int.reduceToNat, endS])
    | (with_reducible refine runR_b (fun h => ?_) (fun h => ?_) <;> first | exact auH | simp only [h, runR_t, runR_f])
    | (with_reducible refine condK_bl ?_ ?_)
    | (with_reducible refine condK_b (fun h => ?_) (fun h => ?_) <;> first | exact auH | skip)
    | (first | (refine runR_n ⟨by trivial, by unfold room maxLen; rw [hxs]; simp; omega⟩ ?_) | fail))
  (all_goals first | exact auP | skip)
  all_goals first
    | (exfalso; simp at h; done)
    | skip
  rw [hcat]
  refine retq_le (leG_freezeO hW 1 9 (by decide) (ys := [[.v (.int .i64 l), .v (.int .i64 b1), .v (.int .u64 (bs b1 17 (Z ++ [(⟨6, ad, po, o, now⟩ : Mp)]) : Nat)), .v (.int .i64 b2), .v (.int .u64 (bs b2 6 (Z ++ [(⟨6, ad, po, o, now⟩ : Mp)]) : Nat)), .snap 5 ((Z ++ [(⟨6, ad, po, o, now⟩ : Mp)]).map Mp.enc) false]]) rfl rfl ⟨⟨rfl, rfl, rfl, rfl, rfl, Or.inl ⟨rfl, rfl, by simp, by rw [xall (by simp)]⟩, rfl⟩, rfl⟩) ?_
  all_goals with_reducible refine ret_spec2 (by (try dsimp only [RetOK, resOk, resDs, resD, resV, cellV, cellO, cellP, cellOk, htake, nfD, nfL, nfLL, nfH, lget, partOf, xget, ddrop, dtake, dget, Env.get, N8.get, env0, List.length_cons, List.length_nil, Env.set, N8.set, lset, updL]); (repeat' (first | exact trivial | exact rfl | exact nfLL_map (fun x => by simp [nfL, nfD, nfD, nfL, nf1]) | decide | apply And.intro))) ?_
  all_goals (try dsimp only [RetOK, resOk, resDs, resD, resV, cellV, cellO, cellP, cellOk, htake, nfD, nfL, nfLL, nfH, lget, partOf, xget, ddrop, dtake, dget, Env.get, N8.get, env0, List.length_cons, List.length_nil, Env.set, N8.set, lset, updL])
  all_goals (try simp only [hsM] at *)
  all_goals rfl
set_option maxRecDepth 8000 in
set_option maxHeartbeats 8000000 in
theorem nout_found17 (he : natErr l b1 t1 b2 t2 ms = 0) (ha : ((0 ≤ po ∧ po ≤ 65535) ∧ lastT ms ≤ now ∧ now ≤ 1099511627776)) {o : Int} (ho : outF 17 ad po (yng l now ms) (-1) = o) (ho0 : 0 ≤ o) (hr1 : inR b1 17 (butP 17 ad po (yng l now ms) ++ [⟨17, ad, po, o, now⟩])) (hr2 : inR b2 6 (butP 17 ad po (yng l now ms) ++ [⟨17, ad, po, o, now⟩])) (hnd : ((butP 17 ad po (yng l now ms) ++ [(⟨17, ad, po, o, now⟩ : Mp)]).map keyE).Nodup) :
    Spec Tryd.prog 6 [dNt l b1 t1 b2 t2 ms, .v (.int .i64 17), .v (.int .u32 ad), .v (.int .i64 po), .v (.int .i64 now)] (dOut l b1 (bs b1 17 (butP 17 ad po (yng l now ms) ++ [⟨17, ad, po, o, now⟩])) b2 (bs b2 6 (butP 17 ad po (yng l now ms) ++ [⟨17, ad, po, o, now⟩])) (butP 17 ad po (yng l now ms) ++ [⟨17, ad, po, o, now⟩]) o 0) := by
  have hml : ms.length ≤ maxLen := by unfold maxLen; omega
  have h2 := nright_spec l b1 t1 b2 t2 ms hml h10 h20
  rw [he] at h2
  obtain ⟨hlf, hb, hg, -, -⟩ := good_all h10 h20 he
  have hbr1 := (pOk_rng' hb.1).1
  have hbr2 := (pOk_rng' hb.2).1
  have hlen : (ms.map Mp.enc).length = ms.length := List.length_map _
  have h3 := between_spec po 0 65535
  have h4 := between_spec now (lastT ms) 1099511627776
  rw [decide_eq_true ha.1] at h3
  rw [decide_eq_true ha.2] at h4
  obtain ⟨hpo, hn1, hn2⟩ := ha
  have hl0 : 0 ≤ lastT ms := by
    unfold lastT
    split
    · rename_i m hm
      exact (hg.tm m (List.mem_of_getElem? hm)).1
    · exact Int.le_refl _
  have hyl : (yng l now ms).length ≤ ms.length := List.length_filter_le _ _
  refine hspec_fn Tryd.func6 rfl ok_custref_NatOut okr_custref_NatOut rfl (by kernel_rfl) ?_
  intro Γ hW0 hN0 hL0
  have hW := hW0 rfl
  clear hW0 hN0 hL0
  unfold x_custref_NatOut r_custref_NatOut
  repeat' (first
    | (with_reducible first | refine go_seq ?_ | refine go_region ?_ | refine go_regionD mixed_ok ?_ | refine go_cond ?_ | refine go_skip ?_ | refine go_block ?_ | refine nx_code ?_ | refine nx_block ?_ | refine go_ret ?_ | refine nx_nil ?_ | refine go_exit ?_ | refine ex_code ?_ | refine ex_loop ?_ | refine ex_here ?_)
    | ((with_reducible refine ex_past ?_ ?_); (exact by decide))
    | ((with_reducible refine endD_intro ?_ ?_); (exact by kernel_rfl))
    | ((with_reducible refine runR_n ?_ ?_); exact auN)
    | (first | (with_reducible refine runR_call h2 ?_))
    | (dsimp only [run, undef, zipO, runR_ok, runR_t, runR_f, gd, gd2, skipR, ex1, pickR, boxR, loadR, loadO, storeR, storeO, nilR, fieldAR, fieldR, partOf, binR, intBin, unR, boolR, kindEq, shiftOp, onlyIf, orB, convR, extR, lenR, indexSlR, gidxR, putE, updL, keysOf, lget, lset, evT, evs, Env.get, Env.set, N8.get, N8.set, env0, cellsD, oneD, oneV, andB, allOne, lenB, mapV, dget, ddrop, dtake, splice, xget, xset, partsD, partsOk, partsE, partsEOk, repl, elemsR, elemsS, elemsO, xdrop, xtake, allOnes, appN, appOwn, appNew, appY, cellEq_i, consO, cmpAll, allB, negB, eqsO, eqsR, minR, evO, bndO, keepB, snapCut, slCut, nilCut, sliceR, isS, isnilL, isnilX, isnilR, makeR, clearO, clearR, sliceW1, sliceW2, sliceW3, sliceWR, appWO, appWR, isnilPR, appD, callvR, cond, condK_t, condK_f, argsE, slots0, List.length_cons, List.length_nil, Bool.true_or, Bool.false_or, Bool.or_true, Bool.or_false, bnf, bnt, Nat.add_zero, Nat.zero_add, Nat.reduceAdd, Nat.reduceMul, Int.reduceToNat, endS])
    | (with_reducible refine runR_b (fun h => ?_) (fun h => ?_) <;> first | exact auH | simp only [h, runR_t, runR_f])
    | (with_reducible refine condK_bl ?_ ?_)
    | (with_reducible refine condK_b (fun h => ?_) (fun h => ?_) <;> first | exact auH | skip)
    | fail)
  (all_goals first | exact auP | skip)
  all_goals first
    | (exfalso; simp at h; done)
    | skip
  refine go_loopH (α := Nat × Nat) (fun p => [(⟨.d0, .d5, .d0⟩, .v (.int .i64 (p.1 : Nat))), (⟨.d0, .d1, .d6⟩, .v (.int .i64 (lastK ms p.1)))]) (fun p => [(2, none)]) (fun p => p.2) (fun p => ms.length - p.1) (fun p => p.1 ≤ ms.length) (0, Γ.g0 + 2) (Nat.zero_le _) ?_ ?_
  · skip
    refine le_mk ?_ ?_ (Nat.le_refl _)
    all_goals dsimp only [leE, leC, leR, leN, leD, leH, leO, writesX, dstsX, appS, havE, setsE, Env.get, Env.set, N8.get, N8.set, updL, lget, lset, env0]
    all_goals (repeat' (first | exact trivial | exact rfl | apply And.intro))
  rintro ⟨k, gn⟩ hk
  dsimp only at hk ⊢
  dsimp only [writesX, dstsX, appS, havE, setsE, Env.get, Env.set, N8.get, N8.set, updL, lget, lset, env0]
  by_cases hlt : k < ms.length
  · obtain ⟨m, hm⟩ : ∃ m, ms[k]? = some m := ⟨_, List.getElem?_eq_getElem hlt⟩
    have ex := xget_mp hm
    have hwk : IntKind.i64.wrap ((k : Int) + 1) = ((k + 1 : Nat) : Int) := (IntWalk.i64_in _ (by omega)).trans (by omega)
    have hlk := lastK_succ hm
    repeat' (first
      | (with_reducible first | refine go_seq ?_ | refine go_region ?_ | refine go_regionD mixed_ok ?_ | refine go_cond ?_ | refine go_skip ?_ | refine go_block ?_ | refine nx_code ?_ | refine nx_block ?_ | refine go_ret ?_ | refine nx_nil ?_ | refine go_exit ?_ | refine ex_code ?_ | refine ex_loop ?_ | refine ex_here ?_)
      | ((with_reducible refine ex_past ?_ ?_); (exact by decide))
      | ((with_reducible refine endD_intro ?_ ?_); (exact by kernel_rfl))
      | ((with_reducible refine runR_n ?_ ?_); exact auN)
      | (simp only [hwk])
      | (dsimp only [run, undef, zipO, runR_ok, runR_t, runR_f, gd, gd2, skipR, ex1, pickR, boxR, loadR, loadO, storeR, storeO, nilR, fieldAR, fieldR, partOf, binR, intBin, unR, boolR, kindEq, shiftOp, onlyIf, orB, convR, extR, lenR, indexSlR, gidxR, putE, updL, keysOf, lget, lset, evT, evs, Env.get, Env.set, N8.get, N8.set, env0, cellsD, oneD, oneV, andB, allOne, lenB, mapV, dget, ddrop, dtake, splice, xget, xset, partsD, partsOk, partsE, partsEOk, repl, elemsR, elemsS, elemsO, xdrop, xtake, allOnes, appN, appOwn, appNew, appY, cellEq_i, consO, cmpAll, allB, negB, eqsO, eqsR, minR, evO, bndO, keepB, snapCut, slCut, nilCut, sliceR, isS, isnilL, isnilX, isnilR, makeR, clearO, clearR, sliceW1, sliceW2, sliceW3, sliceWR, appWO, appWR, isnilPR, appD, callvR, cond, condK_t, condK_f, argsE, slots0, List.length_cons, List.length_nil, Bool.true_or, Bool.false_or, Bool.or_true, Bool.or_false, bnf, bnt, Nat.add_zero, Nat.zero_add, Nat.reduceAdd, Nat.reduceMul, Int.reduceToNat, endS])
      | (with_reducible refine runR_b (fun h => ?_) (fun h => ?_) <;> first | exact auH | simp only [h, runR_t, runR_f])
      | (with_reducible refine condK_bl ?_ ?_)
      | (with_reducible refine condK_b (fun h => ?_) (fun h => ?_) <;> first | exact auH | skip)
      | (first | (simp only [Int.toNat_natCast, ex]) | fail))
    (all_goals first | exact auP | skip)
    refine nx_loop ⟨(k + 1, gn + 1), hlt, Nat.sub_lt_sub_left hlt (Nat.lt_succ_self k), ?_⟩
    dsimp only
    rw [hlk]
    refine le_mk ?_ ?_ (Nat.le_refl _)
    all_goals dsimp only [leE, leC, leR, leN, leD, leH, leO, writesX, dstsX, appS, havE, setsE, Env.get, Env.set, N8.get, N8.set, updL, lget, lset, env0]
    all_goals (repeat' (first | exact trivial | exact rfl | apply And.intro))
  obtain rfl : k = ms.length := by omega
  rw [lastK_all]
  clear hk
  repeat' (first
    | (with_reducible first | refine go_seq ?_ | refine go_region ?_ | refine go_regionD mixed_ok ?_ | refine go_cond ?_ | refine go_skip ?_ | refine go_block ?_ | refine nx_code ?_ | refine nx_block ?_ | refine go_ret ?_ | refine nx_nil ?_ | refine go_exit ?_ | refine ex_code ?_ | refine ex_loop ?_ | refine ex_here ?_)
    | ((with_reducible refine ex_past ?_ ?_); (exact by decide))
    | ((with_reducible refine endD_intro ?_ ?_); (exact by kernel_rfl))
    | ((with_reducible refine runR_n ?_ ?_); exact auN)
    | (first | (with_reducible refine runR_call h3 ?_) | (with_reducible refine runR_call h4 ?_))
    | (dsimp only [run, undef, zipO, runR_ok, runR_t, runR_f, gd, gd2, skipR, ex1, pickR, boxR, loadR, loadO, storeR, storeO, nilR, fieldAR, fieldR, partOf, binR, intBin, unR, boolR, kindEq, shiftOp, onlyIf, orB, convR, extR, lenR, indexSlR, gidxR, putE, updL, keysOf, lget, lset, evT, evs, Env.get, Env.set, N8.get, N8.set, env0, cellsD, oneD, oneV, andB, allOne, lenB, mapV, dget, ddrop, dtake, splice, xget, xset, partsD, partsOk, partsE, partsEOk, repl, elemsR, elemsS, elemsO, xdrop, xtake, allOnes, appN, appOwn, appNew, appY, cellEq_i, consO, cmpAll, allB, negB, eqsO, eqsR, minR, evO, bndO, keepB, snapCut, slCut, nilCut, sliceR, isS, isnilL, isnilX, isnilR, makeR, clearO, clearR, sliceW1, sliceW2, sliceW3, sliceWR, appWO, appWR, isnilPR, appD, callvR, cond, condK_t, condK_f, argsE, slots0, List.length_cons, List.length_nil, Bool.true_or, Bool.false_or, Bool.or_true, Bool.or_false, bnf, bnt, Nat.add_zero, Nat.zero_add, Nat.reduceAdd, Nat.reduceMul, Int.reduceToNat, endS])
    | (with_reducible refine runR_b (fun h => ?_) (fun h => ?_) <;> first | exact auH | simp only [h, runR_t, runR_f])
    | (with_reducible refine condK_bl ?_ ?_)
    | (with_reducible refine condK_b (fun h => ?_) (fun h => ?_) <;> first | exact auH | skip)
    | fail)
  (all_goals first | exact auP | skip)
  all_goals first
    | (exfalso; simp at h; done)
    | skip
  refine go_le (le_row ⟨.d0, .d2, .d1⟩ 5 5 rfl rfl) ?_
  dsimp only [writesX, dstsX, appS, havE, setsE, Env.get, Env.set, N8.get, N8.set, updL, lget, lset, env0]
  refine go_loopH (α := Nat × Nat × Nat) (fun p => [(⟨.d0, .d7, .d4⟩, .v (.int .i64 (p.1 : Nat))), (⟨.d0, .d2, .d1⟩, .sl 5 p.2.1 5 0 (butP 17 ad po (yng l now (ms.take p.1))).length false), (⟨.d0, .d2, .d2⟩, .v (.int .i64 (outF 17 ad po (yng l now (ms.take p.1)) (-1))))]) (fun p => [(3, none), (4, none), (5, some ⟨p.2.1, 5, (butP 17 ad po (yng l now (ms.take p.1))).map Mp.enc⟩)]) (fun p => p.2.2) (fun p => ms.length - p.1) (fun p => p.1 ≤ ms.length) (0, gn, gn + 1) (Nat.zero_le _) ?_ ?_
  · skip
    refine le_mk ?_ ?_ (Nat.le_refl _)
    all_goals dsimp only [leE, leC, leR, leN, leD, leH, leO, writesX, dstsX, appS, havE, setsE, Env.get, Env.set, N8.get, N8.set, updL, lget, lset, env0]
    all_goals (repeat' (first | exact trivial | exact rfl | apply And.intro))
  rintro ⟨k, nm, gn⟩ hk
  dsimp only at hk ⊢
  dsimp only [writesX, dstsX, appS, havE, setsE, Env.get, Env.set, N8.get, N8.set, updL, lget, lset, env0]
  by_cases hlt : k < ms.length
  · obtain ⟨m, hm⟩ : ∃ m, ms[k]? = some m := ⟨_, List.getElem?_eq_getElem hlt⟩
    have ex := xget_mp hm
    have htm := hg.tm m (List.mem_of_getElem? hm)
    have hwk : IntKind.i64.wrap ((k : Int) + 1) = ((k + 1 : Nat) : Int) := (IntWalk.i64_in _ (by omega)).trans (by omega)
    have hws : IntKind.i64.wrap (now - m.tm) = now - m.tm := IntWalk.i64_in _ (by omega)
    by_cases hy : now ≤ m.tm + l
    · have hyk := yng_yes hm hy
      by_cases hp : m.pr = 17 ∧ m.ad = ad ∧ m.po = po
      · have e1 := but_yes hp (yng l now (ms.take k))
        have e2 := outF_snoc 17 ad po (yng l now (ms.take k)) m (-1)
        rw [show isP 17 ad po m = true from decide_eq_true hp, if_pos rfl] at e2
        rw [← hyk] at e1 e2
        obtain ⟨p1, p2, p3⟩ := hp
        repeat' (first
          | (with_reducible first | refine go_seq ?_ | refine go_region ?_ | refine go_regionD mixed_ok ?_ | refine go_cond ?_ | refine go_skip ?_ | refine go_block ?_ | refine nx_code ?_ | refine nx_block ?_ | refine go_ret ?_ | refine nx_nil ?_ | refine go_exit ?_ | refine ex_code ?_ | refine ex_loop ?_ | refine ex_here ?_)
          | ((with_reducible refine ex_past ?_ ?_); (exact by decide))
          | ((with_reducible refine endD_intro ?_ ?_); (exact by kernel_rfl))
          | ((with_reducible refine runR_n ?_ ?_); exact auN)
          | (simp only [hwk, hws])
          | (dsimp only [run, undef, zipO, runR_ok, runR_t, runR_f, gd, gd2, skipR, ex1, pickR, boxR, loadR, loadO, storeR, storeO, nilR, fieldAR, fieldR, partOf, binR, intBin, unR, boolR, kindEq, shiftOp, onlyIf, orB, convR, extR, lenR, indexSlR, gidxR, putE, updL, keysOf, lget, lset, evT, evs, Env.get, Env.set, N8.get, N8.set, env0, cellsD, oneD, oneV, andB, allOne, lenB, mapV, dget, ddrop, dtake, splice, xget, xset, partsD, partsOk, partsE, partsEOk, repl, elemsR, elemsS, elemsO, xdrop, xtake, allOnes, appN, appOwn, appNew, appY, cellEq_i, consO, cmpAll, allB, negB, eqsO, eqsR, minR, evO, bndO, keepB, snapCut, slCut, nilCut, sliceR, isS, isnilL, isnilX, isnilR, makeR, clearO, clearR, sliceW1, sliceW2, sliceW3, sliceWR, appWO, appWR, isnilPR, appD, callvR, cond, condK_t, condK_f, argsE, slots0, List.length_cons, List.length_nil, Bool.true_or, Bool.false_or, Bool.or_true, Bool.or_false, bnf, bnt, Nat.add_zero, Nat.zero_add, Nat.reduceAdd, Nat.reduceMul, Int.reduceToNat, endS])
          | (with_reducible refine runR_b (fun h => ?_) (fun h => ?_) <;> first | exact auH | simp only [h, runR_t, runR_f])
          | (with_reducible refine condK_bl ?_ ?_)
          | (with_reducible refine condK_b (fun h => ?_) (fun h => ?_) <;> first | exact auH | skip)
          | (first | (simp only [Int.toNat_natCast, ex]) | fail))
        (all_goals first | exact auP | skip)
        all_goals first
          | (exfalso; simp_all; done)
          | skip
        all_goals (refine nx_loop ⟨(k + 1, nm, gn + 1), hlt, Nat.sub_lt_sub_left hlt (Nat.lt_succ_self k), ?_⟩; dsimp only; rw [e1, e2]; (refine le_mk ?_ ?_ (Nat.le_refl _)); (all_goals dsimp only [leE, leC, leR, leN, leD, leH, leO, writesX, dstsX, appS, havE, setsE, Env.get, Env.set, N8.get, N8.set, updL, lget, lset, env0]); (all_goals (repeat' (first | exact trivial | exact rfl | apply And.intro))))
      · have e1 := but_no hp (yng l now (ms.take k))
        have e2 := outF_snoc 17 ad po (yng l now (ms.take k)) m (-1)
        rw [show isP 17 ad po m = false from decide_eq_false hp, if_neg (by decide)] at e2
        rw [← hyk] at e1 e2
        have hbl : (butP 17 ad po (yng l now (ms.take k))).length ≤ k := Nat.le_trans (List.length_filter_le _ _) (Nat.le_trans (List.length_filter_le _ _) (by rw [List.length_take]; omega))
        have hxs : ((butP 17 ad po (yng l now (ms.take k))).map Mp.enc).length = (butP 17 ad po (yng l now (ms.take k))).length := List.length_map _
        have e3 : (butP 17 ad po (yng l now (ms.take (k + 1)))).map Mp.enc = (butP 17 ad po (yng l now (ms.take k))).map Mp.enc ++ [[.v (.int .i64 m.pr), .v (.int .u32 m.ad), .v (.int .i64 m.po), .v (.int .i64 m.ou), .v (.int .i64 m.tm)]] := by rw [e1, List.map_append]; rfl
        have e4 : (butP 17 ad po (yng l now (ms.take (k + 1)))).length = ((butP 17 ad po (yng l now (ms.take k))).map Mp.enc).length + 1 := by rw [e1, hxs]; simp
        repeat' (first
          | (with_reducible first | refine go_seq ?_ | refine go_region ?_ | refine go_regionD mixed_ok ?_ | refine go_cond ?_ | refine go_skip ?_ | refine go_block ?_ | refine nx_code ?_ | refine nx_block ?_ | refine go_ret ?_ | refine nx_nil ?_ | refine go_exit ?_ | refine ex_code ?_ | refine ex_loop ?_ | refine ex_here ?_)
          | ((with_reducible refine ex_past ?_ ?_); (exact by decide))
          | ((with_reducible refine endD_intro ?_ ?_); (exact by kernel_rfl))
          | ((with_reducible refine runR_n ?_ ?_); exact auN)
          | (simp only [hwk, hws])
          | (dsimp only [run, undef, zipO, runR_ok, runR_t, runR_f, gd, gd2, skipR, ex1, pickR, boxR, loadR, loadO, storeR, storeO, nilR, fieldAR, fieldR, partOf, binR, intBin, unR, boolR, kindEq, shiftOp, onlyIf, orB, convR, extR, lenR, indexSlR, gidxR, putE, updL, keysOf, lget, lset, evT, evs, Env.get, Env.set, N8.get, N8.set, env0, cellsD, oneD, oneV, andB, allOne, lenB, mapV, dget, ddrop, dtake, splice, xget, xset, partsD, partsOk, partsE, partsEOk, repl, elemsR, elemsS, elemsO, xdrop, xtake, allOnes, appN, appOwn, appNew, appY, cellEq_i, consO, cmpAll, allB, negB, eqsO, eqsR, minR, evO, bndO, keepB, snapCut, slCut, nilCut, sliceR, isS, isnilL, isnilX, isnilR, makeR, clearO, clearR, sliceW1, sliceW2, sliceW3, sliceWR, appWO, appWR, isnilPR, appD, callvR, cond, condK_t, condK_f, argsE, slots0, List.length_cons, List.length_nil, Bool.true_or, Bool.false_or, Bool.or_true, Bool.or_false, bnf, bnt, Nat.add_zero, Nat.zero_add, Nat.reduceAdd, Nat.reduceMul, Int.reduceToNat, endS])
          | (with_reducible refine runR_b (fun h => ?_) (fun h => ?_) <;> first | exact auH | simp only [h, runR_t, runR_f])
          | (with_reducible refine condK_bl ?_ ?_)
          | (with_reducible refine condK_b (fun h => ?_) (fun h => ?_) <;> first | exact auH | skip)
          | (first | (simp only [Int.toNat_natCast, ex]) | (refine runR_n ⟨by trivial, by unfold room maxLen; rw [hxs]; simp; omega⟩ ?_) | fail))
        (all_goals first | exact auP | skip)
        all_goals first
          | (exfalso; simp_all; done)
          | skip
        all_goals (refine nx_loop ⟨(k + 1, gn + 2, gn + 3), hlt, Nat.sub_lt_sub_left hlt (Nat.lt_succ_self k), ?_⟩; dsimp only; rw [e2, e3, e4]; (refine le_mk ?_ ?_ (Nat.le_refl _)); (all_goals dsimp only [leE, leC, leR, leN, leD, leH, leO, writesX, dstsX, appS, havE, setsE, Env.get, Env.set, N8.get, N8.set, updL, lget, lset, env0]); (all_goals (repeat' (first | exact trivial | exact rfl | apply And.intro))))
    · have hyk := yng_no hm hy
      repeat' (first
        | (with_reducible first | refine go_seq ?_ | refine go_region ?_ | refine go_regionD mixed_ok ?_ | refine go_cond ?_ | refine go_skip ?_ | refine go_block ?_ | refine nx_code ?_ | refine nx_block ?_ | refine go_ret ?_ | refine nx_nil ?_ | refine go_exit ?_ | refine ex_code ?_ | refine ex_loop ?_ | refine ex_here ?_)
        | ((with_reducible refine ex_past ?_ ?_); (exact by decide))
        | ((with_reducible refine endD_intro ?_ ?_); (exact by kernel_rfl))
        | ((with_reducible refine runR_n ?_ ?_); exact auN)
        | (simp only [hwk, hws])
        | (dsimp only [run, undef, zipO, runR_ok, runR_t, runR_f, gd, gd2, skipR, ex1, pickR, boxR, loadR, loadO, storeR, storeO, nilR, fieldAR, fieldR, partOf, binR, intBin, unR, boolR, kindEq, shiftOp, onlyIf, orB, convR, extR, lenR, indexSlR, gidxR, putE, updL, keysOf, lget, lset, evT, evs, Env.get, Env.set, N8.get, N8.set, env0, cellsD, oneD, oneV, andB, allOne, lenB, mapV, dget, ddrop, dtake, splice, xget, xset, partsD, partsOk, partsE, partsEOk, repl, elemsR, elemsS, elemsO, xdrop, xtake, allOnes, appN, appOwn, appNew, appY, cellEq_i, consO, cmpAll, allB, negB, eqsO, eqsR, minR, evO, bndO, keepB, snapCut, slCut, nilCut, sliceR, isS, isnilL, isnilX, isnilR, makeR, clearO, clearR, sliceW1, sliceW2, sliceW3, sliceWR, appWO, appWR, isnilPR, appD, callvR, cond, condK_t, condK_f, argsE, slots0, List.length_cons, List.length_nil, Bool.true_or, Bool.false_or, Bool.or_true, Bool.or_false, bnf, bnt, Nat.add_zero, Nat.zero_add, Nat.reduceAdd, Nat.reduceMul, Int.reduceToNat, endS])
        | (with_reducible refine runR_b (fun h => ?_) (fun h => ?_) <;> first | exact auH | simp only [h, runR_t, runR_f])
        | (with_reducible refine condK_bl ?_ ?_)
        | (with_reducible refine condK_b (fun h => ?_) (fun h => ?_) <;> first | exact auH | skip)
        | (first | (simp only [Int.toNat_natCast, ex]) | fail))
      (all_goals first | exact auP | skip)
      all_goals first
        | (exfalso; simp_all; done)
        | skip
      refine nx_loop ⟨(k + 1, nm, gn + 1), hlt, Nat.sub_lt_sub_left hlt (Nat.lt_succ_self k), ?_⟩
      dsimp only
      rw [hyk]
      refine le_mk ?_ ?_ (Nat.le_refl _)
      all_goals dsimp only [leE, leC, leR, leN, leD, leH, leO, writesX, dstsX, appS, havE, setsE, Env.get, Env.set, N8.get, N8.set, updL, lget, lset, env0]
      all_goals (repeat' (first | exact trivial | exact rfl | apply And.intro))
  obtain rfl : k = ms.length := by omega
  rw [List.take_length]
  have hZl : (butP 17 ad po (yng l now ms)).length ≤ ms.length := Nat.le_trans (List.length_filter_le _ _) (List.length_filter_le _ _)
  rw [ho]
  generalize butP 17 ad po (yng l now ms) = Z at *
  clear hg
  generalize yng l now ms = Y at *
  have h7 : True := trivial
  have h8 : True := trivial
  have h9 : True := trivial
  have hxs : (Z.map Mp.enc).length = Z.length := List.length_map _
  have hcat : Z.map Mp.enc ++ [[.v (.int .i64 17), .v (.int .u32 ad), .v (.int .i64 po), .v (.int .i64 o), .v (.int .i64 now)]] = (Z ++ [(⟨17, ad, po, o, now⟩ : Mp)]).map Mp.enc := by rw [List.map_append]; rfl
  have h5 := but_spec b1 t1 17 (Z ++ [(⟨17, ad, po, o, now⟩ : Mp)]) false (by unfold maxLen; simp; omega) hbr1 hr1 hnd
  have h6 := but_spec b2 t2 6 (Z ++ [(⟨17, ad, po, o, now⟩ : Mp)]) false (by unfold maxLen; simp; omega) hbr2 hr2 hnd
  have nf1 := fun g => nf_mp g (Z ++ [(⟨17, ad, po, o, now⟩ : Mp)])
  repeat' (first
    | (with_reducible first | refine go_seq ?_ | refine go_region ?_ | refine go_regionD mixed_ok ?_ | refine go_cond ?_ | refine go_skip ?_ | refine go_block ?_ | refine nx_code ?_ | refine nx_block ?_ | refine go_ret ?_ | refine nx_nil ?_ | refine go_exit ?_ | refine ex_code ?_ | refine ex_loop ?_ | refine ex_here ?_)
    | ((with_reducible refine ex_past ?_ ?_); (exact by decide))
    | ((with_reducible refine endD_intro ?_ ?_); (exact by kernel_rfl))
    | ((with_reducible refine runR_n ?_ ?_); exact auN)
    | (first | (refine runR_callF 9 rfl h5 ⟨⟨rfl, rfl, rfl⟩, .inl ⟨rfl, rfl, by simp, by rw [xall (by simp)]; exact congrArg (fun q => DV.snap 5 q false) hcat.symm⟩, rfl, rfl⟩ rfl ?_) | (refine runR_callF 9 rfl h6 ⟨⟨rfl, rfl, rfl⟩, .inl ⟨rfl, rfl, by simp, by rw [xall (by simp)]; exact congrArg (fun q => DV.snap 5 q false) hcat.symm⟩, rfl, rfl⟩ rfl ?_) | (refine runR_callF 5 rfl h7 ⟨⟨rfl, rfl, rfl⟩, .inl ⟨rfl, rfl, by simp, by rw [xall (by simp)]⟩, rfl, rfl⟩ rfl ?_) | (refine runR_callF 5 rfl h8 ⟨⟨rfl, rfl, rfl⟩, .inl ⟨rfl, rfl, by simp, by rw [xall (by simp)]⟩, rfl, rfl⟩ rfl ?_) | (with_reducible refine runR_call h9 ?_))
    | (dsimp only [run, undef, zipO, runR_ok, runR_t, runR_f, gd, gd2, skipR, ex1, pickR, boxR, loadR, loadO, storeR, storeO, nilR, fieldAR, fieldR, partOf, binR, intBin, unR, boolR, kindEq, shiftOp, onlyIf, orB, convR, extR, lenR, indexSlR, gidxR, putE, updL, keysOf, lget, lset, evT, evs, Env.get, Env.set, N8.get, N8.set, env0, cellsD, oneD, oneV, andB, allOne, lenB, mapV, dget, ddrop, dtake, splice, xget, xset, partsD, partsOk, partsE, partsEOk, repl, elemsR, elemsS, elemsO, xdrop, xtake, allOnes, appN, appOwn, appNew, appY, cellEq_i, consO, cmpAll, allB, negB, eqsO, eqsR, minR, evO, bndO, keepB, snapCut, slCut, nilCut, sliceR, isS, isnilL, isnilX, isnilR, makeR, clearO, clearR, sliceW1, sliceW2, sliceW3, sliceWR, appWO, appWR, isnilPR, appD, callvR, cond, condK_t, condK_f, argsE, slots0, List.length_cons, List.length_nil, Bool.true_or, Bool.false_or, Bool.or_true, Bool.or_false, bnf, bnt, Nat.add_zero, Nat.zero_add, Nat.reduceAdd, Nat.reduceMul, Int.reduceToNat, endS])
    | (with_reducible refine runR_b (fun h => ?_) (fun h => ?_) <;> first | exact auH | simp only [h, runR_t, runR_f])
    | (with_reducible refine condK_bl ?_ ?_)
    | (with_reducible refine condK_b (fun h => ?_) (fun h => ?_) <;> first | exact auH | skip)
    | (first | (refine runR_n ⟨by trivial, by unfold room maxLen; rw [hxs]; simp; omega⟩ ?_) | fail))
  (all_goals first | exact auP | skip)
  all_goals first
    | (exfalso; simp at h; done)
    | skip
  rw [hcat]
  refine retq_le (leG_freezeO hW 1 9 (by decide) (ys := [[.v (.int .i64 l), .v (.int .i64 b1), .v (.int .u64 (bs b1 17 (Z ++ [(⟨17, ad, po, o, now⟩ : Mp)]) : Nat)), .v (.int .i64 b2), .v (.int .u64 (bs b2 6 (Z ++ [(⟨17, ad, po, o, now⟩ : Mp)]) : Nat)), .snap 5 ((Z ++ [(⟨17, ad, po, o, now⟩ : Mp)]).map Mp.enc) false]]) rfl rfl ⟨⟨rfl, rfl, rfl, rfl, rfl, Or.inl ⟨rfl, rfl, by simp, by rw [xall (by simp)]⟩, rfl⟩, rfl⟩) ?_
  all_goals with_reducible refine ret_spec2 (by (try dsimp only [RetOK, resOk, resDs, resD, resV, cellV, cellO, cellP, cellOk, htake, nfD, nfL, nfLL, nfH, lget, partOf, xget, ddrop, dtake, dget, Env.get, N8.get, env0, List.length_cons, List.length_nil, Env.set, N8.set, lset, updL]); (repeat' (first | exact trivial | exact rfl | exact nfLL_map (fun x => by simp [nfL, nfD, nfD, nfL, nf1]) | decide | apply And.intro))) ?_
  all_goals (try dsimp only [RetOK, resOk, resDs, resD, resV, cellV, cellO, cellP, cellOk, htake, nfD, nfL, nfLL, nfH, lget, partOf, xget, ddrop, dtake, dget, Env.get, N8.get, env0, List.length_cons, List.length_nil, Env.set, N8.set, lset, updL])
  all_goals (try simp only [hsM] at *)
  all_goals rfl
end
end Go.Proofs.YtegnfpmbmbbaiaaDoor
