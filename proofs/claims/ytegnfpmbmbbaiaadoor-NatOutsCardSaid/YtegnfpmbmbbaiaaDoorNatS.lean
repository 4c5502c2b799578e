/-
  One address for many, from within: what is old goes.
-/
import Derived.Test.YtegnfpmbmbbaiaaDoorNatQ
namespace Go.Proofs.YtegnfpmbmbbaiaaDoor
set_option linter.unusedVariables false
set_option linter.unusedSimpArgs false
theorem ret_h2 {Γ : Gm} {xr : List XR} {D : DV} {st : St} {o1 o2 : AObj} (h1 : resOk st xr) (h2 : nfD Γ.g0 (resV (resDs st xr))) (h3 : resV (resDs st xr) = D) (h0 : htake 2 st.H = [some o1, some o2]) (n1 : o1.n < Γ.g0) (x1 : nfLL Γ.g0 o1.xs) (n2 : o2.n < Γ.g0) (x2 : nfLL Γ.g0 o2.xs) : RetQ Γ xr 2 (fun d H => d = D ∧ H = [some o1, some o2]) st :=
  retq_now ⟨h1, h2, by rw [h0]; exact ⟨⟨n1, x1⟩, ⟨n2, x2⟩, trivial⟩, h3, h0⟩
abbrev rNs (l b1 : Int) (t1 : Nat) (b2 : Int) (t2 : Nat) (m len : Nat) : List DV := [.v (.int .i64 l), .v (.int .i64 b1), .v (.int .u64 (t1 : Int)), .v (.int .i64 b2), .v (.int .u64 (t2 : Int)), .sl 1 m 5 0 len false]
theorem nf_mp (g : Nat) (l : List Mp) : nfLL g (l.map Mp.enc) := nfLL_map (fun x => by simp [Mp.enc, nfL, nfD])
theorem place2_spec (n m : Nat) (l b1 : Int) (t1 : Nat) (b2 : Int) (t2 len : Nat) (ms : List Mp) (pr : Int) (hp : pr = 17 ∨ pr = 6) : HSpec Tryd.prog 19 [.ptr 0 n 6 0 0, .v (.int .i64 pr)] [some ⟨n, 6, [rNs l b1 t1 b2 t2 m len]⟩, some ⟨m, 5, ms.map Mp.enc⟩] (fun d H => d = placeD pr n 0 ∧ H = [some ⟨n, 6, [rNs l b1 t1 b2 t2 m len]⟩, some ⟨m, 5, ms.map Mp.enc⟩]) := by
  by_cases h17 : pr = 17
  · have e : placeD pr n 0 = .ptr 0 n 6 0 1 := by unfold placeD; rw [if_pos h17]
    rw [e]
    refine hspec_fn Tryd.func19 rfl ok_nat_place okr_nat_place rfl (by kernel_rfl) ?_
    intro Γ hW0 hN0 hL0
    clear hW0
    unfold x_nat_place r_nat_place
    have hn := hN0 0 _ rfl
    have hm := hN0 1 _ rfl
    repeat' (first
      | (with_reducible first | refine go_seq ?_ | refine go_region ?_ | refine go_regionD mixed_ok ?_ | refine go_cond ?_ | refine go_skip ?_ | refine go_block ?_ | refine nx_code ?_ | refine nx_block ?_ | refine go_ret ?_ | refine nx_nil ?_ | refine go_exit ?_ | refine ex_code ?_ | refine ex_loop ?_ | refine ex_here ?_)
      | ((with_reducible refine ex_past ?_ ?_); (exact by decide))
      | ((with_reducible refine endD_intro ?_ ?_); (exact by kernel_rfl))
      | ((with_reducible refine runR_n ?_ ?_); exact auN)
      | fail
      | (dsimp only [run, undef, zipO, runR_ok, runR_t, runR_f, gd, gd2, skipR, ex1, pickR, boxR, loadR, loadO, storeR, storeO, nilR, fieldAR, fieldR, partOf, binR, intBin, unR, boolR, kindEq, shiftOp, onlyIf, orB, convR, extR, lenR, indexSlR, gidxR, putE, updL, keysOf, lget, lset, evT, evs, Env.get, Env.set, N8.get, N8.set, env0, cellsD, oneD, oneV, andB, allOne, lenB, mapV, dget, ddrop, dtake, splice, xget, xset, partsD, partsOk, partsE, partsEOk, repl, elemsR, elemsS, elemsO, xdrop, xtake, allOnes, appN, appOwn, appNew, appY, cellEq_i, consO, cmpAll, allB, negB, eqsO, eqsR, minR, evO, bndO, keepB, snapCut, slCut, nilCut, sliceR, isS, isnilL, isnilX, isnilR, makeR, clearO, clearR, sliceW1, sliceW2, sliceW3, sliceWR, appWO, appWR, isnilPR, appD, callvR, cond, condK_t, condK_f, argsE, slots0, List.length_cons, List.length_nil, Bool.true_or, Bool.false_or, Bool.or_true, Bool.or_false, bnf, bnt, Nat.add_zero, Nat.zero_add, Nat.reduceAdd, Nat.reduceMul, Int.reduceToNat, endS])
      | (with_reducible refine runR_b (fun h => ?_) (fun h => ?_) <;> first | exact auH | simp only [h, runR_t, runR_f])
      | (with_reducible refine condK_bl ?_ ?_)
      | (with_reducible refine condK_b (fun h => ?_) (fun h => ?_) <;> first | exact auH | skip)
      | fail)
    (all_goals first | exact auP | skip)
    refine ret_h2 trivial ?_ rfl rfl hn ?_ hm (nf_mp _ _)
    · first
        | exact trivial
        | exact hn
        | (simp [resDs, resV, nfD, nfL]; done)
        | (show _ < _; exact hn)
        | (show nfD _ _; simp [nfD, hn])
    · exact ⟨⟨trivial, trivial, trivial, trivial, trivial, hm, trivial⟩, trivial⟩
  · have h6 : pr = 6 := by omega
    have e : placeD pr n 0 = .ptr 0 n 6 0 3 := by unfold placeD; rw [if_neg h17, if_pos h6]
    rw [e]
    refine hspec_fn Tryd.func19 rfl ok_nat_place okr_nat_place rfl (by kernel_rfl) ?_
    intro Γ hW0 hN0 hL0
    clear hW0
    unfold x_nat_place r_nat_place
    have hn := hN0 0 _ rfl
    have hm := hN0 1 _ rfl
    repeat' (first
      | (with_reducible first | refine go_seq ?_ | refine go_region ?_ | refine go_regionD mixed_ok ?_ | refine go_cond ?_ | refine go_skip ?_ | refine go_block ?_ | refine nx_code ?_ | refine nx_block ?_ | refine go_ret ?_ | refine nx_nil ?_ | refine go_exit ?_ | refine ex_code ?_ | refine ex_loop ?_ | refine ex_here ?_)
      | ((with_reducible refine ex_past ?_ ?_); (exact by decide))
      | ((with_reducible refine endD_intro ?_ ?_); (exact by kernel_rfl))
      | ((with_reducible refine runR_n ?_ ?_); exact auN)
      | fail
      | (dsimp only [run, undef, zipO, runR_ok, runR_t, runR_f, gd, gd2, skipR, ex1, pickR, boxR, loadR, loadO, storeR, storeO, nilR, fieldAR, fieldR, partOf, binR, intBin, unR, boolR, kindEq, shiftOp, onlyIf, orB, convR, extR, lenR, indexSlR, gidxR, putE, updL, keysOf, lget, lset, evT, evs, Env.get, Env.set, N8.get, N8.set, env0, cellsD, oneD, oneV, andB, allOne, lenB, mapV, dget, ddrop, dtake, splice, xget, xset, partsD, partsOk, partsE, partsEOk, repl, elemsR, elemsS, elemsO, xdrop, xtake, allOnes, appN, appOwn, appNew, appY, cellEq_i, consO, cmpAll, allB, negB, eqsO, eqsR, minR, evO, bndO, keepB, snapCut, slCut, nilCut, sliceR, isS, isnilL, isnilX, isnilR, makeR, clearO, clearR, sliceW1, sliceW2, sliceW3, sliceWR, appWO, appWR, isnilPR, appD, callvR, cond, condK_t, condK_f, argsE, slots0, List.length_cons, List.length_nil, Bool.true_or, Bool.false_or, Bool.or_true, Bool.or_false, bnf, bnt, Nat.add_zero, Nat.zero_add, Nat.reduceAdd, Nat.reduceMul, Int.reduceToNat, endS])
      | (with_reducible refine runR_b (fun h => ?_) (fun h => ?_) <;> first | exact auH | simp only [h, runR_t, runR_f])
      | (with_reducible refine condK_bl ?_ ?_)
      | (with_reducible refine condK_b (fun h => ?_) (fun h => ?_) <;> first | exact auH | skip)
      | fail)
    (all_goals first | exact auP | skip)
    refine ret_h2 trivial ?_ rfl rfl hn ?_ hm (nf_mp _ _)
    · first
        | exact trivial
        | exact hn
        | (simp [resDs, resV, nfD, nfL]; done)
        | (show _ < _; exact hn)
        | (show nfD _ _; simp [nfD, hn])
    · exact ⟨⟨trivial, trivial, trivial, trivial, trivial, hm, trivial⟩, trivial⟩
set_option maxHeartbeats 1000000 in
theorem mpdelete0 (l : List Mp) (i j : Nat) (hij : i ≤ j) (hj : j ≤ l.length) (hl : l.length ≤ maxLen) (n : Nat) : HSpec Tryd.prog 18 [.sl 0 n 5 0 l.length false, .v (.int .i64 i), .v (.int .i64 j)] [some ⟨n, 5, l.map Mp.enc⟩] (fun d H => d = .sl 0 n 5 0 (l.take i ++ l.drop j).length false ∧ H = [some ⟨n, 5, (l.take i ++ l.drop j).map Mp.enc⟩]) := by
  have hones : ∀ r : List Mp, allOnes (r.map Mp.enc) = true := allOnes_map (fun x => rfl)
  have ej : xtake (xdrop (l.map Mp.enc) j) ((l.length : Int) - j).toNat = (l.drop j).map Mp.enc := by rw [xtake_eq, xdrop_eq, ← List.map_drop, ← List.map_take, List.take_of_length_le (by rw [List.length_drop]; omega)]
  have hlen : (xtake (l.map Mp.enc) i ++ ((l.drop j).map Mp.enc ++ xdrop (l.map Mp.enc) (i + (l.length - j)))).length = l.length := by rw [xtake_eq, xdrop_eq]; simp; omega
  unfold maxLen at hl
  refine hspec_fn Tryd.func18 rfl ok_slices_Delete_api_Map okr_slices_Delete_api_Map rfl (by kernel_rfl) ?_
  intro Γ hW0 hN0 hL0
  clear hW0
  unfold x_slices_Delete_api_Map r_slices_Delete_api_Map
  have hn : n < Γ.g0 := hN0 0 _ rfl
  repeat' (first
    | (with_reducible first | refine go_seq ?_ | refine go_region ?_ | refine go_regionD mixed_ok ?_ | refine go_cond ?_ | refine go_skip ?_ | refine go_block ?_ | refine nx_code ?_ | refine nx_block ?_ | refine go_ret ?_ | refine nx_nil ?_ | refine go_exit ?_ | refine ex_code ?_ | refine ex_loop ?_ | refine ex_here ?_)
    | ((with_reducible refine ex_past ?_ ?_); (exact by decide))
    | ((with_reducible refine endD_intro ?_ ?_); (exact by kernel_rfl))
    | ((with_reducible refine runR_n ?_ ?_); exact auN)
    | fail
    | (dsimp only [run, undef, zipO, runR_ok, runR_t, runR_f, gd, gd2, skipR, ex1, pickR, boxR, loadR, loadO, storeR, storeO, nilR, fieldAR, fieldR, partOf, binR, intBin, unR, boolR, kindEq, shiftOp, onlyIf, orB, convR, extR, lenR, indexSlR, gidxR, putE, updL, keysOf, lget, lset, evT, evs, Env.get, Env.set, N8.get, N8.set, env0, cellsD, oneD, oneV, andB, allOne, lenB, mapV, dget, ddrop, dtake, splice, xget, xset, partsD, partsOk, partsE, partsEOk, repl, elemsR, elemsS, elemsO, xdrop, xtake, allOnes, appN, appOwn, appNew, appY, cellEq_i, consO, cmpAll, allB, negB, eqsO, eqsR, minR, evO, bndO, keepB, snapCut, slCut, nilCut, sliceR, isS, isnilL, isnilX, isnilR, makeR, clearO, clearR, sliceW1, sliceW2, sliceW3, sliceWR, appWO, appWR, isnilPR, appD, callvR, cond, condK_t, condK_f, argsE, slots0, List.length_cons, List.length_nil, Bool.true_or, Bool.false_or, Bool.or_true, Bool.or_false, bnf, bnt, Nat.add_zero, Nat.zero_add, Nat.reduceAdd, Nat.reduceMul, Int.reduceToNat, endS])
    | (with_reducible refine runR_b (fun h => ?_) (fun h => ?_) <;> first | exact auH | simp only [h, runR_t, runR_f])
    | (with_reducible refine condK_bl ?_ ?_)
    | (with_reducible refine condK_b (fun h => ?_) (fun h => ?_) <;> first | exact auH | skip)
    | (first | (simp only [Int.toNat_natCast, Nat.zero_add, ej, List.length_map, List.length_drop]) | (refine runR_n ⟨by trivial, by trivial, by trivial, by omega, hones _⟩ ?_) | (refine runR_n ⟨by trivial, by trivial, by trivial, by omega, by omega, by omega, by (rw [hlen]; omega)⟩ ?_) | (refine runR_n ⟨by trivial, by trivial, by trivial, by (rw [hlen]; omega), by trivial⟩ ?_) | fail))
  · have hij2 : i = j := by (simp only [hsL, reduceCtorEq] at * <;> omega)
    subst hij2
    rw [List.take_append_drop]
    exact ret_h1 trivial hn rfl rfl hn (nfLL_map (fun x => by simp [nfL, nfD])) rfl
  · refine retq_le (le_leG (le_slr ⟨.d0, .d0, .d6⟩ rfl)) (retq_le (le_leG (le_trim 0 (i + (l.length - j)) rfl)) (ret_h1 trivial hn ?_ rfl hn (nfLL_map (fun x => by simp [nfL, nfD])) ?_))
    · have e : (l.take i ++ l.drop j).length = i + (l.length - j) := by simp; omega
      rw [e]
      rfl
    · refine (del_eq (by rw [xtake_eq]; simp; omega)).trans ?_
      rw [xtake_eq, List.map_append, List.map_take]
theorem mpdelete_spec (k : Nat) (l : List Mp) (i j : Nat) (hij : i ≤ j) (hj : j ≤ l.length) (hl : l.length ≤ maxLen) (n : Nat) : HSpec Tryd.prog 18 [.sl k n 5 0 l.length false, .v (.int .i64 i), .v (.int .i64 j)] [some ⟨n, 5, l.map Mp.enc⟩] (fun d H => d = .sl k n 5 0 (l.take i ++ l.drop j).length false ∧ H = [some ⟨n, 5, (l.take i ++ l.drop j).map Mp.enc⟩]) :=
  hspec_sl k (hspec_as (mpdelete0 l i j hij hj hl n) (fun _ _ _ => sl_label))
set_option maxRecDepth 8000 in
set_option maxHeartbeats 4000000 in
theorem expire_spec (l b1 b2 now : Int) (ms : List Mp) (n m : Nat) (hg : GoodN b1 b2 ms) (hb : pOk b1 = true ∧ pOk b2 = true) (hl : ms.length ≤ maxLen) (hlf : 1 ≤ l ∧ l ≤ 1000000) (hnow : 0 ≤ now ∧ now ≤ 1099511627776) :
    HSpec Tryd.prog 16 [.ptr 0 n 6 0 0, .v (.int .i64 now)] [some ⟨n, 6, [rNs l b1 (bs b1 17 ms) b2 (bs b2 6 ms) m ms.length]⟩, some ⟨m, 5, ms.map Mp.enc⟩]
      (fun d H => d = .tup [] ∧ H = [some ⟨n, 6, [rNs l b1 (bs b1 17 (yng l now ms)) b2 (bs b2 6 (yng l now ms)) m (yng l now ms).length]⟩, some ⟨m, 5, (yng l now ms).map Mp.enc⟩]) := by
  have hlen : (ms.map Mp.enc).length = ms.length := List.length_map _
  have hl' := hl
  unfold maxLen at hl'
  have hfin : ∀ k, k ≤ ms.length → HSpec Tryd.prog 18 [.sl 1 m 5 0 ms.length false, .v (.int .i64 0), .v (.int .i64 (k : Nat))] [some ⟨m, 5, ms.map Mp.enc⟩] (fun d H => d = .sl 1 m 5 0 (ms.drop k).length false ∧ H = [some ⟨m, 5, (ms.drop k).map Mp.enc⟩]) := fun k hk => mpdelete_spec 1 ms 0 k (Nat.zero_le _) hk hl m
  refine hspec_fn Tryd.func16 rfl ok_nat_expire okr_nat_expire rfl (by kernel_rfl) ?_
  intro Γ hW0 hN0 hL0
  clear hW0
  unfold x_nat_expire r_nat_expire
  have hn := hN0 0 _ rfl
  have hm := hN0 1 _ rfl
  repeat' (first
    | (with_reducible first | refine go_seq ?_ | refine go_region ?_ | refine go_regionD mixed_ok ?_ | refine go_cond ?_ | refine go_skip ?_ | refine go_block ?_ | refine nx_code ?_ | refine nx_block ?_ | refine go_ret ?_ | refine nx_nil ?_ | refine go_exit ?_ | refine ex_code ?_ | refine ex_loop ?_ | refine ex_here ?_)
    | ((with_reducible refine ex_past ?_ ?_); (exact by decide))
    | ((with_reducible refine endD_intro ?_ ?_); (exact by kernel_rfl))
    | ((with_reducible refine runR_n ?_ ?_); exact auN)
    | fail
    | (dsimp only [run, undef, zipO, runR_ok, runR_t, runR_f, gd, gd2, skipR, ex1, pickR, boxR, loadR, loadO, storeR, storeO, nilR, fieldAR, fieldR, partOf, binR, intBin, unR, boolR, kindEq, shiftOp, onlyIf, orB, convR, extR, lenR, indexSlR, gidxR, putE, updL, keysOf, lget, lset, evT, evs, Env.get, Env.set, N8.get, N8.set, env0, cellsD, oneD, oneV, andB, allOne, lenB, mapV, dget, ddrop, dtake, splice, xget, xset, partsD, partsOk, partsE, partsEOk, repl, elemsR, elemsS, elemsO, xdrop, xtake, allOnes, appN, appOwn, appNew, appY, cellEq_i, consO, cmpAll, allB, negB, eqsO, eqsR, minR, evO, bndO, keepB, snapCut, slCut, nilCut, sliceR, isS, isnilL, isnilX, isnilR, makeR, clearO, clearR, sliceW1, sliceW2, sliceW3, sliceWR, appWO, appWR, isnilPR, appD, callvR, cond, condK_t, condK_f, argsE, slots0, List.length_cons, List.length_nil, Bool.true_or, Bool.false_or, Bool.or_true, Bool.or_false, bnf, bnt, Nat.add_zero, Nat.zero_add, Nat.reduceAdd, Nat.reduceMul, Int.reduceToNat, endS])
    | (with_reducible refine runR_b (fun h => ?_) (fun h => ?_) <;> first | exact auH | simp only [h, runR_t, runR_f])
    | (with_reducible refine condK_bl ?_ ?_)
    | (with_reducible refine condK_b (fun h => ?_) (fun h => ?_) <;> first | exact auH | skip)
    | fail)
  refine go_loopH (α := Nat × Nat) (fun p => [(⟨.d0, .d0, .d4⟩, .v (.int .i64 (p.1 : Nat)))]) (fun p => [(0, some ⟨n, 6, [rNs l b1 (bs b1 17 (ms.drop p.1)) b2 (bs b2 6 (ms.drop p.1)) m ms.length]⟩)]) (fun p => p.2) (fun p => ms.length - p.1) (fun p => p.1 ≤ ms.length ∧ ∀ y ∈ ms.take p.1, young l now y = false) (0, Γ.g0) ⟨Nat.zero_le _, fun y hy => by simp at hy⟩ ?_ ?_
  · skip
    refine le_mk ?_ ?_ (Nat.le_refl _)
    all_goals dsimp only [leE, leC, leR, leN, leD, leH, leO, writesX, dstsX, appS, havE, setsE, Env.get, Env.set, N8.get, N8.set, updL, lget, lset, env0]
    all_goals (repeat' (first | exact trivial | exact rfl | apply And.intro))
  rintro ⟨k, gn⟩ ⟨hk, hold0⟩
  dsimp only at hk hold0 ⊢
  dsimp only [writesX, dstsX, appS, havE, setsE, Env.get, Env.set, N8.get, N8.set, updL, lget, lset, env0]
  have hend0 : ∀ (hk : ∀ t, ms[k]? = some t → young l now t = true), HSpec Tryd.prog 18 [.sl 1 m 5 0 ms.length false, .v (.int .i64 0), .v (.int .i64 (k : Nat))] [some ⟨m, 5, ms.map Mp.enc⟩] (fun d H => d = .sl 1 m 5 0 (yng l now ms).length false ∧ H = [some ⟨m, 5, (yng l now ms).map Mp.enc⟩]) := fun h => by
    rw [yng_drop hg k hold0 h]
    exact hfin k hk
  by_cases hlt : k < ms.length
  · obtain ⟨t, ht⟩ : ∃ t, ms[k]? = some t := ⟨_, List.getElem?_eq_getElem hlt⟩
    have ex := xget_mp ht
    have htm := hg.tm t (List.mem_of_getElem? ht)
    have hw1 : IntKind.i64.wrap (now - t.tm) = now - t.tm := IntWalk.i64_in _ (by omega)
    have hwk : IntKind.i64.wrap ((k : Int) + 1) = ((k + 1 : Nat) : Int) := (IntWalk.i64_in _ (by omega)).trans (by omega)
    have hdc : ms.drop k = t :: ms.drop (k + 1) := by rw [List.drop_eq_getElem_cons hlt, show ms[k] = t from Option.some.inj ((List.getElem?_eq_getElem hlt).symm.trans ht)]
    have hgd := hg.sub (List.drop_sublist k ms)
    cases hy : young l now t with
    | true =>
      have hdel := hend0 (fun t' ht' => by obtain rfl := Option.some.inj (ht'.symm.trans ht); exact hy)
      have hye := yng_drop hg k hold0 (fun t' ht' => by obtain rfl := Option.some.inj (ht'.symm.trans ht); exact hy)
      rw [← hye]
      unfold young at hy
      have hy' := of_decide_eq_true hy
      have hpl : True := trivial
      have hend : True := trivial
      generalize bs b1 17 (yng l now ms) = T1 at *
      generalize bs b2 6 (yng l now ms) = T2 at *
      repeat' (first
        | (with_reducible first | refine go_seq ?_ | refine go_region ?_ | refine go_regionD mixed_ok ?_ | refine go_cond ?_ | refine go_skip ?_ | refine go_block ?_ | refine nx_code ?_ | refine nx_block ?_ | refine go_ret ?_ | refine nx_nil ?_ | refine go_exit ?_ | refine ex_code ?_ | refine ex_loop ?_ | refine ex_here ?_)
        | ((with_reducible refine ex_past ?_ ?_); (exact by decide))
        | ((with_reducible refine endD_intro ?_ ?_); (exact by kernel_rfl))
        | ((with_reducible refine runR_n ?_ ?_); exact auN)
        | (first | (refine runR_callH 1 rfl hdel (fun _ _ _ h => h) ?_) | (simp only [hw1, hwk, hlen]))
        | (dsimp only [run, undef, zipO, runR_ok, runR_t, runR_f, gd, gd2, skipR, ex1, pickR, boxR, loadR, loadO, storeR, storeO, nilR, fieldAR, fieldR, partOf, binR, intBin, unR, boolR, kindEq, shiftOp, onlyIf, orB, convR, extR, lenR, indexSlR, gidxR, putE, updL, keysOf, lget, lset, evT, evs, Env.get, Env.set, N8.get, N8.set, env0, cellsD, oneD, oneV, andB, allOne, lenB, mapV, dget, ddrop, dtake, splice, xget, xset, partsD, partsOk, partsE, partsEOk, repl, elemsR, elemsS, elemsO, xdrop, xtake, allOnes, appN, appOwn, appNew, appY, cellEq_i, consO, cmpAll, allB, negB, eqsO, eqsR, minR, evO, bndO, keepB, snapCut, slCut, nilCut, sliceR, isS, isnilL, isnilX, isnilR, makeR, clearO, clearR, sliceW1, sliceW2, sliceW3, sliceWR, appWO, appWR, isnilPR, appD, callvR, cond, condK_t, condK_f, argsE, slots0, List.length_cons, List.length_nil, Bool.true_or, Bool.false_or, Bool.or_true, Bool.or_false, bnf, bnt, Nat.add_zero, Nat.zero_add, Nat.reduceAdd, Nat.reduceMul, Int.reduceToNat, endS])
        | (with_reducible refine runR_b (fun h => ?_) (fun h => ?_) <;> first | exact auH | simp only [h, runR_t, runR_f])
        | (with_reducible refine condK_bl ?_ ?_)
        | (with_reducible refine condK_b (fun h => ?_) (fun h => ?_) <;> first | exact auH | skip)
        | (first | (simp only [Int.toNat_natCast, Nat.zero_add, ex]) | (refine runR_n ⟨by (try rw [hlen]); omega, by trivial⟩ ?_) | fail))
      (all_goals first | exact auP | skip)
      all_goals first
        | (exfalso; simp at h; done)
        | skip
      refine ret_h2 trivial trivial rfl rfl hn ?_ hm (nf_mp _ _)
      exact ⟨⟨trivial, trivial, trivial, trivial, trivial, hm, trivial⟩, trivial⟩
    | false =>
      have hold : ∀ y ∈ ms.take (k + 1), young l now y = false := fun y hy' => by
        rw [List.take_add_one, ht] at hy'
        rcases List.mem_append.1 hy' with h | h
        · exact hold0 y h
        · obtain rfl := List.mem_singleton.1 h
          exact hy
      unfold young at hy
      rw [decide_eq_false_iff_not] at hy
      have hend1 : True := trivial
      rw [hdc]
      have hgc := hg.sub (List.drop_sublist k ms)
      rw [hdc] at hgc
      rcases hg.pr t (List.mem_of_getElem? ht) with hp | hp
      · have hpl := place2_spec n m l b1 (bs b1 17 (t :: ms.drop (k + 1))) b2 (bs b2 6 (t :: ms.drop (k + 1))) ms.length ms t.pr (.inl hp)
        rw [hp] at hpl ex
        rw [show placeD 17 n 0 = .ptr 0 n 6 0 1 from rfl] at hpl
        obtain ⟨q1, q2⟩ := clr_head hgc.r1 hgc.nd hp
        have hend := pend_spec b1 (bs b1 17 (t :: ms.drop (k + 1))) t.ou (bs_bit b1 17 _ hgc.r1 hgc.nd).1
        rw [(endE_ok hb.1).2 q1, (endB_ok hb.1 q1).1, (endB_ok hb.1 q1).2, q2] at hend
        have hsk : bs b2 6 (t :: ms.drop (k + 1)) = bs b2 6 (ms.drop (k + 1)) := bs_skip (by omega)
        rw [hsk] at hpl ⊢
        repeat' (first
          | (with_reducible first | refine go_seq ?_ | refine go_region ?_ | refine go_regionD mixed_ok ?_ | refine go_cond ?_ | refine go_skip ?_ | refine go_block ?_ | refine nx_code ?_ | refine nx_block ?_ | refine go_ret ?_ | refine nx_nil ?_ | refine go_exit ?_ | refine ex_code ?_ | refine ex_loop ?_ | refine ex_here ?_)
          | ((with_reducible refine ex_past ?_ ?_); (exact by decide))
          | ((with_reducible refine endD_intro ?_ ?_); (exact by kernel_rfl))
          | ((with_reducible refine runR_n ?_ ?_); exact auN)
          | (first | (refine runR_callHH 0 1 (by decide) rfl rfl hpl (fun _ _ _ h => h) ?_) | (with_reducible refine runR_call hend ?_) | (simp only [hw1, hwk, hlen]))
          | (dsimp only [run, undef, zipO, runR_ok, runR_t, runR_f, gd, gd2, skipR, ex1, pickR, boxR, loadR, loadO, storeR, storeO, nilR, fieldAR, fieldR, partOf, binR, intBin, unR, boolR, kindEq, shiftOp, onlyIf, orB, convR, extR, lenR, indexSlR, gidxR, putE, updL, keysOf, lget, lset, evT, evs, Env.get, Env.set, N8.get, N8.set, env0, cellsD, oneD, oneV, andB, allOne, lenB, mapV, dget, ddrop, dtake, splice, xget, xset, partsD, partsOk, partsE, partsEOk, repl, elemsR, elemsS, elemsO, xdrop, xtake, allOnes, appN, appOwn, appNew, appY, cellEq_i, consO, cmpAll, allB, negB, eqsO, eqsR, minR, evO, bndO, keepB, snapCut, slCut, nilCut, sliceR, isS, isnilL, isnilX, isnilR, makeR, clearO, clearR, sliceW1, sliceW2, sliceW3, sliceWR, appWO, appWR, isnilPR, appD, callvR, cond, condK_t, condK_f, argsE, slots0, List.length_cons, List.length_nil, Bool.true_or, Bool.false_or, Bool.or_true, Bool.or_false, bnf, bnt, Nat.add_zero, Nat.zero_add, Nat.reduceAdd, Nat.reduceMul, Int.reduceToNat, endS])
          | (with_reducible refine runR_b (fun h => ?_) (fun h => ?_) <;> first | exact auH | simp only [h, runR_t, runR_f])
          | (with_reducible refine condK_bl ?_ ?_)
          | (with_reducible refine condK_b (fun h => ?_) (fun h => ?_) <;> first | exact auH | skip)
          | (first | (simp only [Int.toNat_natCast, Nat.zero_add, ex]) | (refine runR_n ⟨by (try rw [hlen]); omega, by trivial⟩ ?_) | fail))
        (all_goals first | exact auP | skip)
        all_goals first
          | (exfalso; simp at h; done)
          | skip
        refine nx_loop ⟨(k + 1, gn), ⟨hlt, hold⟩, Nat.sub_lt_sub_left hlt (Nat.lt_succ_self k), ?_⟩
        refine le_mk ?_ ?_ (Nat.le_refl _)
        all_goals dsimp only [leE, leC, leR, leN, leD, leH, leO, writesX, dstsX, appS, havE, setsE, Env.get, Env.set, N8.get, N8.set, updL, lget, lset, env0]
        all_goals (repeat' (first | exact trivial | exact rfl | apply And.intro))
      · have hpl := place2_spec n m l b1 (bs b1 17 (t :: ms.drop (k + 1))) b2 (bs b2 6 (t :: ms.drop (k + 1))) ms.length ms t.pr (.inr hp)
        rw [hp] at hpl ex
        rw [show placeD 6 n 0 = .ptr 0 n 6 0 3 from rfl] at hpl
        obtain ⟨q1, q2⟩ := clr_head hgc.r2 hgc.nd hp
        have hend := pend_spec b2 (bs b2 6 (t :: ms.drop (k + 1))) t.ou (bs_bit b2 6 _ hgc.r2 hgc.nd).1
        rw [(endE_ok hb.2).2 q1, (endB_ok hb.2 q1).1, (endB_ok hb.2 q1).2, q2] at hend
        have hsk : bs b1 17 (t :: ms.drop (k + 1)) = bs b1 17 (ms.drop (k + 1)) := bs_skip (by omega)
        rw [hsk] at hpl ⊢
        repeat' (first
          | (with_reducible first | refine go_seq ?_ | refine go_region ?_ | refine go_regionD mixed_ok ?_ | refine go_cond ?_ | refine go_skip ?_ | refine go_block ?_ | refine nx_code ?_ | refine nx_block ?_ | refine go_ret ?_ | refine nx_nil ?_ | refine go_exit ?_ | refine ex_code ?_ | refine ex_loop ?_ | refine ex_here ?_)
          | ((with_reducible refine ex_past ?_ ?_); (exact by decide))
          | ((with_reducible refine endD_intro ?_ ?_); (exact by kernel_rfl))
          | ((with_reducible refine runR_n ?_ ?_); exact auN)
          | (first | (refine runR_callHH 0 1 (by decide) rfl rfl hpl (fun _ _ _ h => h) ?_) | (with_reducible refine runR_call hend ?_) | (simp only [hw1, hwk, hlen]))
          | (dsimp only [run, undef, zipO, runR_ok, runR_t, runR_f, gd, gd2, skipR, ex1, pickR, boxR, loadR, loadO, storeR, storeO, nilR, fieldAR, fieldR, partOf, binR, intBin, unR, boolR, kindEq, shiftOp, onlyIf, orB, convR, extR, lenR, indexSlR, gidxR, putE, updL, keysOf, lget, lset, evT, evs, Env.get, Env.set, N8.get, N8.set, env0, cellsD, oneD, oneV, andB, allOne, lenB, mapV, dget, ddrop, dtake, splice, xget, xset, partsD, partsOk, partsE, partsEOk, repl, elemsR, elemsS, elemsO, xdrop, xtake, allOnes, appN, appOwn, appNew, appY, cellEq_i, consO, cmpAll, allB, negB, eqsO, eqsR, minR, evO, bndO, keepB, snapCut, slCut, nilCut, sliceR, isS, isnilL, isnilX, isnilR, makeR, clearO, clearR, sliceW1, sliceW2, sliceW3, sliceWR, appWO, appWR, isnilPR, appD, callvR, cond, condK_t, condK_f, argsE, slots0, List.length_cons, List.length_nil, Bool.true_or, Bool.false_or, Bool.or_true, Bool.or_false, bnf, bnt, Nat.add_zero, Nat.zero_add, Nat.reduceAdd, Nat.reduceMul, Int.reduceToNat, endS])
          | (with_reducible refine runR_b (fun h => ?_) (fun h => ?_) <;> first | exact auH | simp only [h, runR_t, runR_f])
          | (with_reducible refine condK_bl ?_ ?_)
          | (with_reducible refine condK_b (fun h => ?_) (fun h => ?_) <;> first | exact auH | skip)
          | (first | (simp only [Int.toNat_natCast, Nat.zero_add, ex]) | (refine runR_n ⟨by (try rw [hlen]); omega, by trivial⟩ ?_) | fail))
        (all_goals first | exact auP | skip)
        all_goals first
          | (exfalso; simp at h; done)
          | skip
        refine nx_loop ⟨(k + 1, gn), ⟨hlt, hold⟩, Nat.sub_lt_sub_left hlt (Nat.lt_succ_self k), ?_⟩
        refine le_mk ?_ ?_ (Nat.le_refl _)
        all_goals dsimp only [leE, leC, leR, leN, leD, leH, leO, writesX, dstsX, appS, havE, setsE, Env.get, Env.set, N8.get, N8.set, updL, lget, lset, env0]
        all_goals (repeat' (first | exact trivial | exact rfl | apply And.intro))
  obtain rfl : k = ms.length := by omega
  have hdel := hend0 (fun t' ht' => by rw [List.getElem?_eq_none (Nat.le_refl _)] at ht'; cases ht')
  have hye := yng_drop hg ms.length hold0 (fun t' ht' => by rw [List.getElem?_eq_none (Nat.le_refl _)] at ht'; cases ht')
  rw [← hye]
  generalize bs b1 17 (yng l now ms) = T1 at *
  generalize bs b2 6 (yng l now ms) = T2 at *
  repeat' (first
    | (with_reducible first | refine go_seq ?_ | refine go_region ?_ | refine go_regionD mixed_ok ?_ | refine go_cond ?_ | refine go_skip ?_ | refine go_block ?_ | refine nx_code ?_ | refine nx_block ?_ | refine go_ret ?_ | refine nx_nil ?_ | refine go_exit ?_ | refine ex_code ?_ | refine ex_loop ?_ | refine ex_here ?_)
    | ((with_reducible refine ex_past ?_ ?_); (exact by decide))
    | ((with_reducible refine endD_intro ?_ ?_); (exact by kernel_rfl))
    | ((with_reducible refine runR_n ?_ ?_); exact auN)
    | (first | (refine runR_callH 1 rfl hdel (fun _ _ _ h => h) ?_) | (simp only [hlen]))
    | (dsimp only [run, undef, zipO, runR_ok, runR_t, runR_f, gd, gd2, skipR, ex1, pickR, boxR, loadR, loadO, storeR, storeO, nilR, fieldAR, fieldR, partOf, binR, intBin, unR, boolR, kindEq, shiftOp, onlyIf, orB, convR, extR, lenR, indexSlR, gidxR, putE, updL, keysOf, lget, lset, evT, evs, Env.get, Env.set, N8.get, N8.set, env0, cellsD, oneD, oneV, andB, allOne, lenB, mapV, dget, ddrop, dtake, splice, xget, xset, partsD, partsOk, partsE, partsEOk, repl, elemsR, elemsS, elemsO, xdrop, xtake, allOnes, appN, appOwn, appNew, appY, cellEq_i, consO, cmpAll, allB, negB, eqsO, eqsR, minR, evO, bndO, keepB, snapCut, slCut, nilCut, sliceR, isS, isnilL, isnilX, isnilR, makeR, clearO, clearR, sliceW1, sliceW2, sliceW3, sliceWR, appWO, appWR, isnilPR, appD, callvR, cond, condK_t, condK_f, argsE, slots0, List.length_cons, List.length_nil, Bool.true_or, Bool.false_or, Bool.or_true, Bool.or_false, bnf, bnt, Nat.add_zero, Nat.zero_add, Nat.reduceAdd, Nat.reduceMul, Int.reduceToNat, endS])
    | (with_reducible refine runR_b (fun h => ?_) (fun h => ?_) <;> first | exact auH | simp only [h, runR_t, runR_f])
    | (with_reducible refine condK_bl ?_ ?_)
    | (with_reducible refine condK_b (fun h => ?_) (fun h => ?_) <;> first | exact auH | skip)
    | (first | (simp only [Int.toNat_natCast, Nat.zero_add]) | fail))
  (all_goals first | exact auP | skip)
  all_goals first
    | (exfalso; simp at h; done)
    | skip
  refine ret_h2 trivial trivial rfl rfl hn ?_ hm (nf_mp _ _)
  exact ⟨⟨trivial, trivial, trivial, trivial, trivial, hm, trivial⟩, trivial⟩
end Go.Proofs.YtegnfpmbmbbaiaaDoor
