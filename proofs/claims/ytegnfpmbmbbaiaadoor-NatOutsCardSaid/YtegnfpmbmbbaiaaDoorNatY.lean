/-
  One address for many: is it right, in the program.
-/
import Derived.Test.YtegnfpmbmbbaiaaDoorNatX
namespace Go.Proofs.YtegnfpmbmbbaiaaDoor
set_option linter.unusedVariables false
set_option linter.unusedSimpArgs false
def natErr (l b1 : Int) (t1 : Nat) (b2 : Int) (t2 : Nat) (ms : List Mp) : Int := if decide (1 ≤ l ∧ l ≤ 1000000) && (pOk b1 && pOk b2) then (if natRun b1 b2 [] ms t1 t2 0 then 0 else 4) else 1
abbrev wthP (m : Mp) : Mp → Bool := fun y => decide (y.pr = m.pr ∧ y.ad = m.ad ∧ y.po = m.po)
theorem okE_iff {ms : List Mp} {k : Nat} {m : Mp} (hm : ms[k]? = some m) (a : Int) : okE (ms.take k) a m = true ↔ (m.pr = 17 ∨ m.pr = 6) ∧ 0 ≤ m.po ∧ m.po ≤ 65535 ∧ a ≤ m.tm ∧ m.tm ≤ 1099511627776 ∧ firstI (wthP m) ms 0 = (k : Int) := by
  have hk : k < ms.length := (List.getElem?_eq_some_iff.1 hm).1
  have e : ms = ms.take k ++ m :: ms.drop (k + 1) := by
    conv => lhs; rw [← List.take_append_drop k ms, List.drop_eq_getElem_cons hk, show ms[k] = m from Option.some.inj ((List.getElem?_eq_getElem hk).symm.trans hm)]
  have hf := firstI_here (wthP m) m (by simp) (ms.drop (k + 1)) (ms.take k) 0
  rw [← e] at hf
  rw [show ((0 + (ms.take k).length : Nat) : Int) = (k : Int) by simp; omega] at hf
  rw [hf]
  unfold okE sameE
  simp only [Bool.and_eq_true, decide_eq_true_eq, and_assoc]
theorem endE_ok {b : Int} {t : Nat} {o : Int} (hb : pOk b = true) : endE b t o = 0 ↔ tkd b t o = true := by
  unfold endE
  rw [hb]
  cases tkd b t o <;> simp
theorem endB_ok {b : Int} {t : Nat} {o : Int} (hb : pOk b = true) (h : tkd b t o = true) : endB b t o = b ∧ endT b t o = clr b t o := by
  unfold endB endT
  rw [hb, h]
  exact ⟨rfl, rfl⟩
theorem max_pE (b1 b2 : Int) : max (pE b1) (pE b2) = if pOk b1 && pOk b2 then 0 else 1 := by
  unfold pE
  cases pOk b1 <;> cases pOk b2 <;> rfl
set_option maxRecDepth 8000 in
set_option maxHeartbeats 4000000 in
theorem ncheck_spec (l b1 : Int) (t1 : Nat) (b2 : Int) (t2 : Nat) (ms : List Mp) (hl : ms.length ≤ maxLen) (h1 : t1 < 18446744073709551616) (h2 : t2 < 18446744073709551616) : Spec Tryd.prog 7 [dNt l b1 t1 b2 t2 ms] (.v (.int .i64 (natErr l b1 t1 b2 t2 ms))) := by
  have c1 := pcheck_spec b1 t1
  have c2 := pcheck_spec b2 t2
  have hmx := max_pE b1 b2
  have hl' := hl
  unfold maxLen at hl'
  by_cases hg : 1 ≤ l ∧ l ≤ 1000000 ∧ (pOk b1 && pOk b2) = true
  · have e : natErr l b1 t1 b2 t2 ms = if natRun b1 b2 [] ms t1 t2 0 then 0 else 4 := by unfold natErr; rw [if_pos (by simp only [Bool.and_eq_true, decide_eq_true_eq]; simp only [Bool.and_eq_true] at hg; exact ⟨⟨hg.1, hg.2.1⟩, hg.2.2⟩)]
    rw [e]
    clear e
    rw [if_pos hg.2.2] at hmx
    have hb1 : pOk b1 = true := by have := hg.2.2; rw [Bool.and_eq_true] at this; exact this.1
    have hb2 : pOk b2 = true := by have := hg.2.2; rw [Bool.and_eq_true] at this; exact this.2
    have hll := hg.1
    have hlu := hg.2.1
    clear hg
    refine hspec_fn Tryd.func7 rfl ok_nat_Check okr_nat_Check rfl (by kernel_rfl) ?_
    intro Γ hW0 hN0 hL0
    have hW := hW0 rfl
    clear hW0 hN0 hL0
    unfold x_nat_Check r_nat_Check
    repeat' (first
      | (with_reducible first | refine go_seq ?_ | refine go_region ?_ | refine go_regionD mixed_ok ?_ | refine go_cond ?_ | refine go_skip ?_ | refine go_block ?_ | refine nx_code ?_ | refine nx_block ?_ | refine go_ret ?_ | refine nx_nil ?_ | refine go_exit ?_ | refine ex_code ?_ | refine ex_loop ?_ | refine ex_here ?_)
      | ((with_reducible refine ex_past ?_ ?_); (exact by decide))
      | ((with_reducible refine endD_intro ?_ ?_); (exact by kernel_rfl))
      | ((with_reducible refine runR_n ?_ ?_); exact auN)
      | (first | (with_reducible refine runR_call c1 ?_) | (with_reducible refine runR_call c2 ?_) | (simp only [hmx]))
      | (dsimp only [run, undef, zipO, runR_ok, runR_t, runR_f, gd, gd2, skipR, ex1, pickR, boxR, loadR, loadO, storeR, storeO, nilR, fieldAR, fieldR, partOf, binR, intBin, unR, boolR, kindEq, shiftOp, onlyIf, orB, convR, extR, lenR, indexSlR, gidxR, putE, updL, keysOf, lget, lset, evT, evs, Env.get, Env.set, N8.get, N8.set, env0, cellsD, oneD, oneV, andB, allOne, lenB, mapV, dget, ddrop, dtake, splice, xget, xset, partsD, partsOk, partsE, partsEOk, repl, elemsR, elemsS, elemsO, xdrop, xtake, allOnes, appN, appOwn, appNew, appY, cellEq_i, consO, cmpAll, allB, negB, eqsO, eqsR, minR, evO, bndO, keepB, snapCut, slCut, nilCut, sliceR, isS, isnilL, isnilX, isnilR, makeR, clearO, clearR, sliceW1, sliceW2, sliceW3, sliceWR, appWO, appWR, isnilPR, appD, callvR, cond, condK_t, condK_f, argsE, slots0, List.length_cons, List.length_nil, Bool.true_or, Bool.false_or, Bool.or_true, Bool.or_false, bnf, bnt, Nat.add_zero, Nat.zero_add, Nat.reduceAdd, Nat.reduceMul, Int.reduceToNat, endS])
      | (with_reducible refine runR_b (fun h => ?_) (fun h => ?_) <;> first | exact auH | simp only [h, runR_t, runR_f])
      | (with_reducible refine condK_bl ?_ ?_)
      | (with_reducible refine condK_b (fun h => ?_) (fun h => ?_) <;> first | exact auH | skip)
      | fail)
    (all_goals first | exact auP | skip)
    all_goals first
      | (exfalso; simp at h; done)
      | skip
    refine go_loopH (α := Nat × Nat × Nat × Int × Nat) (fun p => [(⟨.d0, .d0, .d5⟩, .v (.int .i64 p.2.2.2.1)), (⟨.d0, .d4, .d1⟩, .v (.int .i64 (p.1 : Nat)))]) (fun p => [(1, some ⟨Γ.g0 + 1, 6, [rNt l b1 p.2.1 b2 p.2.2.1 ms]⟩), (2, none), (3, none)]) (fun p => p.2.2.2.2) (fun p => ms.length - p.1) (fun p => p.1 ≤ ms.length ∧ p.2.1 < 18446744073709551616 ∧ p.2.2.1 < 18446744073709551616 ∧ natRun b1 b2 [] ms t1 t2 0 = natRun b1 b2 (ms.take p.1) (ms.drop p.1) p.2.1 p.2.2.1 p.2.2.2.1) (0, t1, t2, 0, Γ.g0 + 1 + 1) ⟨Nat.zero_le _, h1, h2, rfl⟩ ?_ ?_
    · skip
      refine le_mk ?_ ?_ (Nat.le_refl _)
      all_goals dsimp only [leE, leC, leR, leN, leD, leH, leO, writesX, dstsX, appS, havE, setsE, Env.get, Env.set, N8.get, N8.set, updL, lget, lset, env0]
      all_goals (repeat' (first | exact trivial | exact rfl | apply And.intro))
    rintro ⟨k, u1, u2, a, gn⟩ ⟨hk, hu1, hu2, hr⟩
    dsimp only at hk hu1 hu2 hr ⊢
    dsimp only [writesX, dstsX, appS, havE, setsE, Env.get, Env.set, N8.get, N8.set, updL, lget, lset, env0]
    by_cases hlt : k < ms.length
    · obtain ⟨m, hm⟩ : ∃ m, ms[k]? = some m := ⟨_, List.getElem?_eq_getElem hlt⟩
      have ex := xget_mp hm
      have hok := okE_iff hm a
      have htk : ms.take k ++ [m] = ms.take (k + 1) := by rw [List.take_add_one, hm]; rfl
      rw [List.drop_eq_getElem_cons hlt, show ms[k] = m from Option.some.inj ((List.getElem?_eq_getElem hlt).symm.trans hm), natRun, htk] at hr
      by_cases h17 : m.pr = 17
      · have hpl0 : placeD m.pr (Γ.g0 + 1) 0 = .ptr 0 (Γ.g0 + 1) 6 0 1 := by unfold placeD; rw [if_pos h17]
        have hen := pend_spec b1 u1 m.ou hu1
        have hE : tk2 b1 b2 u1 u2 m = true → endE b1 u1 m.ou = 0 := fun e => (endE_ok hb1).2 (by simpa only [tk2, if_pos h17] using e)
        have hD : ∀ K w v, VRel K w (placeD m.pr (Γ.g0 + 1) 0) v → VRel K w (.ptr 1 (Γ.g0 + 1) 6 0 1) v := fun K w v hv => by
          rw [hpl0] at hv
          exact ptr_label hv
        have hpl := hspec_ptr 1 (place_spec (Γ.g0 + 1) l b1 u1 b2 u2 ms m.pr)
        have hwi : Spec Tryd.prog 17 [dNt l b1 t1 b2 t2 ms, .v (.int .i64 m.pr), .v (.int .u32 m.ad), .v (.int .i64 m.po)] (.v (.int .i64 (firstI (wthP m) ms 0))) := within_spec l b1 t1 b2 t2 ms m.pr m.ad m.po hl
        generalize firstI (wthP m) ms 0 = fi at hwi hok
        repeat' (first
          | (with_reducible first | refine go_seq ?_ | refine go_region ?_ | refine go_regionD mixed_ok ?_ | refine go_cond ?_ | refine go_skip ?_ | refine go_block ?_ | refine nx_code ?_ | refine nx_block ?_ | refine go_ret ?_ | refine nx_nil ?_ | refine go_exit ?_ | refine ex_code ?_ | refine ex_loop ?_ | refine ex_here ?_)
          | ((with_reducible refine ex_past ?_ ?_); (exact by decide))
          | ((with_reducible refine endD_intro ?_ ?_); (exact by kernel_rfl))
          | ((with_reducible refine runR_n ?_ ?_); exact auN)
          | (first | ((with_reducible refine runR_callH 1 ?_ hpl hD ?_); (exact rfl)) | (with_reducible refine runR_call hwi ?_) | (with_reducible refine runR_call hen ?_))
          | (dsimp only [run, undef, zipO, runR_ok, runR_t, runR_f, gd, gd2, skipR, ex1, pickR, boxR, loadR, loadO, storeR, storeO, nilR, fieldAR, fieldR, partOf, binR, intBin, unR, boolR, kindEq, shiftOp, onlyIf, orB, convR, extR, lenR, indexSlR, gidxR, putE, updL, keysOf, lget, lset, evT, evs, Env.get, Env.set, N8.get, N8.set, env0, cellsD, oneD, oneV, andB, allOne, lenB, mapV, dget, ddrop, dtake, splice, xget, xset, partsD, partsOk, partsE, partsEOk, repl, elemsR, elemsS, elemsO, xdrop, xtake, allOnes, appN, appOwn, appNew, appY, cellEq_i, consO, cmpAll, allB, negB, eqsO, eqsR, minR, evO, bndO, keepB, snapCut, slCut, nilCut, sliceR, isS, isnilL, isnilX, isnilR, makeR, clearO, clearR, sliceW1, sliceW2, sliceW3, sliceWR, appWO, appWR, isnilPR, appD, callvR, cond, condK_t, condK_f, argsE, slots0, List.length_cons, List.length_nil, Bool.true_or, Bool.false_or, Bool.or_true, Bool.or_false, bnf, bnt, Nat.add_zero, Nat.zero_add, Nat.reduceAdd, Nat.reduceMul, Int.reduceToNat, endS])
          | (with_reducible refine runR_b (fun h => ?_) (fun h => ?_) <;> first | exact auH | simp only [h, runR_t, runR_f])
          | (with_reducible refine condK_bl ?_ ?_)
          | (with_reducible refine condK_b (fun h => ?_) (fun h => ?_) <;> first | exact auH | skip)
          | (simp only [Int.toNat_natCast, ex]))
        (all_goals first | exact auP | skip)
        rotate_right
        · rename_i q0 q1 q2 q3 q4 q5
          have hz : endE b1 u1 m.ou = 0 := by simpa using h
          have hq := (endE_ok hb1).1 hz
          obtain ⟨f1, f2⟩ := endB_ok hb1 hq
          have hok' : okE (ms.take k) a m = true := hok.2 ⟨.inl h17, by simpa using q1, by simpa using q2, by simpa using q3, by simpa using q4, by simpa using q5⟩
          have hr' : natRun b1 b2 [] ms t1 t2 0 = natRun b1 b2 (ms.take (k + 1)) (ms.drop (k + 1)) (clr b1 u1 m.ou) u2 m.tm := by
            rw [hr, hok']
            simp only [tk2, n1, n2, if_pos h17, hq, Bool.true_and]
          simp only [f1, f2]
          refine nx_loop ⟨(k + 1, clr b1 u1 m.ou, u2, m.tm, gn + 2), ⟨hlt, clr_lt hq hu1, hu2, hr'⟩, Nat.sub_lt_sub_left hlt (Nat.lt_succ_self k), ?_⟩
          dsimp only
          refine le_mk ?_ ?_ (Nat.le_refl _)
          all_goals dsimp only [leE, leC, leR, leN, leD, leH, leO, writesX, dstsX, appS, havE, setsE, Env.get, Env.set, N8.get, N8.set, updL, lget, lset, env0]
          all_goals (repeat' (first | exact trivial | exact rfl | apply And.intro))
          exact dint ((IntWalk.i64_in _ (by omega)).trans (by omega))
        all_goals with_reducible refine ret_spec2 (by (try dsimp only [RetOK, resOk, resDs, resD, resV, cellV, cellO, cellP, cellOk, htake, nfD, nfL, nfLL, nfH, lget, partOf, xget, ddrop, dtake, dget, Env.get, N8.get, env0, List.length_cons, List.length_nil, Env.set, N8.set, lset, updL]); (repeat' (first | exact trivial | exact rfl | exact nfLL_map (fun x => by simp [nfL, nfD, nfD]) | decide | apply And.intro))) ?_
        all_goals (try dsimp only [RetOK, resOk, resDs, resD, resV, cellV, cellO, cellP, cellOk, htake, nfD, nfL, nfLL, nfH, lget, partOf, xget, ddrop, dtake, dget, Env.get, N8.get, env0, List.length_cons, List.length_nil, Env.set, N8.set, lset, updL])
        all_goals (try simp only [hsM] at *)
        all_goals (refine dint ?_)
        all_goals (rw [if_neg]; intro e; rw [hr, Bool.and_eq_true, Bool.and_eq_true, hok] at e; have hz := hE e.1.2; omega)
      · by_cases h6 : m.pr = 6
        · have hpl0 : placeD m.pr (Γ.g0 + 1) 0 = .ptr 0 (Γ.g0 + 1) 6 0 3 := by unfold placeD; rw [if_neg h17, if_pos h6]
          have hen := pend_spec b2 u2 m.ou hu2
          have hE : tk2 b1 b2 u1 u2 m = true → endE b2 u2 m.ou = 0 := fun e => (endE_ok hb2).2 (by simpa only [tk2, if_neg h17] using e)
          have hD : ∀ K w v, VRel K w (placeD m.pr (Γ.g0 + 1) 0) v → VRel K w (.ptr 1 (Γ.g0 + 1) 6 0 3) v := fun K w v hv => by
            rw [hpl0] at hv
            exact ptr_label hv
          have hpl := hspec_ptr 1 (place_spec (Γ.g0 + 1) l b1 u1 b2 u2 ms m.pr)
          have hwi : Spec Tryd.prog 17 [dNt l b1 t1 b2 t2 ms, .v (.int .i64 m.pr), .v (.int .u32 m.ad), .v (.int .i64 m.po)] (.v (.int .i64 (firstI (wthP m) ms 0))) := within_spec l b1 t1 b2 t2 ms m.pr m.ad m.po hl
          generalize firstI (wthP m) ms 0 = fi at hwi hok
          repeat' (first
            | (with_reducible first | refine go_seq ?_ | refine go_region ?_ | refine go_regionD mixed_ok ?_ | refine go_cond ?_ | refine go_skip ?_ | refine go_block ?_ | refine nx_code ?_ | refine nx_block ?_ | refine go_ret ?_ | refine nx_nil ?_ | refine go_exit ?_ | refine ex_code ?_ | refine ex_loop ?_ | refine ex_here ?_)
            | ((with_reducible refine ex_past ?_ ?_); (exact by decide))
            | ((with_reducible refine endD_intro ?_ ?_); (exact by kernel_rfl))
            | ((with_reducible refine runR_n ?_ ?_); exact auN)
            | (first | ((with_reducible refine runR_callH 1 ?_ hpl hD ?_); (exact rfl)) | (with_reducible refine runR_call hwi ?_) | (with_reducible refine runR_call hen ?_))
            | (dsimp only [run, undef, zipO, runR_ok, runR_t, runR_f, gd, gd2, skipR, ex1, pickR, boxR, loadR, loadO, storeR, storeO, nilR, fieldAR, fieldR, partOf, binR, intBin, unR, boolR, kindEq, shiftOp, onlyIf, orB, convR, extR, lenR, indexSlR, gidxR, putE, updL, keysOf, lget, lset, evT, evs, Env.get, Env.set, N8.get, N8.set, env0, cellsD, oneD, oneV, andB, allOne, lenB, mapV, dget, ddrop, dtake, splice, xget, xset, partsD, partsOk, partsE, partsEOk, repl, elemsR, elemsS, elemsO, xdrop, xtake, allOnes, appN, appOwn, appNew, appY, cellEq_i, consO, cmpAll, allB, negB, eqsO, eqsR, minR, evO, bndO, keepB, snapCut, slCut, nilCut, sliceR, isS, isnilL, isnilX, isnilR, makeR, clearO, clearR, sliceW1, sliceW2, sliceW3, sliceWR, appWO, appWR, isnilPR, appD, callvR, cond, condK_t, condK_f, argsE, slots0, List.length_cons, List.length_nil, Bool.true_or, Bool.false_or, Bool.or_true, Bool.or_false, bnf, bnt, Nat.add_zero, Nat.zero_add, Nat.reduceAdd, Nat.reduceMul, Int.reduceToNat, endS])
            | (with_reducible refine runR_b (fun h => ?_) (fun h => ?_) <;> first | exact auH | simp only [h, runR_t, runR_f])
            | (with_reducible refine condK_bl ?_ ?_)
            | (with_reducible refine condK_b (fun h => ?_) (fun h => ?_) <;> first | exact auH | skip)
            | (simp only [Int.toNat_natCast, ex]))
          (all_goals first | exact auP | skip)
          rotate_right
          · rename_i q0 q1 q2 q3 q4 q5
            have hz : endE b2 u2 m.ou = 0 := by simpa using h
            have hq := (endE_ok hb2).1 hz
            obtain ⟨f1, f2⟩ := endB_ok hb2 hq
            have hok' : okE (ms.take k) a m = true := hok.2 ⟨.inr h6, by simpa using q1, by simpa using q2, by simpa using q3, by simpa using q4, by simpa using q5⟩
            have hr' : natRun b1 b2 [] ms t1 t2 0 = natRun b1 b2 (ms.take (k + 1)) (ms.drop (k + 1)) u1 (clr b2 u2 m.ou) m.tm := by
              rw [hr, hok']
              simp only [tk2, n1, n2, if_neg h17, hq, Bool.true_and]
            simp only [f1, f2]
            refine nx_loop ⟨(k + 1, u1, clr b2 u2 m.ou, m.tm, gn + 2), ⟨hlt, hu1, clr_lt hq hu2, hr'⟩, Nat.sub_lt_sub_left hlt (Nat.lt_succ_self k), ?_⟩
            dsimp only
            refine le_mk ?_ ?_ (Nat.le_refl _)
            all_goals dsimp only [leE, leC, leR, leN, leD, leH, leO, writesX, dstsX, appS, havE, setsE, Env.get, Env.set, N8.get, N8.set, updL, lget, lset, env0]
            all_goals (repeat' (first | exact trivial | exact rfl | apply And.intro))
            exact dint ((IntWalk.i64_in _ (by omega)).trans (by omega))
          all_goals with_reducible refine ret_spec2 (by (try dsimp only [RetOK, resOk, resDs, resD, resV, cellV, cellO, cellP, cellOk, htake, nfD, nfL, nfLL, nfH, lget, partOf, xget, ddrop, dtake, dget, Env.get, N8.get, env0, List.length_cons, List.length_nil, Env.set, N8.set, lset, updL]); (repeat' (first | exact trivial | exact rfl | exact nfLL_map (fun x => by simp [nfL, nfD, nfD]) | decide | apply And.intro))) ?_
          all_goals (try dsimp only [RetOK, resOk, resDs, resD, resV, cellV, cellO, cellP, cellOk, htake, nfD, nfL, nfLL, nfH, lget, partOf, xget, ddrop, dtake, dget, Env.get, N8.get, env0, List.length_cons, List.length_nil, Env.set, N8.set, lset, updL])
          all_goals (try simp only [hsM] at *)
          all_goals (refine dint ?_)
          all_goals (rw [if_neg]; intro e; rw [hr, Bool.and_eq_true, Bool.and_eq_true, hok] at e; have hz := hE e.1.2; omega)
        · have hpl0 : placeD m.pr (Γ.g0 + 1) 0 = .v (.pointer none) := by unfold placeD; rw [if_neg h17, if_neg h6]
          have hD : ∀ K w v, VRel K w (placeD m.pr (Γ.g0 + 1) 0) v → VRel K w (.v (.pointer none)) v := fun K w v hv => by
            rw [hpl0] at hv
            exact hv
          have hpl := hspec_ptr 1 (place_spec (Γ.g0 + 1) l b1 u1 b2 u2 ms m.pr)
          repeat' (first
            | (with_reducible first | refine go_seq ?_ | refine go_region ?_ | refine go_regionD mixed_ok ?_ | refine go_cond ?_ | refine go_skip ?_ | refine go_block ?_ | refine nx_code ?_ | refine nx_block ?_ | refine go_ret ?_ | refine nx_nil ?_ | refine go_exit ?_ | refine ex_code ?_ | refine ex_loop ?_ | refine ex_here ?_)
            | ((with_reducible refine ex_past ?_ ?_); (exact by decide))
            | ((with_reducible refine endD_intro ?_ ?_); (exact by kernel_rfl))
            | ((with_reducible refine runR_n ?_ ?_); exact auN)
            | ((with_reducible refine runR_callH 1 ?_ hpl hD ?_); (exact rfl))
            | (dsimp only [run, undef, zipO, runR_ok, runR_t, runR_f, gd, gd2, skipR, ex1, pickR, boxR, loadR, loadO, storeR, storeO, nilR, fieldAR, fieldR, partOf, binR, intBin, unR, boolR, kindEq, shiftOp, onlyIf, orB, convR, extR, lenR, indexSlR, gidxR, putE, updL, keysOf, lget, lset, evT, evs, Env.get, Env.set, N8.get, N8.set, env0, cellsD, oneD, oneV, andB, allOne, lenB, mapV, dget, ddrop, dtake, splice, xget, xset, partsD, partsOk, partsE, partsEOk, repl, elemsR, elemsS, elemsO, xdrop, xtake, allOnes, appN, appOwn, appNew, appY, cellEq_i, consO, cmpAll, allB, negB, eqsO, eqsR, minR, evO, bndO, keepB, snapCut, slCut, nilCut, sliceR, isS, isnilL, isnilX, isnilR, makeR, clearO, clearR, sliceW1, sliceW2, sliceW3, sliceWR, appWO, appWR, isnilPR, appD, callvR, cond, condK_t, condK_f, argsE, slots0, List.length_cons, List.length_nil, Bool.true_or, Bool.false_or, Bool.or_true, Bool.or_false, bnf, bnt, Nat.add_zero, Nat.zero_add, Nat.reduceAdd, Nat.reduceMul, Int.reduceToNat, endS])
            | (with_reducible refine runR_b (fun h => ?_) (fun h => ?_) <;> first | exact auH | simp only [h, runR_t, runR_f])
            | (with_reducible refine condK_bl ?_ ?_)
            | (with_reducible refine condK_b (fun h => ?_) (fun h => ?_) <;> first | exact auH | skip)
            | (simp only [Int.toNat_natCast, ex]))
          (all_goals first | exact auP | skip)
          all_goals with_reducible refine ret_spec2 (by (try dsimp only [RetOK, resOk, resDs, resD, resV, cellV, cellO, cellP, cellOk, htake, nfD, nfL, nfLL, nfH, lget, partOf, xget, ddrop, dtake, dget, Env.get, N8.get, env0, List.length_cons, List.length_nil, Env.set, N8.set, lset, updL]); (repeat' (first | exact trivial | exact rfl | exact nfLL_map (fun x => by simp [nfL, nfD, nfD]) | decide | apply And.intro))) ?_
          all_goals (try dsimp only [RetOK, resOk, resDs, resD, resV, cellV, cellO, cellP, cellOk, htake, nfD, nfL, nfLL, nfH, lget, partOf, xget, ddrop, dtake, dget, Env.get, N8.get, env0, List.length_cons, List.length_nil, Env.set, N8.set, lset, updL])
          all_goals (try simp only [hsM] at *)
          all_goals (refine dint ?_)
          all_goals (rw [if_neg]; intro e; rw [hr, Bool.and_eq_true, Bool.and_eq_true, hok] at e; omega)
    · obtain rfl : k = ms.length := by omega
      rw [List.drop_length, natRun] at hr
      rw [hr]
      repeat' (first
        | (with_reducible first | refine go_seq ?_ | refine go_region ?_ | refine go_regionD mixed_ok ?_ | refine go_cond ?_ | refine go_skip ?_ | refine go_block ?_ | refine nx_code ?_ | refine nx_block ?_ | refine go_ret ?_ | refine nx_nil ?_ | refine go_exit ?_ | refine ex_code ?_ | refine ex_loop ?_ | refine ex_here ?_)
        | ((with_reducible refine ex_past ?_ ?_); (exact by decide))
        | ((with_reducible refine endD_intro ?_ ?_); (exact by kernel_rfl))
        | ((with_reducible refine runR_n ?_ ?_); exact auN)
        | fail
        | (dsimp only [run, undef, zipO, runR_ok, runR_t, runR_f, gd, gd2, skipR, ex1, pickR, boxR, loadR, loadO, storeR, storeO, nilR, fieldAR, fieldR, partOf, binR, intBin, unR, boolR, kindEq, shiftOp, onlyIf, orB, convR, extR, lenR, indexSlR, gidxR, putE, updL, keysOf, lget, lset, evT, evs, Env.get, Env.set, N8.get, N8.set, env0, cellsD, oneD, oneV, andB, allOne, lenB, mapV, dget, ddrop, dtake, splice, xget, xset, partsD, partsOk, partsE, partsEOk, repl, elemsR, elemsS, elemsO, xdrop, xtake, allOnes, appN, appOwn, appNew, appY, cellEq_i, consO, cmpAll, allB, negB, eqsO, eqsR, minR, evO, bndO, keepB, snapCut, slCut, nilCut, sliceR, isS, isnilL, isnilX, isnilR, makeR, clearO, clearR, sliceW1, sliceW2, sliceW3, sliceWR, appWO, appWR, isnilPR, appD, callvR, cond, condK_t, condK_f, argsE, slots0, List.length_cons, List.length_nil, Bool.true_or, Bool.false_or, Bool.or_true, Bool.or_false, bnf, bnt, Nat.add_zero, Nat.zero_add, Nat.reduceAdd, Nat.reduceMul, Int.reduceToNat, endS])
        | (with_reducible refine runR_b (fun h => ?_) (fun h => ?_) <;> first | exact auH | simp only [h, runR_t, runR_f])
        | (with_reducible refine condK_bl ?_ ?_)
        | (with_reducible refine condK_b (fun h => ?_) (fun h => ?_) <;> first | exact auH | skip)
        | fail)
      (all_goals first | exact auP | skip)
      all_goals with_reducible refine ret_spec2 (by (try dsimp only [RetOK, resOk, resDs, resD, resV, cellV, cellO, cellP, cellOk, htake, nfD, nfL, nfLL, nfH, lget, partOf, xget, ddrop, dtake, dget, Env.get, N8.get, env0, List.length_cons, List.length_nil, Env.set, N8.set, lset, updL]); (repeat' (first | exact trivial | exact rfl | exact nfLL_map (fun x => by simp [nfL, nfD, nfD]) | decide | apply And.intro))) ?_
      all_goals (try dsimp only [RetOK, resOk, resDs, resD, resV, cellV, cellO, cellP, cellOk, htake, nfD, nfL, nfLL, nfH, lget, partOf, xget, ddrop, dtake, dget, Env.get, N8.get, env0, List.length_cons, List.length_nil, Env.set, N8.set, lset, updL])
      all_goals (try simp only [hsM] at *)
      all_goals (refine dint ?_)
      all_goals first
        | (rw [if_neg (by omega)]; done)
        | (rw [if_pos (by omega)]; done)
  · have e : natErr l b1 t1 b2 t2 ms = 1 := by
      unfold natErr
      rw [if_neg]
      simp only [Bool.and_eq_true, decide_eq_true_eq]
      rintro ⟨⟨q1, q2⟩, q3⟩
      exact hg ⟨q1, q2, by rw [Bool.and_eq_true]; exact q3⟩
    rw [e]
    clear e
    by_cases hg2 : (pOk b1 && pOk b2) = true
    · rw [if_pos hg2] at hmx
      have hg3 : ¬ (1 ≤ l ∧ l ≤ 1000000) := fun q => hg ⟨q.1, q.2, hg2⟩
      refine hspec_fn Tryd.func7 rfl ok_nat_Check okr_nat_Check rfl (by kernel_rfl) ?_
      intro Γ hW0 hN0 hL0
      have hW := hW0 rfl
      clear hW0 hN0 hL0
      unfold x_nat_Check r_nat_Check
      repeat' (first
        | (with_reducible first | refine go_seq ?_ | refine go_region ?_ | refine go_regionD mixed_ok ?_ | refine go_cond ?_ | refine go_skip ?_ | refine go_block ?_ | refine nx_code ?_ | refine nx_block ?_ | refine go_ret ?_ | refine nx_nil ?_ | refine go_exit ?_ | refine ex_code ?_ | refine ex_loop ?_ | refine ex_here ?_)
        | ((with_reducible refine ex_past ?_ ?_); (exact by decide))
        | ((with_reducible refine endD_intro ?_ ?_); (exact by kernel_rfl))
        | ((with_reducible refine runR_n ?_ ?_); exact auN)
        | (first | (with_reducible refine runR_call c1 ?_) | (with_reducible refine runR_call c2 ?_) | (simp only [hmx]))
        | (dsimp only [run, undef, zipO, runR_ok, runR_t, runR_f, gd, gd2, skipR, ex1, pickR, boxR, loadR, loadO, storeR, storeO, nilR, fieldAR, fieldR, partOf, binR, intBin, unR, boolR, kindEq, shiftOp, onlyIf, orB, convR, extR, lenR, indexSlR, gidxR, putE, updL, keysOf, lget, lset, evT, evs, Env.get, Env.set, N8.get, N8.set, env0, cellsD, oneD, oneV, andB, allOne, lenB, mapV, dget, ddrop, dtake, splice, xget, xset, partsD, partsOk, partsE, partsEOk, repl, elemsR, elemsS, elemsO, xdrop, xtake, allOnes, appN, appOwn, appNew, appY, cellEq_i, consO, cmpAll, allB, negB, eqsO, eqsR, minR, evO, bndO, keepB, snapCut, slCut, nilCut, sliceR, isS, isnilL, isnilX, isnilR, makeR, clearO, clearR, sliceW1, sliceW2, sliceW3, sliceWR, appWO, appWR, isnilPR, appD, callvR, cond, condK_t, condK_f, argsE, slots0, List.length_cons, List.length_nil, Bool.true_or, Bool.false_or, Bool.or_true, Bool.or_false, bnf, bnt, Nat.add_zero, Nat.zero_add, Nat.reduceAdd, Nat.reduceMul, Int.reduceToNat, endS])
        | (with_reducible refine runR_b (fun h => ?_) (fun h => ?_) <;> first | exact auH | simp only [h, runR_t, runR_f])
        | (with_reducible refine condK_bl ?_ ?_)
        | (with_reducible refine condK_b (fun h => ?_) (fun h => ?_) <;> first | exact auH | skip)
        | fail)
      (all_goals first | exact auP | skip)
      all_goals first
        | (exfalso; simp at h; done)
        | skip
      all_goals with_reducible refine ret_spec2 (by (try dsimp only [RetOK, resOk, resDs, resD, resV, cellV, cellO, cellP, cellOk, htake, nfD, nfL, nfLL, nfH, lget, partOf, xget, ddrop, dtake, dget, Env.get, N8.get, env0, List.length_cons, List.length_nil, Env.set, N8.set, lset, updL]); (repeat' (first | exact trivial | exact rfl | exact nfLL_map (fun x => by simp [nfL, nfD, nfD]) | decide | apply And.intro))) ?_
      all_goals (try dsimp only [RetOK, resOk, resDs, resD, resV, cellV, cellO, cellP, cellOk, htake, nfD, nfL, nfLL, nfH, lget, partOf, xget, ddrop, dtake, dget, Env.get, N8.get, env0, List.length_cons, List.length_nil, Env.set, N8.set, lset, updL])
      all_goals (try simp only [hsM] at *)
      all_goals first
        | rfl
        | (exfalso; omega)
    · rw [if_neg hg2] at hmx
      refine hspec_fn Tryd.func7 rfl ok_nat_Check okr_nat_Check rfl (by kernel_rfl) ?_
      intro Γ hW0 hN0 hL0
      have hW := hW0 rfl
      clear hW0 hN0 hL0
      unfold x_nat_Check r_nat_Check
      repeat' (first
        | (with_reducible first | refine go_seq ?_ | refine go_region ?_ | refine go_regionD mixed_ok ?_ | refine go_cond ?_ | refine go_skip ?_ | refine go_block ?_ | refine nx_code ?_ | refine nx_block ?_ | refine go_ret ?_ | refine nx_nil ?_ | refine go_exit ?_ | refine ex_code ?_ | refine ex_loop ?_ | refine ex_here ?_)
        | ((with_reducible refine ex_past ?_ ?_); (exact by decide))
        | ((with_reducible refine endD_intro ?_ ?_); (exact by kernel_rfl))
        | ((with_reducible refine runR_n ?_ ?_); exact auN)
        | (first | (with_reducible refine runR_call c1 ?_) | (with_reducible refine runR_call c2 ?_) | (simp only [hmx]))
        | (dsimp only [run, undef, zipO, runR_ok, runR_t, runR_f, gd, gd2, skipR, ex1, pickR, boxR, loadR, loadO, storeR, storeO, nilR, fieldAR, fieldR, partOf, binR, intBin, unR, boolR, kindEq, shiftOp, onlyIf, orB, convR, extR, lenR, indexSlR, gidxR, putE, updL, keysOf, lget, lset, evT, evs, Env.get, Env.set, N8.get, N8.set, env0, cellsD, oneD, oneV, andB, allOne, lenB, mapV, dget, ddrop, dtake, splice, xget, xset, partsD, partsOk, partsE, partsEOk, repl, elemsR, elemsS, elemsO, xdrop, xtake, allOnes, appN, appOwn, appNew, appY, cellEq_i, consO, cmpAll, allB, negB, eqsO, eqsR, minR, evO, bndO, keepB, snapCut, slCut, nilCut, sliceR, isS, isnilL, isnilX, isnilR, makeR, clearO, clearR, sliceW1, sliceW2, sliceW3, sliceWR, appWO, appWR, isnilPR, appD, callvR, cond, condK_t, condK_f, argsE, slots0, List.length_cons, List.length_nil, Bool.true_or, Bool.false_or, Bool.or_true, Bool.or_false, bnf, bnt, Nat.add_zero, Nat.zero_add, Nat.reduceAdd, Nat.reduceMul, Int.reduceToNat, endS])
        | (with_reducible refine runR_b (fun h => ?_) (fun h => ?_) <;> first | exact auH | simp only [h, runR_t, runR_f])
        | (with_reducible refine condK_bl ?_ ?_)
        | (with_reducible refine condK_b (fun h => ?_) (fun h => ?_) <;> first | exact auH | skip)
        | fail)
      (all_goals first | exact auP | skip)
      all_goals first
        | (exfalso; simp at h; done)
        | skip
      all_goals with_reducible refine ret_spec2 (by (try dsimp only [RetOK, resOk, resDs, resD, resV, cellV, cellO, cellP, cellOk, htake, nfD, nfL, nfLL, nfH, lget, partOf, xget, ddrop, dtake, dget, Env.get, N8.get, env0, List.length_cons, List.length_nil, Env.set, N8.set, lset, updL]); (repeat' (first | exact trivial | exact rfl | exact nfLL_map (fun x => by simp [nfL, nfD, nfD]) | decide | apply And.intro))) ?_
      all_goals (try dsimp only [RetOK, resOk, resDs, resD, resV, cellV, cellO, cellP, cellOk, htake, nfD, nfL, nfLL, nfH, lget, partOf, xget, ddrop, dtake, dget, Env.get, N8.get, env0, List.length_cons, List.length_nil, Env.set, N8.set, lset, updL])
      all_goals (try simp only [hsM] at *)
      all_goals first
        | rfl
        | (exfalso; omega)
end Go.Proofs.YtegnfpmbmbbaiaaDoor
