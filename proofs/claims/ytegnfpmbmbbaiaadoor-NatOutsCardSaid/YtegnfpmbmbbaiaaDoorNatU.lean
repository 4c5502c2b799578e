/-
  One address for many, from within: the program's Out, where a port is let.
-/
import Derived.Test.YtegnfpmbmbbaiaaDoorNatT
namespace Go.Proofs.YtegnfpmbmbbaiaaDoor
set_option linter.unusedVariables false
set_option linter.unusedSimpArgs false
section
variable (l b1 : Int) (t1 : Nat) (b2 : Int) (t2 : Nat) (ms : List Mp) (pr ad po now : Int) (hl : ms.length * 40 ≤ 140737488351232) (h10 : t1 < 18446744073709551616) (h20 : t2 < 18446744073709551616)
include hl h10 h20
set_option maxRecDepth 8000 in
set_option maxHeartbeats 16000000 in
theorem out_let (he : natErr l b1 t1 b2 t2 ms = 0) (ha : ((0 ≤ po ∧ po ≤ 65535) ∧ lastT ms ≤ now ∧ now ≤ 1099511627776)) (hf : firstI (isP pr ad po) (yng l now ms) 0 = -1) {bX : Int} {B : Int} {T : Nat} {p e : Int} (h3 : Spec Tryd.prog 20 [.agg [.v (.int .i64 bX), .v (.int .u64 (bs bX pr (yng l now ms) : Nat))], .v (.int .i64 po)] (dLet B T p e)) {B1 B2 : Int} {R1 R2 : Nat}
    (hr : (pr = 17 ∧ bX = b1 ∧ B1 = B ∧ R1 = T ∧ B2 = b2 ∧ R2 = bs b2 6 (yng l now ms)) ∨ (pr = 6 ∧ bX = b2 ∧ B1 = b1 ∧ R1 = bs b1 17 (yng l now ms) ∧ B2 = B ∧ R2 = T)) :
    (¬ e = 0 → Spec Tryd.prog 5 [dNt l b1 t1 b2 t2 ms, .v (.int .i64 pr), .v (.int .u32 ad), .v (.int .i64 po), .v (.int .i64 now)] (dOut l b1 t1 b2 t2 ms 0 e)) ∧
    (e = 0 → Spec Tryd.prog 5 [dNt l b1 t1 b2 t2 ms, .v (.int .i64 pr), .v (.int .u32 ad), .v (.int .i64 po), .v (.int .i64 now)] (dOut l B1 R1 B2 R2 (yng l now ms ++ [⟨pr, ad, po, p, now⟩]) p 0)) := by
  obtain ⟨hlf, hb, hg, rfl, rfl⟩ := good_all h10 h20 he
  have hml : ms.length ≤ maxLen := by unfold maxLen; omega
  have h1 := mpclonef_spec ms false ⟨hml, by omega⟩
  have hO := mpclone_spec 1 ms false ⟨hml, by omega⟩
  have h2 := ncheck_spec l b1 (bs b1 17 ms) b2 (bs b2 6 ms) ms hml h10 h20
  rw [he] at h2
  have hlen : (ms.map Mp.enc).length = ms.length := List.length_map _
  obtain ⟨hpo, hn1, hn2⟩ := ha
  have hl0 : 0 ≤ lastT ms := by
    unfold lastT
    split
    · rename_i m hm
      exact (hg.tm m (List.mem_of_getElem? hm)).1
    · exact Int.le_refl _
  have hex := fun n m => hspec_ptr 4 (expire_spec l b1 b2 now ms n m hg hb hml hlf ⟨by omega, hn2⟩)
  have hyl : (yng l now ms).length ≤ ms.length := List.length_filter_le _ _
  have hgY : GoodN b1 b2 (yng l now ms) := hg.sub (List.filter_sublist (p := young l now) (l := ms))
  have hw := within_spec l b1 (bs b1 17 (yng l now ms)) b2 (bs b2 6 (yng l now ms)) (yng l now ms) pr ad po (by unfold maxLen; omega)
  rw [hf] at hw
  have exi : True := trivial
  have hdel : True := trivial
  have hlenY : ((yng l now ms).map Mp.enc).length = (yng l now ms).length := List.length_map _
  have hlenY2 := hlenY
  have hwi : True := trivial
  have hcat : ((yng l now ms).map Mp.enc) ++ [(⟨pr, ad, po, p, now⟩ : Mp).enc] = (yng l now ms ++ [(⟨pr, ad, po, p, now⟩ : Mp)]).map Mp.enc := by rw [List.map_append]; rfl
  unfold dOut dNt rNt
  unfold dLet at h3
  clear hgY hg
  rcases hr with ⟨hp, e1, e2, e3, e4, e5⟩ | ⟨hp, e1, e2, e3, e4, e5⟩
  subst bX B1 R1 B2 R2
  have hpl := fun n m => hspec_as (hspec_ptr 4 (place2_spec n m l b1 (bs b1 17 (yng l now ms)) b2 (bs b2 6 (yng l now ms)) (yng l now ms).length (yng l now ms) pr (.inl hp))) (D' := .ptr 4 n 6 0 1) (fun K w v h => by rw [hp] at h; exact ptr_label (show VRel K w (.ptr 0 n 6 0 1) v from h))
  rotate_left
  subst bX B1 R1 B2 R2
  have hpl := fun n m => hspec_as (hspec_ptr 4 (place2_spec n m l b1 (bs b1 17 (yng l now ms)) b2 (bs b2 6 (yng l now ms)) (yng l now ms).length (yng l now ms) pr (.inr hp))) (D' := .ptr 4 n 6 0 3) (fun K w v h => by rw [hp] at h; exact ptr_label (show VRel K w (.ptr 0 n 6 0 3) v from h))
  all_goals
    rw [hp] at h3
    generalize yng l now ms = Y at *
    generalize bs b1 17 Y = T1 at *
    generalize bs b2 6 Y = T2 at *
    generalize bs b1 17 ms = S1 at *
    generalize bs b2 6 ms = S2 at *
    have nf1 := fun g => nf_mp g ms
    have nf2 := fun g => nf_mp g (Y ++ [(⟨pr, ad, po, p, now⟩ : Mp)])
    constructor
    all_goals
      intro hne
      by_cases hk : 0 < ms.length
      obtain ⟨ml, hm1, hm2⟩ := last_at ms hk
      rw [hm2] at hn1
      have exl := xget_mp hm1
      have hw1 : IntKind.i64.wrap ((ms.length : Int) - 1) = ((ms.length - 1 : Nat) : Int) := (IntWalk.i64_in _ (by omega)).trans (by omega)
      have hix := Int.toNat_natCast (ms.length - 1)
      rotate_left
      have hw1 : True := trivial
      have hix : True := trivial
      have exl : True := trivial
      have hl00 : lastT ms = 0 := by unfold lastT; rw [List.getElem?_eq_none (by omega)]
      rw [hl00] at hn1
      all_goals
        refine hspec_fn Tryd.func5 rfl ok_nat_Out okr_nat_Out rfl (by kernel_rfl) ?_
        intro Γ hW0 hN0 hL0
        have hW := hW0 rfl
        clear hW0 hN0 hL0
        unfold x_nat_Out r_nat_Out
        refine go_seq ?_
        repeat' (first
          | (with_reducible first | refine go_region ?_ | refine go_regionD mixed_ok ?_ | refine go_cond ?_ | refine go_skip ?_ | refine go_block ?_ | refine nx_code ?_ | refine nx_block ?_ | refine go_ret ?_ | refine nx_nil ?_ | refine go_exit ?_ | refine ex_code ?_ | refine ex_loop ?_ | refine ex_here ?_)
          | ((with_reducible refine ex_past ?_ ?_); (exact by decide))
          | ((with_reducible refine endD_intro ?_ ?_); (exact by kernel_rfl))
          | ((with_reducible refine runR_n ?_ ?_); exact auN)
          | fail
          | (dsimp only [run, undef, zipO, runR_ok, runR_t, runR_f, gd, gd2, skipR, ex1, pickR, boxR, loadR, loadO, storeR, storeO, nilR, fieldAR, fieldR, partOf, binR, intBin, unR, boolR, kindEq, shiftOp, onlyIf, orB, convR, extR, lenR, indexSlR, gidxR, putE, updL, keysOf, lget, lset, evT, evs, Env.get, Env.set, N8.get, N8.set, env0, cellsD, oneD, oneV, andB, allOne, lenB, mapV, dget, ddrop, dtake, splice, xget, xset, partsD, partsOk, partsE, partsEOk, repl, elemsR, elemsS, elemsO, xdrop, xtake, allOnes, appN, appOwn, appNew, appY, cellEq_i, consO, cmpAll, allB, negB, eqsO, eqsR, minR, evO, bndO, keepB, snapCut, slCut, nilCut, sliceR, isS, isnilL, isnilX, isnilR, makeR, clearO, clearR, sliceW1, sliceW2, sliceW3, sliceWR, appWO, appWR, isnilPR, appD, callvR, cond, condK_t, condK_f, argsE, slots0, List.length_cons, List.length_nil, Bool.true_or, Bool.false_or, Bool.or_true, Bool.or_false, bnf, bnt, Nat.add_zero, Nat.zero_add, Nat.reduceAdd, Nat.reduceMul, Int.reduceToNat, endS])
          | (with_reducible refine runR_b (fun h => ?_) (fun h => ?_) <;> first | exact auH | simp only [h, runR_t, runR_f])
          | (with_reducible refine condK_bl ?_ ?_)
          | (with_reducible refine condK_b (fun h => ?_) (fun h => ?_) <;> first | exact auH | skip)
          | fail)
        refine go_seq ?_
        repeat' (first
          | (with_reducible first | refine go_region ?_ | refine go_regionD mixed_ok ?_ | refine go_cond ?_ | refine go_skip ?_ | refine go_block ?_ | refine nx_code ?_ | refine nx_block ?_ | refine go_ret ?_ | refine nx_nil ?_ | refine go_exit ?_ | refine ex_code ?_ | refine ex_loop ?_ | refine ex_here ?_)
          | ((with_reducible refine ex_past ?_ ?_); (exact by decide))
          | ((with_reducible refine endD_intro ?_ ?_); (exact by kernel_rfl))
          | ((with_reducible refine runR_n ?_ ?_); exact auN)
          | (first | (with_reducible refine runR_call h1 ?_))
          | (dsimp only [run, undef, zipO, runR_ok, runR_t, runR_f, gd, gd2, skipR, ex1, pickR, boxR, loadR, loadO, storeR, storeO, nilR, fieldAR, fieldR, partOf, binR, intBin, unR, boolR, kindEq, shiftOp, onlyIf, orB, convR, extR, lenR, indexSlR, gidxR, putE, updL, keysOf, lget, lset, evT, evs, Env.get, Env.set, N8.get, N8.set, env0, cellsD, oneD, oneV, andB, allOne, lenB, mapV, dget, ddrop, dtake, splice, xget, xset, partsD, partsOk, partsE, partsEOk, repl, elemsR, elemsS, elemsO, xdrop, xtake, allOnes, appN, appOwn, appNew, appY, cellEq_i, consO, cmpAll, allB, negB, eqsO, eqsR, minR, evO, bndO, keepB, snapCut, slCut, nilCut, sliceR, isS, isnilL, isnilX, isnilR, makeR, clearO, clearR, sliceW1, sliceW2, sliceW3, sliceWR, appWO, appWR, isnilPR, appD, callvR, cond, condK_t, condK_f, argsE, slots0, List.length_cons, List.length_nil, Bool.true_or, Bool.false_or, Bool.or_true, Bool.or_false, bnf, bnt, Nat.add_zero, Nat.zero_add, Nat.reduceAdd, Nat.reduceMul, Int.reduceToNat, endS])
          | (with_reducible refine runR_b (fun h => ?_) (fun h => ?_) <;> first | exact auH | simp only [h, runR_t, runR_f])
          | (with_reducible refine condK_bl ?_ ?_)
          | (with_reducible refine condK_b (fun h => ?_) (fun h => ?_) <;> first | exact auH | skip)
          | fail)
        repeat' (first
          | (with_reducible first | refine go_seq ?_ | refine go_region ?_ | refine go_regionD mixed_ok ?_ | refine go_cond ?_ | refine go_skip ?_ | refine go_block ?_ | refine nx_code ?_ | refine nx_block ?_ | refine go_ret ?_ | refine nx_nil ?_ | refine go_exit ?_ | refine ex_code ?_ | refine ex_loop ?_ | refine ex_here ?_)
          | ((with_reducible refine ex_past ?_ ?_); (exact by decide))
          | ((with_reducible refine endD_intro ?_ ?_); (exact by kernel_rfl))
          | ((with_reducible refine runR_n ?_ ?_); exact auN)
          | (first | (with_reducible refine runR_call h2 ?_) | (with_reducible refine runR_callO 1 hO ?_) | (refine runR_callHH 4 1 (by decide) rfl rfl (hex _ _) (fun _ _ _ h => h) ?_) | (refine runR_callF 1 rfl hw ⟨⟨rfl, rfl, rfl, rfl, rfl, .inl ⟨rfl, rfl, by simp, by rw [xall (by simp)]⟩, rfl⟩, rfl, rfl, rfl, rfl⟩ rfl ?_) | (refine runR_callH 1 rfl (hdel _) (fun _ _ _ h => h) ?_) | (refine runR_callHH 4 1 (by decide) rfl rfl (hpl _ _) (fun _ _ _ h => h) ?_) | (with_reducible refine runR_call h3 ?_) | (simp only [hlen, hlenY, hw1, hwi]))
          | (dsimp only [run, undef, zipO, runR_ok, runR_t, runR_f, gd, gd2, skipR, ex1, pickR, boxR, loadR, loadO, storeR, storeO, nilR, fieldAR, fieldR, partOf, binR, intBin, unR, boolR, kindEq, shiftOp, onlyIf, orB, convR, extR, lenR, indexSlR, gidxR, putE, updL, keysOf, lget, lset, evT, evs, Env.get, Env.set, N8.get, N8.set, env0, cellsD, oneD, oneV, andB, allOne, lenB, mapV, dget, ddrop, dtake, splice, xget, xset, partsD, partsOk, partsE, partsEOk, repl, elemsR, elemsS, elemsO, xdrop, xtake, allOnes, appN, appOwn, appNew, appY, cellEq_i, consO, cmpAll, allB, negB, eqsO, eqsR, minR, evO, bndO, keepB, snapCut, slCut, nilCut, sliceR, isS, isnilL, isnilX, isnilR, makeR, clearO, clearR, sliceW1, sliceW2, sliceW3, sliceWR, appWO, appWR, isnilPR, appD, callvR, cond, condK_t, condK_f, argsE, slots0, List.length_cons, List.length_nil, Bool.true_or, Bool.false_or, Bool.or_true, Bool.or_false, bnf, bnt, Nat.add_zero, Nat.zero_add, Nat.reduceAdd, Nat.reduceMul, Int.reduceToNat, endS])
          | (with_reducible refine runR_b (fun h => ?_) (fun h => ?_) <;> first | exact auH | simp only [h, runR_t, runR_f])
          | (with_reducible refine condK_bl ?_ ?_)
          | (with_reducible refine condK_b (fun h => ?_) (fun h => ?_) <;> first | exact auH | skip)
          | (first | (simp only [hix, exl]) | (simp only [Int.toNat_natCast, Nat.zero_add, exi]) | (refine runR_n ⟨by (try rw [hlenY]); omega, by trivial⟩ ?_) | (refine runR_n ⟨by trivial, by unfold room maxLen; (try rw [hlenY2]); simp; omega⟩ ?_) | fail))
        (all_goals first | exact auP | skip)
        all_goals first
          | (exfalso; simp at h; done)
          | skip
        first
          | ((with_reducible refine ret_spec2 (by (try dsimp only [RetOK, resOk, resDs, resD, resV, cellV, cellO, cellP, cellOk, htake, nfD, nfL, nfLL, nfH, lget, partOf, xget, ddrop, dtake, dget, Env.get, N8.get, env0, List.length_cons, List.length_nil, Env.set, N8.set, lset, updL]); (repeat' (first | exact trivial | exact rfl | exact nfLL_map (fun x => by simp [nfL, nfD]) | exact nf1 _ | exact nf2 _ | decide | apply And.intro))) ?_); (try dsimp only [RetOK, resOk, resDs, resD, resV, cellV, cellO, cellP, cellOk, htake, nfD, nfL, nfLL, nfH, lget, partOf, xget, ddrop, dtake, dget, Env.get, N8.get, env0, List.length_cons, List.length_nil, Env.set, N8.set, lset, updL]); done)
          | (rw [hcat]; refine retq_le (leG_freezeO hW 3 8 (by decide) (ys := [[.v (.int .i64 l), .v (.int .i64 _), .v (.int .u64 _), .v (.int .i64 _), .v (.int .u64 _), .snap 5 ((Y ++ [(⟨pr, ad, po, p, now⟩ : Mp)]).map Mp.enc) false]]) rfl rfl ⟨⟨rfl, rfl, rfl, rfl, rfl, Or.inl ⟨rfl, rfl, by simp, by rw [xall (by simp)]⟩, rfl⟩, rfl⟩) ?_; (with_reducible refine ret_spec2 (by (try dsimp only [RetOK, resOk, resDs, resD, resV, cellV, cellO, cellP, cellOk, htake, nfD, nfL, nfLL, nfH, lget, partOf, xget, ddrop, dtake, dget, Env.get, N8.get, env0, List.length_cons, List.length_nil, Env.set, N8.set, lset, updL]); (repeat' (first | exact trivial | exact rfl | exact nfLL_map (fun x => by simp [nfL, nfD]) | exact nf1 _ | exact nf2 _ | decide | apply And.intro))) ?_); (try dsimp only [RetOK, resOk, resDs, resD, resV, cellV, cellO, cellP, cellOk, htake, nfD, nfL, nfLL, nfH, lget, partOf, xget, ddrop, dtake, dget, Env.get, N8.get, env0, List.length_cons, List.length_nil, Env.set, N8.set, lset, updL]); try rw [hne])
end
end Go.Proofs.YtegnfpmbmbbaiaaDoor
