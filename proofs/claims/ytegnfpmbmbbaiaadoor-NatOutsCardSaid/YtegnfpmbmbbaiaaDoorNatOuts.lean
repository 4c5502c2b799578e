/-
  NatOuts: whatever is handed in, the law's function returns true. The package-level variable that the row lists holds what the row says.
-/
import Derived.Test.YtegnfpmbmbbaiaaDoorNatI
import Derived.Test.YtegnfpmbmbbaiaaDoorNatH
import Derived.Test.YtegnfpmbmbbaiaaDoorDoor
namespace Go.Proofs.YtegnfpmbmbbaiaaDoor
open Go.ChangeShapes Go.WideShapes Go.ChangeAt Go.RowKit
set_option linter.unusedVariables false
set_option linter.unusedSimpArgs false
def shsNatOuts : List Sh := [.cons (.int .i64) (.cons (.cons (.int .i64) (.cons (.int .u64) (.nil))) (.cons (.cons (.int .i64) (.cons (.int .u64) (.nil))) (.cons (.slice 40 5 (.cons (.int .i64) (.cons (.int .u32) (.cons (.int .i64) (.cons (.int .i64) (.cons (.int .i64) (.nil))))))) (.nil)))), .int .i64, .int .u32, .int .i64, .int .i64]
set_option maxHeartbeats 1000000 in
theorem mpeq_same (l : List Mp) (c c' : Bool) (hl : l.length ≤ maxLen) : Spec Tryd.prog 28 [.snap 5 (l.map Mp.enc) c, .snap 5 (l.map Mp.enc) c'] (.v (.bool true)) := by
  unfold maxLen at hl
  refine hspec_fn Tryd.func28 rfl ok_slices_Equal_api_Map okr_slices_Equal_api_Map rfl (by kernel_rfl) ?_
  intro Γ hW0 hN0 hL0
  have hW := hW0 rfl
  clear hW0 hN0 hL0
  unfold x_slices_Equal_api_Map r_slices_Equal_api_Map
  repeat' (first
    | (with_reducible first | refine go_seq ?_ | refine go_region ?_ | refine go_regionD mixed_ok ?_ | refine go_cond ?_ | refine go_skip ?_ | refine go_block ?_ | refine nx_code ?_ | refine nx_block ?_ | refine go_ret ?_ | refine nx_nil ?_ | refine go_exit ?_ | refine ex_code ?_ | refine ex_loop ?_ | refine ex_here ?_)
    | ((with_reducible refine ex_past ?_ ?_); (exact by decide))
    | ((with_reducible refine endD_intro ?_ ?_); (exact by kernel_rfl))
    | ((with_reducible refine runR_n ?_ ?_); exact auN)
    | fail
    | (dsimp only [run, undef, zipO, runR_ok, runR_t, runR_f, gd, gd2, skipR, ex1, pickR, boxR, loadR, loadO, storeR, storeO, nilR, fieldAR, fieldR, partOf, binR, intBin, unR, boolR, kindEq, shiftOp, onlyIf, orB, convR, extR, lenR, indexSlR, gidxR, putE, updL, keysOf, lget, lset, evT, evs, Env.get, Env.set, N8.get, N8.set, env0, cellsD, oneD, oneV, andB, allOne, lenB, mapV, dget, ddrop, dtake, splice, xget, xset, partsD, partsOk, partsE, partsEOk, repl, elemsR, elemsS, elemsO, xdrop, xtake, allOnes, appN, appOwn, appNew, appY, cellEq_i, consO, cmpAll, allB, negB, eqsO, eqsR, minR, evO, bndO, keepB, snapCut, slCut, nilCut, sliceR, isS, isnilL, isnilX, isnilR, makeR, clearO, clearR, sliceW1, sliceW2, sliceW3, sliceWR, appWO, appWR, isnilPR, appD, callvR, cond, condK_t, condK_f, argsE, slots0, List.length_cons, List.length_nil, Bool.true_or, Bool.false_or, Bool.or_true, Bool.or_false, bnf, bnt, Nat.add_zero, Nat.zero_add, Nat.reduceAdd, Nat.reduceMul, Int.reduceToNat, endS])
    | (with_reducible refine runR_b (fun h => ?_) (fun h => ?_) <;> first | exact auH | simp only [h, runR_t, runR_f])
    | (with_reducible refine condK_bl ?_ ?_)
    | (with_reducible refine condK_b (fun h => ?_) (fun h => ?_) <;> first | exact auH | skip)
    | fail)
  refine go_loopH (α := Nat) (fun k => [(⟨.d0, .d1, .d5⟩, .v (.int .i64 (k : Nat)))]) (fun _ => []) (fun _ => Γ.g0) (fun k => l.length - k) (fun k => k ≤ l.length) 0 (Nat.zero_le _) ?_ ?_
  · skip
    refine le_mk ?_ ?_ (Nat.le_refl _)
    all_goals dsimp only [leE, leC, leR, leN, leD, leH, leO, writesX, dstsX, appS, havE, setsE, Env.get, Env.set, N8.get, N8.set, updL, lget, lset, env0]
    all_goals (repeat' (first | exact trivial | exact rfl | apply And.intro))
  · rintro k hk
    dsimp only [writesX, dstsX, appS, havE, setsE, Env.get, Env.set, N8.get, N8.set, updL, lget, lset, env0]
    by_cases hlt : k < l.length
    · obtain ⟨t, ht⟩ : ∃ t, l[k]? = some t := ⟨_, List.getElem?_eq_getElem hlt⟩
      have ex := xget_map Mp.enc l k t ht
      repeat' (first
        | (with_reducible first | refine go_seq ?_ | refine go_region ?_ | refine go_regionD mixed_ok ?_ | refine go_cond ?_ | refine go_skip ?_ | refine go_block ?_ | refine nx_code ?_ | refine nx_block ?_ | refine go_ret ?_ | refine nx_nil ?_ | refine go_exit ?_ | refine ex_code ?_ | refine ex_loop ?_ | refine ex_here ?_)
        | ((with_reducible refine ex_past ?_ ?_); (exact by decide))
        | ((with_reducible refine endD_intro ?_ ?_); (exact by kernel_rfl))
        | ((with_reducible refine runR_n ?_ ?_); exact auN)
        | fail
        | (dsimp only [run, undef, zipO, runR_ok, runR_t, runR_f, gd, gd2, skipR, ex1, pickR, boxR, loadR, loadO, storeR, storeO, nilR, fieldAR, fieldR, partOf, binR, intBin, unR, boolR, kindEq, shiftOp, onlyIf, orB, convR, extR, lenR, indexSlR, gidxR, putE, updL, keysOf, lget, lset, evT, evs, Env.get, Env.set, N8.get, N8.set, env0, cellsD, oneD, oneV, andB, allOne, lenB, mapV, dget, ddrop, dtake, splice, xget, xset, partsD, partsOk, partsE, partsEOk, repl, elemsR, elemsS, elemsO, xdrop, xtake, allOnes, appN, appOwn, appNew, appY, cellEq_i, consO, cmpAll, allB, negB, eqsO, eqsR, minR, evO, bndO, keepB, snapCut, slCut, nilCut, sliceR, isS, isnilL, isnilX, isnilR, makeR, clearO, clearR, sliceW1, sliceW2, sliceW3, sliceWR, appWO, appWR, isnilPR, appD, callvR, cond, condK_t, condK_f, argsE, slots0, List.length_cons, List.length_nil, Bool.true_or, Bool.false_or, Bool.or_true, Bool.or_false, bnf, bnt, Nat.add_zero, Nat.zero_add, Nat.reduceAdd, Nat.reduceMul, Int.reduceToNat, endS])
        | (with_reducible refine runR_b (fun h => ?_) (fun h => ?_) <;> first | exact auH | simp only [h, runR_t, runR_f])
        | (with_reducible refine condK_bl ?_ ?_)
        | (with_reducible refine condK_b (fun h => ?_) (fun h => ?_) <;> first | exact auH | skip)
        | (simp only [Int.toNat_natCast, ex]))
      (all_goals first | exact auP | skip)
      all_goals first
        | (exfalso; simp at h; done)
        | (refine nx_loop ⟨k + 1, Nat.succ_le_of_lt hlt, Nat.sub_lt_sub_left hlt (Nat.lt_succ_self k), ?_⟩
           (refine le_mk ?_ ?_ (Nat.le_refl _)); (all_goals dsimp only [leE, leC, leR, leN, leD, leH, leO, writesX, dstsX, appS, havE, setsE, Env.get, Env.set, N8.get, N8.set, updL, lget, lset, env0]); (all_goals (repeat' (first | exact trivial | exact rfl | apply And.intro)))
           all_goals exact dint ((IntWalk.i64_in _ (by omega)).trans (by omega)))
    · skip
      repeat' (first
        | (with_reducible first | refine go_seq ?_ | refine go_region ?_ | refine go_regionD mixed_ok ?_ | refine go_cond ?_ | refine go_skip ?_ | refine go_block ?_ | refine nx_code ?_ | refine nx_block ?_ | refine go_ret ?_ | refine nx_nil ?_ | refine go_exit ?_ | refine ex_code ?_ | refine ex_loop ?_ | refine ex_here ?_)
        | ((with_reducible refine ex_past ?_ ?_); (exact by decide))
        | ((with_reducible refine endD_intro ?_ ?_); (exact by kernel_rfl))
        | ((with_reducible refine runR_n ?_ ?_); exact auN)
        | fail
        | (dsimp only [run, undef, zipO, runR_ok, runR_t, runR_f, gd, gd2, skipR, ex1, pickR, boxR, loadR, loadO, storeR, storeO, nilR, fieldAR, fieldR, partOf, binR, intBin, unR, boolR, kindEq, shiftOp, onlyIf, orB, convR, extR, lenR, indexSlR, gidxR, putE, updL, keysOf, lget, lset, evT, evs, Env.get, Env.set, N8.get, N8.set, env0, cellsD, oneD, oneV, andB, allOne, lenB, mapV, dget, ddrop, dtake, splice, xget, xset, partsD, partsOk, partsE, partsEOk, repl, elemsR, elemsS, elemsO, xdrop, xtake, allOnes, appN, appOwn, appNew, appY, cellEq_i, consO, cmpAll, allB, negB, eqsO, eqsR, minR, evO, bndO, keepB, snapCut, slCut, nilCut, sliceR, isS, isnilL, isnilX, isnilR, makeR, clearO, clearR, sliceW1, sliceW2, sliceW3, sliceWR, appWO, appWR, isnilPR, appD, callvR, cond, condK_t, condK_f, argsE, slots0, List.length_cons, List.length_nil, Bool.true_or, Bool.false_or, Bool.or_true, Bool.or_false, bnf, bnt, Nat.add_zero, Nat.zero_add, Nat.reduceAdd, Nat.reduceMul, Int.reduceToNat, endS])
        | (with_reducible refine runR_b (fun h => ?_) (fun h => ?_) <;> first | exact auH | simp only [h, runR_t, runR_f])
        | (with_reducible refine condK_bl ?_ ?_)
        | (with_reducible refine condK_b (fun h => ?_) (fun h => ?_) <;> first | exact auH | skip)
        | fail)
      (all_goals first | exact auP | skip)
      all_goals with_reducible refine ret_spec2 (by (try dsimp only [RetOK, resOk, resDs, resD, resV, cellV, cellO, cellP, cellOk, htake, nfD, nfL, nfLL, nfH, lget, partOf, xget, ddrop, dtake, dget, Env.get, N8.get, env0, List.length_cons, List.length_nil, Env.set, N8.set, lset, updL]); (repeat' (first | exact trivial | exact rfl | exact nfLL_map (fun x => by simp [nfL, nfD, nfD]) | decide | apply And.intro))) ?_
      all_goals (try dsimp only [RetOK, resOk, resDs, resD, resV, cellV, cellO, cellP, cellOk, htake, nfD, nfL, nfLL, nfH, lget, partOf, xget, ddrop, dtake, dget, Env.get, N8.get, env0, List.length_cons, List.length_nil, Env.set, N8.set, lset, updL])
      all_goals (try simp only [hsM] at *)
theorem samen_spec (l b1 : Int) (t1 : Nat) (b2 : Int) (t2 : Nat) (ms : List Mp) (hl : ms.length ≤ maxLen) : Spec Tryd.prog 9 [dNt l b1 t1 b2 t2 ms, dNt l b1 t1 b2 t2 ms] (.v (.bool true)) := by
  have h1 := mpeq_same ms false false hl
  refine hspec_fn Tryd.func9 rfl ok_custref_SameNat okr_custref_SameNat rfl (by kernel_rfl) ?_
  intro Γ hW0 hN0 hL0
  have hW := hW0 rfl
  clear hW0 hN0 hL0
  unfold x_custref_SameNat r_custref_SameNat
  repeat' (first
    | (with_reducible first | refine go_seq ?_ | refine go_region ?_ | refine go_regionD mixed_ok ?_ | refine go_cond ?_ | refine go_skip ?_ | refine go_block ?_ | refine nx_code ?_ | refine nx_block ?_ | refine go_ret ?_ | refine nx_nil ?_ | refine go_exit ?_ | refine ex_code ?_ | refine ex_loop ?_ | refine ex_here ?_)
    | ((with_reducible refine ex_past ?_ ?_); (exact by decide))
    | ((with_reducible refine endD_intro ?_ ?_); (exact by kernel_rfl))
    | ((with_reducible refine runR_n ?_ ?_); exact auN)
    | (with_reducible refine runR_call h1 ?_)
    | (dsimp only [run, undef, zipO, runR_ok, runR_t, runR_f, gd, gd2, skipR, ex1, pickR, boxR, loadR, loadO, storeR, storeO, nilR, fieldAR, fieldR, partOf, binR, intBin, unR, boolR, kindEq, shiftOp, onlyIf, orB, convR, extR, lenR, indexSlR, gidxR, putE, updL, keysOf, lget, lset, evT, evs, Env.get, Env.set, N8.get, N8.set, env0, cellsD, oneD, oneV, andB, allOne, lenB, mapV, dget, ddrop, dtake, splice, xget, xset, partsD, partsOk, partsE, partsEOk, repl, elemsR, elemsS, elemsO, xdrop, xtake, allOnes, appN, appOwn, appNew, appY, cellEq_i, consO, cmpAll, allB, negB, eqsO, eqsR, minR, evO, bndO, keepB, snapCut, slCut, nilCut, sliceR, isS, isnilL, isnilX, isnilR, makeR, clearO, clearR, sliceW1, sliceW2, sliceW3, sliceWR, appWO, appWR, isnilPR, appD, callvR, cond, condK_t, condK_f, argsE, slots0, List.length_cons, List.length_nil, Bool.true_or, Bool.false_or, Bool.or_true, Bool.or_false, bnf, bnt, Nat.add_zero, Nat.zero_add, Nat.reduceAdd, Nat.reduceMul, Int.reduceToNat, endS])
    | (with_reducible refine runR_b (fun h => ?_) (fun h => ?_) <;> first | exact auH | simp only [h, runR_t, runR_f])
    | (with_reducible refine condK_bl ?_ ?_)
    | (with_reducible refine condK_b (fun h => ?_) (fun h => ?_) <;> first | exact auH | skip)
    | fail)
  (all_goals first | exact auP | skip)
  all_goals first
    | (exfalso; simp at h; done)
    | (exfalso; simp_all; done)
    | skip
  all_goals with_reducible refine ret_spec2 (by (try dsimp only [RetOK, resOk, resDs, resD, resV, cellV, cellO, cellP, cellOk, htake, nfD, nfL, nfLL, nfH, lget, partOf, xget, ddrop, dtake, dget, Env.get, N8.get, env0, List.length_cons, List.length_nil, Env.set, N8.set, lset, updL]); (repeat' (first | exact trivial | exact rfl | exact nfLL_map (fun x => by simp [nfL, nfD, nfD]) | decide | apply And.intro))) ?_
  all_goals (try dsimp only [RetOK, resOk, resDs, resD, resV, cellV, cellO, cellP, cellOk, htake, nfD, nfL, nfLL, nfH, lget, partOf, xget, ddrop, dtake, dget, Env.get, N8.get, env0, List.length_cons, List.length_nil, Env.set, N8.set, lset, updL])
  all_goals (try simp only [hsM] at *)
theorem mem_but {pr ad po : Int} {ms : List Mp} {m : Mp} (h : m ∈ butP pr ad po ms) : m ∈ ms ∧ isP pr ad po m = false := by
  obtain ⟨h1, h2⟩ := List.mem_filter.1 h
  refine ⟨h1, ?_⟩
  cases hq : isP pr ad po m with
  | false => rfl
  | true => rw [hq] at h2; cases h2
/-- The one that was there comes to lie behind all. -/
theorem moved_all {b1 b2 pr ad po now : Int} {Y : List Mp} (hg : GoodN b1 b2 Y) {i : Nat} {m0 : Mp} (hi : Y[i]? = some m0) (hm : isP pr ad po m0 = true) (hb1 : 64 ≤ b1) (hb2 : 64 ≤ b2) :
    outF pr ad po Y (-1) = m0.ou ∧ 0 ≤ m0.ou ∧ inR b1 17 (butP pr ad po Y ++ [⟨pr, ad, po, m0.ou, now⟩]) ∧ inR b2 6 (butP pr ad po Y ++ [⟨pr, ad, po, m0.ou, now⟩]) ∧ ((butP pr ad po Y ++ [(⟨pr, ad, po, m0.ou, now⟩ : Mp)]).map keyE).Nodup ∧
      bs b1 17 (butP pr ad po Y ++ [⟨pr, ad, po, m0.ou, now⟩]) = bs b1 17 Y ∧ bs b2 6 (butP pr ad po Y ++ [⟨pr, ad, po, m0.ou, now⟩]) = bs b2 6 Y := by
  have hlt : i < Y.length := (List.getElem?_eq_some_iff.1 hi).1
  have e : Y = Y.take i ++ m0 :: Y.drop (i + 1) := by
    have : Y.drop i = m0 :: Y.drop (i + 1) := by rw [List.drop_eq_getElem_cons hlt, show Y[i] = m0 from Option.some.inj ((List.getElem?_eq_getElem hlt).symm.trans hi)]
    rw [← this, List.take_append_drop]
  have hb := but_at hg hi hm
  have hmem : m0 ∈ Y := List.mem_of_getElem? hi
  have hpr := (of_decide_eq_true hm).1
  have hno : ∀ m ∈ Y.take i ++ Y.drop (i + 1), isP pr ad po m = false := fun m h => (mem_but (by rw [hb]; exact h)).2
  have hkey : keyE (⟨pr, ad, po, m0.ou, now⟩ : Mp) = keyE m0 := by simp [keyE, hpr]
  have hw : ∀ b p, wM b p (⟨pr, ad, po, m0.ou, now⟩ : Mp) = wM b p m0 := fun b p => by simp [wM, hpr]
  have hbs : ∀ b p, bs b p (Y.take i ++ Y.drop (i + 1) ++ [⟨pr, ad, po, m0.ou, now⟩]) = bs b p Y := fun b p => by
    conv => rhs; rw [e]
    simp only [bs_app, bs, hw]
    omega
  refine ⟨?_, ?_, ?_, ?_, ?_, by rw [hb]; exact hbs _ _, by rw [hb]; exact hbs _ _⟩
  · rw [e, outF_app, outF, hm, if_pos rfl]
    exact outF_none _ (fun m h => hno m (List.mem_append.2 (.inr h)))
  · rcases hg.pr m0 hmem with h | h
    · have := hg.r1 m0 hmem h; omega
    · have := hg.r2 m0 hmem h; omega
  · intro m h hp
    rcases List.mem_append.1 h with h | h
    · exact hg.r1 m (mem_but h).1 hp
    · obtain rfl := List.mem_singleton.1 h
      exact hg.r1 m0 hmem (hpr.trans hp)
  · intro m h hp
    rcases List.mem_append.1 h with h | h
    · exact hg.r2 m (mem_but h).1 hp
    · obtain rfl := List.mem_singleton.1 h
      exact hg.r2 m0 hmem (hpr.trans hp)
  · rw [hb]
    have hn := hg.nd
    rw [e] at hn
    have hp : (Y.take i ++ m0 :: Y.drop (i + 1)).Perm (Y.take i ++ Y.drop (i + 1) ++ [m0]) := List.perm_middle.trans (List.perm_append_singleton m0 _).symm
    have h2 := (hp.map keyE).nodup_iff.1 hn
    rw [List.map_append, List.map_cons, List.map_nil, hkey]
    rw [List.map_append, List.map_cons, List.map_nil] at h2
    exact h2
/-- One more behind all. -/
theorem more_all {b1 b2 ad po now b pr : Int} {Y : List Mp} (hg : GoodN b1 b2 Y) {K : Nat} (hK : K < 64) (hpr : (pr = 17 ∧ b = b1) ∨ (pr = 6 ∧ b = b2)) (hc : (bs b pr Y).testBit K = false) :
    inR b1 17 (Y ++ [⟨pr, ad, po, b + K, now⟩]) ∧ inR b2 6 (Y ++ [⟨pr, ad, po, b + K, now⟩]) ∧ ((Y ++ [(⟨pr, ad, po, b + K, now⟩ : Mp)]).map keyE).Nodup := by
  refine ⟨?_, ?_, ?_⟩
  · intro m h hp
    rcases List.mem_append.1 h with h | h
    · exact hg.r1 m h hp
    · obtain rfl := List.mem_singleton.1 h
      dsimp only at hp ⊢
      omega
  · intro m h hp
    rcases List.mem_append.1 h with h | h
    · exact hg.r2 m h hp
    · obtain rfl := List.mem_singleton.1 h
      dsimp only at hp ⊢
      omega
  · rw [List.map_append, List.nodup_append]
    refine ⟨hg.nd, by simp, fun a ha c hc' => ?_⟩
    simp only [List.map_cons, List.map_nil, List.mem_singleton] at hc'
    subst hc'
    rintro rfl
    obtain ⟨m, hm, hk⟩ := List.mem_map.1 ha
    simp only [keyE, Prod.mk.injEq] at hk
    have hr : inR b pr Y := by
      rcases hpr with ⟨rfl, rfl⟩ | ⟨rfl, rfl⟩
      · exact hg.r1
      · exact hg.r2
    rw [(bs_bit b pr Y hr hg.nd).2, List.any_eq_false] at hc
    have := hc m hm
    simp only [decide_eq_true_eq, not_and] at this
    exact this hk.1 (by omega)
section
variable (l b1 : Int) (t1 : Nat) (b2 : Int) (t2 : Nat) (ms : List Mp) (pr ad po now : Int) (hl : ms.length * 40 ≤ 140737488351232) (h10 : t1 < 18446744073709551616) (h20 : t2 < 18446744073709551616)
include hl h10 h20
theorem both_out : ∃ (T1 T2 : Nat) (MS : List Mp) (p e : Int), MS.length ≤ maxLen ∧ Spec Tryd.prog 5 [dNt l b1 t1 b2 t2 ms, .v (.int .i64 pr), .v (.int .u32 ad), .v (.int .i64 po), .v (.int .i64 now)] (dOut l b1 T1 b2 T2 MS p e) ∧
    Spec Tryd.prog 6 [dNt l b1 t1 b2 t2 ms, .v (.int .i64 pr), .v (.int .u32 ad), .v (.int .i64 po), .v (.int .i64 now)] (dOut l b1 T1 b2 T2 MS p e) := by
  have hml : ms.length ≤ maxLen := by unfold maxLen; omega
  by_cases he : natErr l b1 t1 b2 t2 ms = 0
  rotate_left
  · exact ⟨_, _, _, _, _, hml, out_bad l b1 t1 b2 t2 ms pr ad po now hl h10 h20 rfl he, nout_bad l b1 t1 b2 t2 ms pr ad po now hl h10 h20 rfl he⟩
  by_cases hp : pr = 6 ∨ pr = 17
  rotate_left
  · exact ⟨_, _, _, _, _, hml, out_proto l b1 t1 b2 t2 ms pr ad po now hl h10 h20 he hp, nout_proto l b1 t1 b2 t2 ms pr ad po now hl h10 h20 he hp⟩
  by_cases ha : (0 ≤ po ∧ po ≤ 65535) ∧ lastT ms ≤ now ∧ now ≤ 1099511627776
  rotate_left
  · exact ⟨_, _, _, _, _, hml, out_arg l b1 t1 b2 t2 ms pr ad po now hl h10 h20 he hp ha, nout_arg l b1 t1 b2 t2 ms pr ad po now hl h10 h20 he hp ha⟩
  obtain ⟨hlf, hb, hg, -, -⟩ := good_all h10 h20 he
  have hbr1 := (pOk_rng' hb.1).1
  have hbr2 := (pOk_rng' hb.2).1
  have hyl : (yng l now ms).length ≤ ms.length := List.length_filter_le _ _
  have hgY : GoodN b1 b2 (yng l now ms) := hg.sub (List.filter_sublist (p := young l now) (l := ms))
  rcases find_first1 (isP pr ad po) (yng l now ms) with ⟨q1, q2⟩ | ⟨i, m0, q1, q2, q3⟩
  · have hno : ∀ m ∈ yng l now ms, isP pr ad po m = false := fun m hm => by simpa using List.find?_eq_none.1 q2 m hm
    have hbe := but_none hno
    have hoe := outF_none (-1) hno
    have hYl : ∀ x : Mp, (yng l now ms ++ [x]).length ≤ maxLen := fun x => by unfold maxLen; simp; omega
    rcases hp with rfl | rfl
    · have hT := (bs_bit b2 6 _ hgY.r2 hgY.nd).1
      by_cases h0 : letE b2 (bs b2 6 (yng l now ms)) po = 0
      · have hK := letK_free (b := b2) hT (letE_zero h0).2.2 po
        have hall := more_all (ad := ad) (po := po) (now := now) hgY hK.1 (.inr ⟨rfl, rfl⟩) hK.2
        obtain ⟨w1, w2⟩ : Spec Tryd.prog 20 [.agg [.v (.int .i64 b2), .v (.int .u64 (bs b2 6 (yng l now ms) : Nat))], .v (.int .i64 po)] (dLet b2 (bs b2 6 (yng l now ms) + 2 ^ letK b2 (bs b2 6 (yng l now ms)) po) (b2 + letK b2 (bs b2 6 (yng l now ms)) po) 0) ∧ Spec Tryd.prog 23 [.agg [.v (.int .i64 b2), .v (.int .u64 (bs b2 6 (yng l now ms) : Nat))], .v (.int .i64 po)] (dLet b2 (bs b2 6 (yng l now ms) + 2 ^ letK b2 (bs b2 6 (yng l now ms)) po) (b2 + letK b2 (bs b2 6 (yng l now ms)) po) 0) := by
          by_cases hc : tkd b2 (bs b2 6 (yng l now ms)) po = false ∧ b2 ≤ po ∧ po ≤ b2 + 63
          · exact ⟨plet_good1 _ _ po hT h0 hc, rlet_good1 _ _ po hT h0 hc⟩
          · exact ⟨plet_good2 _ _ po hT h0 hc, rlet_good2 _ _ po hT h0 hc⟩
        have g1 := (out_let l b1 t1 b2 t2 ms 6 ad po now hl h10 h20 he ha q1 w1 (.inr ⟨rfl, rfl, rfl, rfl, rfl, rfl⟩)).2 rfl
        have g2 := nout_let6g l b1 t1 b2 t2 ms ad po now hl h10 h20 he ha hoe (by rw [hbe]; exact hgY.r1) (by rw [hbe]; exact hgY.r2) (by rw [hbe]; exact hgY.nd) (by rw [hbe]; exact w2) rfl (by rw [hbe]; exact hall.1) (by rw [hbe]; exact hall.2.1) (by rw [hbe]; exact hall.2.2)
        rw [hbe] at g2
        refine ⟨_, _, _, _, _, hYl _, g1, ?_⟩
        have e1 : bs b1 17 (yng l now ms ++ [⟨6, ad, po, b2 + letK b2 (bs b2 6 (yng l now ms)) po, now⟩]) = bs b1 17 (yng l now ms) := by rw [bs_app]; simp [bs, wM]
        have e2 : bs b2 6 (yng l now ms ++ [⟨6, ad, po, b2 + letK b2 (bs b2 6 (yng l now ms)) po, now⟩]) = bs b2 6 (yng l now ms) + 2 ^ letK b2 (bs b2 6 (yng l now ms)) po := by
          rw [bs_app]
          simp only [bs, wM, if_true, Nat.add_zero]
          rw [show (b2 + (letK b2 (bs b2 6 (yng l now ms)) po : Int) - b2).toNat = letK b2 (bs b2 6 (yng l now ms)) po by omega]
        rw [e1, e2] at g2
        exact g2
      · refine ⟨_, _, _, _, _, hml, (out_let l b1 t1 b2 t2 ms 6 ad po now hl h10 h20 he ha q1 (plet_bad _ _ po h0) (.inr ⟨rfl, rfl, rfl, rfl, rfl, rfl⟩)).1 h0, ?_⟩
        exact nout_let6b l b1 t1 b2 t2 ms ad po now hl h10 h20 he ha hoe (by rw [hbe]; exact hgY.r1) (by rw [hbe]; exact hgY.r2) (by rw [hbe]; exact hgY.nd) (by rw [hbe]; exact rlet_bad _ _ po hT h0) h0
    · have hT := (bs_bit b1 17 _ hgY.r1 hgY.nd).1
      by_cases h0 : letE b1 (bs b1 17 (yng l now ms)) po = 0
      · have hK := letK_free (b := b1) hT (letE_zero h0).2.2 po
        have hall := more_all (ad := ad) (po := po) (now := now) hgY hK.1 (.inl ⟨rfl, rfl⟩) hK.2
        obtain ⟨w1, w2⟩ : Spec Tryd.prog 20 [.agg [.v (.int .i64 b1), .v (.int .u64 (bs b1 17 (yng l now ms) : Nat))], .v (.int .i64 po)] (dLet b1 (bs b1 17 (yng l now ms) + 2 ^ letK b1 (bs b1 17 (yng l now ms)) po) (b1 + letK b1 (bs b1 17 (yng l now ms)) po) 0) ∧ Spec Tryd.prog 23 [.agg [.v (.int .i64 b1), .v (.int .u64 (bs b1 17 (yng l now ms) : Nat))], .v (.int .i64 po)] (dLet b1 (bs b1 17 (yng l now ms) + 2 ^ letK b1 (bs b1 17 (yng l now ms)) po) (b1 + letK b1 (bs b1 17 (yng l now ms)) po) 0) := by
          by_cases hc : tkd b1 (bs b1 17 (yng l now ms)) po = false ∧ b1 ≤ po ∧ po ≤ b1 + 63
          · exact ⟨plet_good1 _ _ po hT h0 hc, rlet_good1 _ _ po hT h0 hc⟩
          · exact ⟨plet_good2 _ _ po hT h0 hc, rlet_good2 _ _ po hT h0 hc⟩
        have g1 := (out_let l b1 t1 b2 t2 ms 17 ad po now hl h10 h20 he ha q1 w1 (.inl ⟨rfl, rfl, rfl, rfl, rfl, rfl⟩)).2 rfl
        have g2 := nout_let17g l b1 t1 b2 t2 ms ad po now hl h10 h20 he ha hoe (by rw [hbe]; exact hgY.r1) (by rw [hbe]; exact hgY.r2) (by rw [hbe]; exact hgY.nd) (by rw [hbe]; exact w2) rfl (by rw [hbe]; exact hall.1) (by rw [hbe]; exact hall.2.1) (by rw [hbe]; exact hall.2.2)
        rw [hbe] at g2
        refine ⟨_, _, _, _, _, hYl _, g1, ?_⟩
        have e1 : bs b2 6 (yng l now ms ++ [⟨17, ad, po, b1 + letK b1 (bs b1 17 (yng l now ms)) po, now⟩]) = bs b2 6 (yng l now ms) := by rw [bs_app]; simp [bs, wM]
        have e2 : bs b1 17 (yng l now ms ++ [⟨17, ad, po, b1 + letK b1 (bs b1 17 (yng l now ms)) po, now⟩]) = bs b1 17 (yng l now ms) + 2 ^ letK b1 (bs b1 17 (yng l now ms)) po := by
          rw [bs_app]
          simp only [bs, wM, if_true, Nat.add_zero]
          rw [show (b1 + (letK b1 (bs b1 17 (yng l now ms)) po : Int) - b1).toNat = letK b1 (bs b1 17 (yng l now ms)) po by omega]
        rw [e1, e2] at g2
        exact g2
      · refine ⟨_, _, _, _, _, hml, (out_let l b1 t1 b2 t2 ms 17 ad po now hl h10 h20 he ha q1 (plet_bad _ _ po h0) (.inl ⟨rfl, rfl, rfl, rfl, rfl, rfl⟩)).1 h0, ?_⟩
        exact nout_let17b l b1 t1 b2 t2 ms ad po now hl h10 h20 he ha hoe (by rw [hbe]; exact hgY.r1) (by rw [hbe]; exact hgY.r2) (by rw [hbe]; exact hgY.nd) (by rw [hbe]; exact rlet_bad _ _ po hT h0) h0
  · have hm0 : isP pr ad po m0 = true := List.find?_some q3
    obtain ⟨a1, a2, a3, a4, a5, a6, a7⟩ := moved_all (now := now) hgY q1 hm0 hbr1.1 hbr2.1
    have hbl : (butP pr ad po (yng l now ms)).length ≤ (yng l now ms).length := List.length_filter_le _ _
    have g1 := out_found l b1 t1 b2 t2 ms pr ad po now hl h10 h20 he hp ha q1 q2 hm0
    refine ⟨_, _, _, _, _, ?_, g1, ?_⟩
    · unfold maxLen
      simp
      omega
    · rcases hp with rfl | rfl
      · have g2 := nout_found6 l b1 t1 b2 t2 ms ad po now hl h10 h20 he ha a1 a2 a3 a4 a5
        rw [a6, a7] at g2
        exact g2
      · have g2 := nout_found17 l b1 t1 b2 t2 ms ad po now hl h10 h20 he ha a1 a2 a3 a4 a5
        rw [a6, a7] at g2
        exact g2
set_option maxHeartbeats 4000000 in
theorem natouts_law : Spec Tryd.prog 3 [dNt l b1 t1 b2 t2 ms, .v (.int .i64 pr), .v (.int .u32 ad), .v (.int .i64 po), .v (.int .i64 now)] (.v (.bool true)) := by
  have hml : ms.length ≤ maxLen := by unfold maxLen; omega
  obtain ⟨T1, T2, MS, p, e, hMS, h1, h2⟩ := both_out l b1 t1 b2 t2 ms pr ad po now hl h10 h20
  have h3 := ncheck_spec l b1 t1 b2 t2 ms hml h10 h20
  have h4 := nright_spec l b1 t1 b2 t2 ms hml h10 h20
  have h5 := samen_spec l b1 T1 b2 T2 MS hMS
  generalize natErr l b1 t1 b2 t2 ms = E at *
  unfold dOut at h1 h2
  unfold dNt rNt at *
  refine hspec_fn Tryd.func3 rfl ok_custlaw_NatOuts okr_custlaw_NatOuts rfl (by kernel_rfl) ?_
  intro Γ hW0 hN0 hL0
  have hW := hW0 rfl
  clear hW0 hN0 hL0
  unfold x_custlaw_NatOuts r_custlaw_NatOuts
  repeat' (first
    | (with_reducible first | refine go_seq ?_ | refine go_region ?_ | refine go_regionD mixed_ok ?_ | refine go_cond ?_ | refine go_skip ?_ | refine go_block ?_ | refine nx_code ?_ | refine nx_block ?_ | refine go_ret ?_ | refine nx_nil ?_ | refine go_exit ?_ | refine ex_code ?_ | refine ex_loop ?_ | refine ex_here ?_)
    | ((with_reducible refine ex_past ?_ ?_); (exact by decide))
    | ((with_reducible refine endD_intro ?_ ?_); (exact by kernel_rfl))
    | ((with_reducible refine runR_n ?_ ?_); exact auN)
    | (first | (with_reducible refine runR_call h1 ?_) | (with_reducible refine runR_call h2 ?_) | (with_reducible refine runR_call h3 ?_) | (with_reducible refine runR_call h4 ?_) | (with_reducible refine runR_call h5 ?_))
    | (dsimp only [run, undef, zipO, runR_ok, runR_t, runR_f, gd, gd2, skipR, ex1, pickR, boxR, loadR, loadO, storeR, storeO, nilR, fieldAR, fieldR, partOf, binR, intBin, unR, boolR, kindEq, shiftOp, onlyIf, orB, convR, extR, lenR, indexSlR, gidxR, putE, updL, keysOf, lget, lset, evT, evs, Env.get, Env.set, N8.get, N8.set, env0, cellsD, oneD, oneV, andB, allOne, lenB, mapV, dget, ddrop, dtake, splice, xget, xset, partsD, partsOk, partsE, partsEOk, repl, elemsR, elemsS, elemsO, xdrop, xtake, allOnes, appN, appOwn, appNew, appY, cellEq_i, consO, cmpAll, allB, negB, eqsO, eqsR, minR, evO, bndO, keepB, snapCut, slCut, nilCut, sliceR, isS, isnilL, isnilX, isnilR, makeR, clearO, clearR, sliceW1, sliceW2, sliceW3, sliceWR, appWO, appWR, isnilPR, appD, callvR, cond, condK_t, condK_f, argsE, slots0, List.length_cons, List.length_nil, Bool.true_or, Bool.false_or, Bool.or_true, Bool.or_false, bnf, bnt, Nat.add_zero, Nat.zero_add, Nat.reduceAdd, Nat.reduceMul, Int.reduceToNat, endS])
    | (with_reducible refine runR_b (fun h => ?_) (fun h => ?_) <;> first | exact auH | simp only [h, runR_t, runR_f])
    | (with_reducible refine condK_bl ?_ ?_)
    | (with_reducible refine condK_b (fun h => ?_) (fun h => ?_) <;> first | exact auH | skip)
    | fail)
  (all_goals first | exact auP | skip)
  all_goals first
    | (exfalso; simp at h; done)
    | skip
  all_goals with_reducible refine ret_spec2 (by (try dsimp only [RetOK, resOk, resDs, resD, resV, cellV, cellO, cellP, cellOk, htake, nfD, nfL, nfLL, nfH, lget, partOf, xget, ddrop, dtake, dget, Env.get, N8.get, env0, List.length_cons, List.length_nil, Env.set, N8.set, lset, updL]); (repeat' (first | exact trivial | exact rfl | exact nfLL_map (fun x => by simp [nfL, nfD, nfD]) | decide | apply And.intro))) ?_
  all_goals (try dsimp only [RetOK, resOk, resDs, resD, resV, cellV, cellO, cellP, cellOk, htake, nfD, nfL, nfLL, nfH, lget, partOf, xget, ddrop, dtake, dget, Env.get, N8.get, env0, List.length_cons, List.length_nil, Env.set, N8.set, lset, updL])
  all_goals (try simp only [hsM] at *)
  all_goals exact dbool (by simp)
end
theorem u64_wf {x : Int} (h : (Lit.int .u64 x).wf = true) : 0 ≤ x ∧ x < 18446744073709551616 := by
  have h2 : IntKind.u64.min ≤ x ∧ x ≤ IntKind.u64.max := by simpa [Lit.wf] using h
  have e1 : IntKind.u64.min = 0 := by decide
  have e2 : IntKind.u64.max = 18446744073709551615 := by decide
  rw [e1, e2] at h2
  omega
abbrev mpT := Int × Int × Int × Int × Int × Unit
abbrev mpOf (t : mpT) : Mp := ⟨t.1, t.2.1, t.2.2.1, t.2.2.2.1, t.2.2.2.2.1⟩
theorem ol1 (l : List mpT) (h : l.length * 40 ≤ 140737488351232) : (l.map mpOf).length * 40 ≤ 140737488351232 := by rw [List.length_map]; exact h
theorem sv_NatOuts (l b1 : Int) (t1 : Nat) (b2 : Int) (t2 : Nat) (ms : List mpT) (pr ad po now : Int) (u1 u2 u3 u4 : Unit) : valSs shsNatOuts ((l, (b1, (t1 : Int), u1), (b2, (t2 : Int), u2), ms, u3), pr, ad, po, now, u4) = [dNt l b1 t1 b2 t2 (ms.map mpOf), .v (.int .i64 pr), .v (.int .u32 ad), .v (.int .i64 po), .v (.int .i64 now)] := by
  unfold dNt rNt
  rw [List.map_map]
  rfl
theorem coreNatOuts (W : World) (args : Array Value) (hL : laidMetH Tryd.prog Rows.natOutsRow.laid W) (h : opnAll W W.heap.size shsNatOuts args.toList) :
    Calls Tryd.prog 3 args W fun e W' => e = .returned (.bool true) ∧ Below W.heap.size W W' := by
  refine law_core_g rfl h (glob_of_laid hL) (fun x hx => ?_)
  obtain ⟨⟨l, ⟨b1, t1, u1⟩, ⟨b2, t2, u2⟩, ms, u3⟩, pr, ad, po, now, u4⟩ := x
  obtain ⟨⟨-, ⟨-, h1, -⟩, ⟨-, h2, -⟩, ⟨hl, -, -⟩, -⟩, -, -, -, -, -⟩ := hx
  have g1 := u64_wf h1
  have g2 := u64_wf h2
  have hl' := ol1 ms hl
  obtain ⟨n1, rfl⟩ := Int.eq_ofNat_of_zero_le g1.1
  obtain ⟨n2, rfl⟩ := Int.eq_ofNat_of_zero_le g2.1
  exact Eq.mpr (congrArg (fun l => Spec Tryd.prog 3 l (.v (.bool true))) (sv_NatOuts l b1 n1 b2 n2 ms pr ad po now u1 u2 u3 u4)) (natouts_law l b1 n1 b2 n2 _ pr ad po now hl' (by omega) (by omega))
/-! THE ROW: the frame round 'core', and its card -/
theorem ownNatOuts : ownKnob Tryd.prog.godebug = none := by kernel_rfl
theorem fitNatOuts : (List.range shsNatOuts.length).all (fun i => match shsNatOuts[i]?, Tryd.f3.params.toList[i]? with | some s, some t => s.fit Tryd.prog none t | _, _ => false) = true := by kernel_rfl
theorem laidNatOuts : laidOutB Tryd.prog = true := by kernel_rfl
theorem readNatOuts : Tryd.f3.params.toList.all (fun t => Tryd.prog.readableRec t && decide (t < Tryd.prog.types.size)) = true := by kernel_rfl
theorem metNatOuts (os : Os) (args : Array Value) : laidMetH Tryd.prog Rows.natOutsRow.laid ((World.doorLaid Tryd.prog 2000 os).forCall (fun _ _ => 0) ⟨#[], args, []⟩).memory :=
  laidMetH_of_parts3 (fuel := 8) (laidMet_of_run' 8 (by kernel_rfl) (by kernel_rfl)) (by kernel_rfl) (by kernel_rfl)
set_option maxRecDepth 100000 in
theorem liftedNatOuts (os : Os) (started : os.Started) (H : Type) (enc : TypeId × Value → H) :
    ReturnsInHanded {} Tryd.checked os 3 .any (fun w args => (Rows.natOutsSpec.pre enc Tryd.prog Tryd.f3 [] false w args ∧ laidMetH Tryd.prog Rows.natOutsRow.laid w) ∧ sizedMet enc Tryd.prog Tryd.f3 (OpenSpec.ofChange Rows.natOutsSpec) false w args) (Rows.natOutsSpec.post enc Tryd.prog Tryd.f3 false true false false) :=
  law_lifted_laid (C := Tryd.checked) (enc := enc) ownNatOuts started (by kernel_rfl) Tryd.func3
    (ChangeSpec.witness_shaped (enc := enc) (C := Tryd.checked) (os := os) (X := fun w _ => laidMetH Tryd.prog Rows.natOutsRow.laid w) false (World.doorLaid Tryd.prog 2000 os) #[.agg #[.int .i64 0, .int .i64 0, .int .u64 0, .int .i64 0, .int .u64 0, .slice none 0 0], .int .i64 0, .int .u32 0, .int .i64 0, .int .i64 0] 8 rfl (World.shaped_of_RefB (by kernel_rfl) (by kernel_rfl)) (by kernel_rfl) (by kernel_rfl) (by kernel_rfl) (metNatOuts os _))
    shsNatOuts (by kernel_rfl) fitNatOuts rfl (fun ds h => by
      match ds, h with
      | [d0, d1, d2, d3, d4], _ => exact ⟨rfl, rfl, rfl⟩) 4 (by kernel_rfl) Tryd.underlying4 laidNatOuts readNatOuts coreNatOuts
theorem overNatOuts : Rows.natOutsRow.holds Tryd.pinned (OpenSpec.ofChange Rows.natOutsSpec) :=
  OpenClaim.holds_of_wide 3 Tryd.f3 rfl rfl rfl rfl rfl rfl rfl ⟨rfl, rfl, rfl, rfl, rfl⟩ rfl rfl rfl rfl rfl (by kernel_rfl) Tryd.func3 (by kernel_rfl)
    (of_decide_eq_true (by kernel_rfl)) (by unfold Func.isWrapper; rw [if_neg (of_decide_eq_false (by kernel_rfl))]; exact ⟨rfl, rfl⟩)
    (fun os started H enc _ => liftedNatOuts os started H enc)
/-- THE STATEMENT: the tied card. -/
theorem provedNatOuts : Rows.NatOutsCardSaid :=
  Claim7.holds_tied_plain_at .later [] [.data] true (true, "01a36ec58287ac21e525530f2c82775619085b82791d61d957bc25fbba154970") false
    overNatOuts (fun _ h => by cases h) (by kernel_rfl) (fun _ h => by cases h) natOuts_row_tie rfl ⟨rfl, rfl⟩ (by kernel_rfl) rfl
    (fun f fn hf hfn => by
      obtain rfl : f = 3 := Option.some.inj ((show Tryd.prog.funcNamed Rows.natOutsRow.func = some 3 by kernel_rfl).symm.trans hf) |>.symm
      obtain rfl : fn = Tryd.f3 := (Option.some.inj (Tryd.func3.symm.trans hfn)).symm
      exact ⟨by kernel_rfl, fun j t ht => by
        have hall : (Tryd.f3.params.toList.all fun u => !Tryd.prog.wantsStandIn u) = true := by kernel_rfl
        have hm : t ∈ Tryd.f3.params.toList := by simpa using Array.mem_of_getElem? ht
        exact (show Tryd.prog.wantsStandIn t = false by simpa using List.all_eq_true.1 hall t hm)⟩)
    (by kernel_rfl)
#print axioms provedNatOuts
end Go.Proofs.YtegnfpmbmbbaiaaDoor
