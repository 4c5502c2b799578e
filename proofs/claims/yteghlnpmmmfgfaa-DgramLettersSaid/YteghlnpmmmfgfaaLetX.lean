/-
  Letters: Write and Read, in the program and in the reference.
-/
import Derived.Test.YteghlnpmmmfgfaaNetX
namespace Go.Proofs.Yteghlnpmmmfgfaa
set_option linter.unusedVariables false
set_option linter.unusedSimpArgs false
theorem emS : (ByteArray.mk #[] : ByteArray) = mkS [] := rfl
theorem port_spec (n : Int) : Spec Try.prog 43 [.v (.int .i64 n)] (.v (.bool (decide (0 ≤ n ∧ n ≤ 65535)))) := by
  refine hspec_fn Try.func43 rfl ok_dgram_port okr_dgram_port rfl (by kernel_rfl) ?_
  intro Γ hW0 hN0 hL0
  have hW := hW0 rfl
  clear hW0 hN0 hL0
  unfold x_dgram_port r_dgram_port
  repeat' (first
    | (with_reducible refine go_seq ?_)
    | (with_reducible refine go_region ?_)
    | (with_reducible refine go_regionD mixed_ok ?_)
    | (with_reducible refine go_cond ?_)
    | (with_reducible refine go_skip ?_)
    | (with_reducible refine go_block ?_)
    | (with_reducible refine nx_code ?_)
    | (with_reducible refine nx_block ?_)
    | (with_reducible refine go_ret ?_)
    | (with_reducible refine nx_nil ?_)
    | (with_reducible refine go_exit ?_)
    | (with_reducible refine ex_code ?_)
    | (with_reducible refine ex_loop ?_)
    | (with_reducible refine ex_here ?_)
    | ((with_reducible refine ex_past ?_ ?_); (exact by decide))
    | ((with_reducible refine endD_intro ?_ ?_); (exact by kernel_rfl))
    | ((with_reducible refine runR_n ?_ ?_); (solve | ((repeat' (first | exact trivial | exact rfl | apply And.intro)) <;> (first | exact rfl | (intro hq; cases hq; done) | decide | omega | (simp only [List.length_map, List.length_append, List.length_cons, List.length_nil, List.length_replicate]; done) | (simp only [room, maxLen, allOnes, oneV, List.length_map, List.length_append, List.length_cons, List.length_nil, List.length_replicate] at *; omega) | (simp only [decide_eq_true_eq, decide_eq_false_iff_not, Bool.not_eq_true', Bool.not_eq_false', Bool.and_eq_true, Bool.or_eq_true, Bool.and_eq_false_iff, Bool.or_eq_false_iff, Int.not_le, Int.not_lt, Decidable.not_not, ne_eq, not_true_eq_false, not_false_eq_true, decide_true, decide_false, Bool.not_true, Bool.not_false, Bool.false_eq_true, reduceCtorEq, List.length_map, beq_self_eq_true, Bool.and_true, Bool.true_and, Bool.false_and, Bool.and_false] at * <;> omega)))))
    | fail
    | (dsimp only [run, undef, runR_ok, runR_t, runR_f, gd, gd2, skipR, ex1, pickR, boxR, loadR, loadO, storeR, storeO, nilR, fieldAR, fieldR, partOf, binR, intBin, unR, boolR, kindEq, shiftOp, onlyIf, orB, convR, extR, lenR, indexSlR, indexArrR, putE, updL, keysOf, lget, lset, evT, evs, Env.get, Env.set, N8.get, N8.set, env0, cellsD, oneD, oneV, andB, allOne, lenB, mapV, dget, ddrop, dtake, splice, xget, xset, partsD, partsOk, partsE, partsEOk, repl, elemsR, elemsO, xdrop, xtake, allOnes, appN, appOwn, appNew, appY, cellEq_i, cellEq_b, cellEq_s, consO, cmpAll, allB, negB, eqsO, eqsR, eqbR, minR, evO, bndO, keepB, snapCut, slCut, nilCut, sliceR, isS, isnilL, isnilX, isnilR, strBin, sbinR, slenR, strAtR, substrB, substrR, makeR, clearO, clearR, sliceW1, sliceW2, sliceW3, sliceWR, appWO, appWR, okByte, okBytes, b2sR, indexVR, isnilPR, appD, callvR, cond, condK_t, condK_f, argsE, slots0, List.length_cons, List.length_nil, Bool.true_or, Bool.false_or, Bool.or_true, Bool.or_false, bnf, bnt, Nat.add_zero, Nat.zero_add, Nat.reduceAdd, Nat.reduceMul, Int.reduceToNat, endS])
    | (with_reducible refine runR_b (fun h => ?_) (fun h => ?_) <;> first | (exfalso; (simp only [decide_eq_true_eq, decide_eq_false_iff_not, Bool.not_eq_true', Bool.not_eq_false', Bool.and_eq_true, Bool.or_eq_true, Bool.and_eq_false_iff, Bool.or_eq_false_iff, Int.not_le, Int.not_lt, Decidable.not_not, ne_eq, not_true_eq_false, not_false_eq_true, decide_true, decide_false, Bool.not_true, Bool.not_false, Bool.false_eq_true, reduceCtorEq, List.length_map, beq_self_eq_true, Bool.and_true, Bool.true_and, Bool.false_and, Bool.and_false] at * <;> omega); done) | simp only [h, runR_t, runR_f])
    | (with_reducible refine condK_bl ?_ ?_)
    | (with_reducible refine condK_b (fun h => ?_) (fun h => ?_) <;> first | (exfalso; (simp only [decide_eq_true_eq, decide_eq_false_iff_not, Bool.not_eq_true', Bool.not_eq_false', Bool.and_eq_true, Bool.or_eq_true, Bool.and_eq_false_iff, Bool.or_eq_false_iff, Int.not_le, Int.not_lt, Decidable.not_not, ne_eq, not_true_eq_false, not_false_eq_true, decide_true, decide_false, Bool.not_true, Bool.not_false, Bool.false_eq_true, reduceCtorEq, List.length_map, beq_self_eq_true, Bool.and_true, Bool.true_and, Bool.false_and, Bool.and_false] at * <;> omega); done) | skip)
    | fail)
  (all_goals first | (exfalso; (try simp only [List.length_map] at *); first | omega | (simp only [decide_eq_true_eq, decide_eq_false_iff_not, Bool.not_eq_true', Bool.not_eq_false', Bool.and_eq_true, Bool.or_eq_true, Bool.and_eq_false_iff, Bool.or_eq_false_iff, Int.not_le, Int.not_lt, Decidable.not_not, ne_eq, not_true_eq_false, not_false_eq_true, decide_true, decide_false, Bool.not_true, Bool.not_false, Bool.false_eq_true, reduceCtorEq, List.length_map, beq_self_eq_true, Bool.and_true, Bool.true_and, Bool.false_and, Bool.and_false] at * <;> omega)) | skip)
  all_goals with_reducible refine ret_spec (by (try dsimp only [RetOK, resOk, resDs, resD, resV, cellV, cellO, cellP, cellOk, htake, nfD, nfL, nfLL, nfH, lget, partOf, xget, ddrop, dtake, dget, Env.get, N8.get, env0, List.length_cons, List.length_nil, Env.set, N8.set, lset, updL]); (repeat' (first | exact trivial | exact rfl | decide | apply And.intro))) (by (try dsimp only [RetOK, resOk, resDs, resD, resV, cellV, cellO, cellP, cellOk, htake, nfD, nfL, nfLL, nfH, lget, partOf, xget, ddrop, dtake, dget, Env.get, N8.get, env0, List.length_cons, List.length_nil, Env.set, N8.set, lset, updL]); (repeat' (first | exact trivial | exact nfLL_map (fun x => by simp [nfL, nfD, nfD]) | apply And.intro))) ?_
  all_goals (try dsimp only [RetOK, resOk, resDs, resD, resV, cellV, cellO, cellP, cellOk, htake, nfD, nfL, nfLL, nfH, lget, partOf, xget, ddrop, dtake, dget, Env.get, N8.get, env0, List.length_cons, List.length_nil, Env.set, N8.set, lset, updL])
  all_goals (try simp only [decide_eq_true_eq, decide_eq_false_iff_not, Bool.not_eq_true', Bool.not_eq_false', Bool.and_eq_true, Bool.or_eq_true, Bool.and_eq_false_iff, Bool.or_eq_false_iff] at *)
  all_goals (refine dbool ?_; first | (simp_all; done) | (simp_all; omega))
abbrev dL (f t : Int) (d : List UInt8) : DV := .agg [.v (.int .i64 f), .v (.int .i64 t), .v (.string (mkS d))]
abbrev dSE (r : List UInt8 × Int) : DV := .tup [.v (.string (mkS r.1)), .v (.int .i64 r.2)]
def letHd (f t n : Int) : List UInt8 := wd f ++ wd t ++ wd n
def letC (f t : Int) (d : List UInt8) (a b : Int) : Int :=
  if foldI (wsum (und a b 17 ((d.length : Int) + 8) ++ letHd f t ((d.length : Int) + 8) ++ d)) = 65535 then 65535 else 65535 - foldI (wsum (und a b 17 ((d.length : Int) + 8) ++ letHd f t ((d.length : Int) + 8) ++ d))
def letW (f t : Int) (d : List UInt8) (a b : Int) : List UInt8 × Int :=
  if ¬ ((0 ≤ f ∧ f ≤ 65535) ∧ (0 ≤ t ∧ t ≤ 65535)) then ([], 1) else if 65507 < d.length then ([], 2) else (letHd f t ((d.length : Int) + 8) ++ wd (letC f t d a b) ++ d, 0)
theorem wsum_zero (f t n : Int) (d : List UInt8) (a b p m : Int) : wsum (und a b p m ++ (wd f ++ wd t) ++ wd n ++ wd 0 ++ d) = wsum (und a b p m ++ letHd f t n ++ d) := by
  have h1 : (und a b p m ++ (wd f ++ wd t) ++ wd n).length % 2 = 0 := by simp [und_len, wd_len]
  have h2 : (und a b p m ++ (wd f ++ wd t) ++ wd n ++ wd 0).length % 2 = 0 := by simp [und_len, wd_len]
  have h3 : wsum (wd 0) = 0 := by decide
  have e : und a b p m ++ letHd f t n = und a b p m ++ (wd f ++ wd t) ++ wd n := by unfold letHd; simp
  rw [e, wsum_app_even _ d h2, wsum_app_even _ _ h1, wsum_app_even _ d h1, h3]
  omega
set_option maxHeartbeats 2000000 in
theorem lwrite_spec (f t : Int) (d : List UInt8) (a b : Int) (ha : 0 ≤ a ∧ a < 4294967296) (hb : 0 ≤ b ∧ b < 4294967296) (hd : d.length ≤ 140737488351232) : Spec Try.prog 13 [dL f t d, .v (.int .u32 a), .v (.int .u32 b)] (dSE (letW f t d a b)) := by
  by_cases hf : 0 ≤ f ∧ f ≤ 65535
  · by_cases ht : 0 ≤ t ∧ t ≤ 65535
    · by_cases hl : 65507 < d.length
      · have hr : letW f t d a b = ([], 2) := by unfold letW; rw [if_neg (not_not_intro ⟨hf, ht⟩), if_pos hl]
        rw [hr]
        refine hspec_fn Try.func13 rfl ok_dgram_Write okr_dgram_Write rfl (by kernel_rfl) ?_
        intro Γ hW0 hN0 hL0
        have hW := hW0 rfl
        clear hW0 hN0 hL0
        unfold x_dgram_Write r_dgram_Write
        repeat' (first
          | (with_reducible refine go_seq ?_)
          | (with_reducible refine go_region ?_)
          | (with_reducible refine go_regionD mixed_ok ?_)
          | (with_reducible refine go_cond ?_)
          | (with_reducible refine go_skip ?_)
          | (with_reducible refine go_block ?_)
          | (with_reducible refine nx_code ?_)
          | (with_reducible refine nx_block ?_)
          | (with_reducible refine go_ret ?_)
          | (with_reducible refine nx_nil ?_)
          | (with_reducible refine go_exit ?_)
          | (with_reducible refine ex_code ?_)
          | (with_reducible refine ex_loop ?_)
          | (with_reducible refine ex_here ?_)
          | ((with_reducible refine ex_past ?_ ?_); (exact by decide))
          | ((with_reducible refine endD_intro ?_ ?_); (exact by kernel_rfl))
          | ((with_reducible refine runR_n ?_ ?_); (solve | ((repeat' (first | exact trivial | exact rfl | apply And.intro)) <;> (first | exact rfl | (intro hq; cases hq; done) | decide | omega | (simp only [List.length_map, List.length_append, List.length_cons, List.length_nil, List.length_replicate]; done) | (simp only [room, maxLen, allOnes, oneV, List.length_map, List.length_append, List.length_cons, List.length_nil, List.length_replicate] at *; omega) | (simp only [decide_eq_true_eq, decide_eq_false_iff_not, Bool.not_eq_true', Bool.not_eq_false', Bool.and_eq_true, Bool.or_eq_true, Bool.and_eq_false_iff, Bool.or_eq_false_iff, Int.not_le, Int.not_lt, Decidable.not_not, ne_eq, not_true_eq_false, not_false_eq_true, decide_true, decide_false, Bool.not_true, Bool.not_false, Bool.false_eq_true, reduceCtorEq, List.length_map, beq_self_eq_true, Bool.and_true, Bool.true_and, Bool.false_and, Bool.and_false] at * <;> omega)))))
          | (first | (simp only [mkS_app, mkS_size]) | (simp only [e1]) | (simp only [e2]) | (simp only [e3]) | (with_reducible refine runR_call (port_spec _) ?_) | (with_reducible refine runR_call (between_spec _ _ _) ?_) | (with_reducible refine runR_call hu ?_) | (with_reducible refine runR_call hv ?_) | (with_reducible refine runR_call hs ?_) | (with_reducible refine runR_call ho ?_) | (with_reducible refine runR_call (dword_spec _) ?_) | (with_reducible refine runR_call (word_spec _ (by omega)) ?_))
          | (dsimp only [run, undef, runR_ok, runR_t, runR_f, gd, gd2, skipR, ex1, pickR, boxR, loadR, loadO, storeR, storeO, nilR, fieldAR, fieldR, partOf, binR, intBin, unR, boolR, kindEq, shiftOp, onlyIf, orB, convR, extR, lenR, indexSlR, indexArrR, putE, updL, keysOf, lget, lset, evT, evs, Env.get, Env.set, N8.get, N8.set, env0, cellsD, oneD, oneV, andB, allOne, lenB, mapV, dget, ddrop, dtake, splice, xget, xset, partsD, partsOk, partsE, partsEOk, repl, elemsR, elemsO, xdrop, xtake, allOnes, appN, appOwn, appNew, appY, cellEq_i, cellEq_b, cellEq_s, consO, cmpAll, allB, negB, eqsO, eqsR, eqbR, minR, evO, bndO, keepB, snapCut, slCut, nilCut, sliceR, isS, isnilL, isnilX, isnilR, strBin, sbinR, slenR, strAtR, substrB, substrR, makeR, clearO, clearR, sliceW1, sliceW2, sliceW3, sliceWR, appWO, appWR, okByte, okBytes, b2sR, indexVR, isnilPR, appD, callvR, cond, condK_t, condK_f, argsE, slots0, List.length_cons, List.length_nil, Bool.true_or, Bool.false_or, Bool.or_true, Bool.or_false, bnf, bnt, Nat.add_zero, Nat.zero_add, Nat.reduceAdd, Nat.reduceMul, Int.reduceToNat, endS])
          | (with_reducible refine runR_b (fun h => ?_) (fun h => ?_) <;> first | (exfalso; (simp only [decide_eq_true_eq, decide_eq_false_iff_not, Bool.not_eq_true', Bool.not_eq_false', Bool.and_eq_true, Bool.or_eq_true, Bool.and_eq_false_iff, Bool.or_eq_false_iff, Int.not_le, Int.not_lt, Decidable.not_not, ne_eq, not_true_eq_false, not_false_eq_true, decide_true, decide_false, Bool.not_true, Bool.not_false, Bool.false_eq_true, reduceCtorEq, List.length_map, beq_self_eq_true, Bool.and_true, Bool.true_and, Bool.false_and, Bool.and_false] at * <;> omega); done) | simp only [h, runR_t, runR_f])
          | (with_reducible refine condK_bl ?_ ?_)
          | (with_reducible refine condK_b (fun h => ?_) (fun h => ?_) <;> first | (exfalso; (simp only [decide_eq_true_eq, decide_eq_false_iff_not, Bool.not_eq_true', Bool.not_eq_false', Bool.and_eq_true, Bool.or_eq_true, Bool.and_eq_false_iff, Bool.or_eq_false_iff, Int.not_le, Int.not_lt, Decidable.not_not, ne_eq, not_true_eq_false, not_false_eq_true, decide_true, decide_false, Bool.not_true, Bool.not_false, Bool.false_eq_true, reduceCtorEq, List.length_map, beq_self_eq_true, Bool.and_true, Bool.true_and, Bool.false_and, Bool.and_false] at * <;> omega); done) | skip)
          | (refine runR_n (by simp only [mkS_app, mkS_size, List.length_append, und_len, lg_len, wd_len, letHd, List.length_take, List.length_drop]; omega) ?_))
        (all_goals first | (exfalso; (try simp only [List.length_map] at *); first | omega | (simp only [decide_eq_true_eq, decide_eq_false_iff_not, Bool.not_eq_true', Bool.not_eq_false', Bool.and_eq_true, Bool.or_eq_true, Bool.and_eq_false_iff, Bool.or_eq_false_iff, Int.not_le, Int.not_lt, Decidable.not_not, ne_eq, not_true_eq_false, not_false_eq_true, decide_true, decide_false, Bool.not_true, Bool.not_false, Bool.false_eq_true, reduceCtorEq, List.length_map, beq_self_eq_true, Bool.and_true, Bool.true_and, Bool.false_and, Bool.and_false] at * <;> omega)) | skip)
        all_goals with_reducible refine ret_spec (by (try dsimp only [RetOK, resOk, resDs, resD, resV, cellV, cellO, cellP, cellOk, htake, nfD, nfL, nfLL, nfH, lget, partOf, xget, ddrop, dtake, dget, Env.get, N8.get, env0, List.length_cons, List.length_nil, Env.set, N8.set, lset, updL]); (repeat' (first | exact trivial | exact rfl | decide | apply And.intro))) (by (try dsimp only [RetOK, resOk, resDs, resD, resV, cellV, cellO, cellP, cellOk, htake, nfD, nfL, nfLL, nfH, lget, partOf, xget, ddrop, dtake, dget, Env.get, N8.get, env0, List.length_cons, List.length_nil, Env.set, N8.set, lset, updL]); (repeat' (first | exact trivial | exact nfLL_map (fun x => by simp [nfL, nfD, nfD, nfL]) | apply And.intro))) ?_
        all_goals (try dsimp only [RetOK, resOk, resDs, resD, resV, cellV, cellO, cellP, cellOk, htake, nfD, nfL, nfLL, nfH, lget, partOf, xget, ddrop, dtake, dget, Env.get, N8.get, env0, List.length_cons, List.length_nil, Env.set, N8.set, lset, updL])
        all_goals (try simp only [decide_eq_true_eq, decide_eq_false_iff_not, Bool.not_eq_true', Bool.not_eq_false', Bool.and_eq_true, Bool.or_eq_true, Bool.and_eq_false_iff, Bool.or_eq_false_iff] at *)
        all_goals rfl
      · have hr : letW f t d a b = (letHd f t ((d.length : Int) + 8) ++ wd (letC f t d a b) ++ d, 0) := by unfold letW; rw [if_neg (not_not_intro ⟨hf, ht⟩), if_neg hl]
        rw [hr]
        have e1 : IntKind.i64.wrap (8 + (d.length : Nat)) = (d.length : Int) + 8 := by rw [IntWalk.i64_in _ (by omega)]; omega
        have hu := under_spec a b 17 ((d.length : Int) + 8) ha hb
        have hs := of_spec (und a b 17 ((d.length : Int) + 8) ++ (wd f ++ wd t ++ wd ((d.length : Int) + 8)) ++ d) (by simp only [List.length_append, und_len, wd_len]; omega)
        have hbd := foldI_bd (wsum (und a b 17 ((d.length : Int) + 8) ++ (wd f ++ wd t ++ wd ((d.length : Int) + 8)) ++ d)) (wsum_bd _).1
        unfold letC letHd
        generalize foldI (wsum (und a b 17 ((d.length : Int) + 8) ++ (wd f ++ wd t ++ wd ((d.length : Int) + 8)) ++ d)) = c at *
        have e2 : IntKind.i64.wrap (65535 - c) = 65535 - c := IntWalk.i64_in _ (by omega)
        have e3 : IntKind.i64.wrap 65535 = 65535 := by decide
        by_cases hc : c = 65535
        · rw [if_pos hc]
          refine hspec_fn Try.func13 rfl ok_dgram_Write okr_dgram_Write rfl (by kernel_rfl) ?_
          intro Γ hW0 hN0 hL0
          have hW := hW0 rfl
          clear hW0 hN0 hL0
          unfold x_dgram_Write r_dgram_Write
          repeat' (first
            | (with_reducible refine go_seq ?_)
            | (with_reducible refine go_region ?_)
            | (with_reducible refine go_regionD mixed_ok ?_)
            | (with_reducible refine go_cond ?_)
            | (with_reducible refine go_skip ?_)
            | (with_reducible refine go_block ?_)
            | (with_reducible refine nx_code ?_)
            | (with_reducible refine nx_block ?_)
            | (with_reducible refine go_ret ?_)
            | (with_reducible refine nx_nil ?_)
            | (with_reducible refine go_exit ?_)
            | (with_reducible refine ex_code ?_)
            | (with_reducible refine ex_loop ?_)
            | (with_reducible refine ex_here ?_)
            | ((with_reducible refine ex_past ?_ ?_); (exact by decide))
            | ((with_reducible refine endD_intro ?_ ?_); (exact by kernel_rfl))
            | ((with_reducible refine runR_n ?_ ?_); (solve | ((repeat' (first | exact trivial | exact rfl | apply And.intro)) <;> (first | exact rfl | (intro hq; cases hq; done) | decide | omega | (simp only [List.length_map, List.length_append, List.length_cons, List.length_nil, List.length_replicate]; done) | (simp only [room, maxLen, allOnes, oneV, List.length_map, List.length_append, List.length_cons, List.length_nil, List.length_replicate] at *; omega) | (simp only [decide_eq_true_eq, decide_eq_false_iff_not, Bool.not_eq_true', Bool.not_eq_false', Bool.and_eq_true, Bool.or_eq_true, Bool.and_eq_false_iff, Bool.or_eq_false_iff, Int.not_le, Int.not_lt, Decidable.not_not, ne_eq, not_true_eq_false, not_false_eq_true, decide_true, decide_false, Bool.not_true, Bool.not_false, Bool.false_eq_true, reduceCtorEq, List.length_map, beq_self_eq_true, Bool.and_true, Bool.true_and, Bool.false_and, Bool.and_false] at * <;> omega)))))
            | (first | (simp only [mkS_app, mkS_size]) | (simp only [e1]) | (simp only [e2]) | (simp only [e3]) | (with_reducible refine runR_call (port_spec _) ?_) | (with_reducible refine runR_call (between_spec _ _ _) ?_) | (with_reducible refine runR_call hu ?_) | (with_reducible refine runR_call hv ?_) | (with_reducible refine runR_call hs ?_) | (with_reducible refine runR_call ho ?_) | (with_reducible refine runR_call (dword_spec _) ?_) | (with_reducible refine runR_call (word_spec _ (by omega)) ?_))
            | (dsimp only [run, undef, runR_ok, runR_t, runR_f, gd, gd2, skipR, ex1, pickR, boxR, loadR, loadO, storeR, storeO, nilR, fieldAR, fieldR, partOf, binR, intBin, unR, boolR, kindEq, shiftOp, onlyIf, orB, convR, extR, lenR, indexSlR, indexArrR, putE, updL, keysOf, lget, lset, evT, evs, Env.get, Env.set, N8.get, N8.set, env0, cellsD, oneD, oneV, andB, allOne, lenB, mapV, dget, ddrop, dtake, splice, xget, xset, partsD, partsOk, partsE, partsEOk, repl, elemsR, elemsO, xdrop, xtake, allOnes, appN, appOwn, appNew, appY, cellEq_i, cellEq_b, cellEq_s, consO, cmpAll, allB, negB, eqsO, eqsR, eqbR, minR, evO, bndO, keepB, snapCut, slCut, nilCut, sliceR, isS, isnilL, isnilX, isnilR, strBin, sbinR, slenR, strAtR, substrB, substrR, makeR, clearO, clearR, sliceW1, sliceW2, sliceW3, sliceWR, appWO, appWR, okByte, okBytes, b2sR, indexVR, isnilPR, appD, callvR, cond, condK_t, condK_f, argsE, slots0, List.length_cons, List.length_nil, Bool.true_or, Bool.false_or, Bool.or_true, Bool.or_false, bnf, bnt, Nat.add_zero, Nat.zero_add, Nat.reduceAdd, Nat.reduceMul, Int.reduceToNat, endS])
            | (with_reducible refine runR_b (fun h => ?_) (fun h => ?_) <;> first | (exfalso; (simp only [decide_eq_true_eq, decide_eq_false_iff_not, Bool.not_eq_true', Bool.not_eq_false', Bool.and_eq_true, Bool.or_eq_true, Bool.and_eq_false_iff, Bool.or_eq_false_iff, Int.not_le, Int.not_lt, Decidable.not_not, ne_eq, not_true_eq_false, not_false_eq_true, decide_true, decide_false, Bool.not_true, Bool.not_false, Bool.false_eq_true, reduceCtorEq, List.length_map, beq_self_eq_true, Bool.and_true, Bool.true_and, Bool.false_and, Bool.and_false] at * <;> omega); done) | simp only [h, runR_t, runR_f])
            | (with_reducible refine condK_bl ?_ ?_)
            | (with_reducible refine condK_b (fun h => ?_) (fun h => ?_) <;> first | (exfalso; (simp only [decide_eq_true_eq, decide_eq_false_iff_not, Bool.not_eq_true', Bool.not_eq_false', Bool.and_eq_true, Bool.or_eq_true, Bool.and_eq_false_iff, Bool.or_eq_false_iff, Int.not_le, Int.not_lt, Decidable.not_not, ne_eq, not_true_eq_false, not_false_eq_true, decide_true, decide_false, Bool.not_true, Bool.not_false, Bool.false_eq_true, reduceCtorEq, List.length_map, beq_self_eq_true, Bool.and_true, Bool.true_and, Bool.false_and, Bool.and_false] at * <;> omega); done) | skip)
            | (refine runR_n (by simp only [mkS_app, mkS_size, List.length_append, und_len, lg_len, wd_len, letHd, List.length_take, List.length_drop]; omega) ?_))
          (all_goals first | (exfalso; (try simp only [List.length_map] at *); first | omega | (simp only [decide_eq_true_eq, decide_eq_false_iff_not, Bool.not_eq_true', Bool.not_eq_false', Bool.and_eq_true, Bool.or_eq_true, Bool.and_eq_false_iff, Bool.or_eq_false_iff, Int.not_le, Int.not_lt, Decidable.not_not, ne_eq, not_true_eq_false, not_false_eq_true, decide_true, decide_false, Bool.not_true, Bool.not_false, Bool.false_eq_true, reduceCtorEq, List.length_map, beq_self_eq_true, Bool.and_true, Bool.true_and, Bool.false_and, Bool.and_false] at * <;> omega)) | skip)
          all_goals with_reducible refine ret_spec (by (try dsimp only [RetOK, resOk, resDs, resD, resV, cellV, cellO, cellP, cellOk, htake, nfD, nfL, nfLL, nfH, lget, partOf, xget, ddrop, dtake, dget, Env.get, N8.get, env0, List.length_cons, List.length_nil, Env.set, N8.set, lset, updL]); (repeat' (first | exact trivial | exact rfl | decide | apply And.intro))) (by (try dsimp only [RetOK, resOk, resDs, resD, resV, cellV, cellO, cellP, cellOk, htake, nfD, nfL, nfLL, nfH, lget, partOf, xget, ddrop, dtake, dget, Env.get, N8.get, env0, List.length_cons, List.length_nil, Env.set, N8.set, lset, updL]); (repeat' (first | exact trivial | exact nfLL_map (fun x => by simp [nfL, nfD, nfD, nfL]) | apply And.intro))) ?_
          all_goals (try dsimp only [RetOK, resOk, resDs, resD, resV, cellV, cellO, cellP, cellOk, htake, nfD, nfL, nfLL, nfH, lget, partOf, xget, ddrop, dtake, dget, Env.get, N8.get, env0, List.length_cons, List.length_nil, Env.set, N8.set, lset, updL])
          all_goals (try simp only [decide_eq_true_eq, decide_eq_false_iff_not, Bool.not_eq_true', Bool.not_eq_false', Bool.and_eq_true, Bool.or_eq_true, Bool.and_eq_false_iff, Bool.or_eq_false_iff] at *)
          all_goals rfl
        · rw [if_neg hc]
          refine hspec_fn Try.func13 rfl ok_dgram_Write okr_dgram_Write rfl (by kernel_rfl) ?_
          intro Γ hW0 hN0 hL0
          have hW := hW0 rfl
          clear hW0 hN0 hL0
          unfold x_dgram_Write r_dgram_Write
          repeat' (first
            | (with_reducible refine go_seq ?_)
            | (with_reducible refine go_region ?_)
            | (with_reducible refine go_regionD mixed_ok ?_)
            | (with_reducible refine go_cond ?_)
            | (with_reducible refine go_skip ?_)
            | (with_reducible refine go_block ?_)
            | (with_reducible refine nx_code ?_)
            | (with_reducible refine nx_block ?_)
            | (with_reducible refine go_ret ?_)
            | (with_reducible refine nx_nil ?_)
            | (with_reducible refine go_exit ?_)
            | (with_reducible refine ex_code ?_)
            | (with_reducible refine ex_loop ?_)
            | (with_reducible refine ex_here ?_)
            | ((with_reducible refine ex_past ?_ ?_); (exact by decide))
            | ((with_reducible refine endD_intro ?_ ?_); (exact by kernel_rfl))
            | ((with_reducible refine runR_n ?_ ?_); (solve | ((repeat' (first | exact trivial | exact rfl | apply And.intro)) <;> (first | exact rfl | (intro hq; cases hq; done) | decide | omega | (simp only [List.length_map, List.length_append, List.length_cons, List.length_nil, List.length_replicate]; done) | (simp only [room, maxLen, allOnes, oneV, List.length_map, List.length_append, List.length_cons, List.length_nil, List.length_replicate] at *; omega) | (simp only [decide_eq_true_eq, decide_eq_false_iff_not, Bool.not_eq_true', Bool.not_eq_false', Bool.and_eq_true, Bool.or_eq_true, Bool.and_eq_false_iff, Bool.or_eq_false_iff, Int.not_le, Int.not_lt, Decidable.not_not, ne_eq, not_true_eq_false, not_false_eq_true, decide_true, decide_false, Bool.not_true, Bool.not_false, Bool.false_eq_true, reduceCtorEq, List.length_map, beq_self_eq_true, Bool.and_true, Bool.true_and, Bool.false_and, Bool.and_false] at * <;> omega)))))
            | (first | (simp only [mkS_app, mkS_size]) | (simp only [e1]) | (simp only [e2]) | (simp only [e3]) | (with_reducible refine runR_call (port_spec _) ?_) | (with_reducible refine runR_call (between_spec _ _ _) ?_) | (with_reducible refine runR_call hu ?_) | (with_reducible refine runR_call hv ?_) | (with_reducible refine runR_call hs ?_) | (with_reducible refine runR_call ho ?_) | (with_reducible refine runR_call (dword_spec _) ?_) | (with_reducible refine runR_call (word_spec _ (by omega)) ?_))
            | (dsimp only [run, undef, runR_ok, runR_t, runR_f, gd, gd2, skipR, ex1, pickR, boxR, loadR, loadO, storeR, storeO, nilR, fieldAR, fieldR, partOf, binR, intBin, unR, boolR, kindEq, shiftOp, onlyIf, orB, convR, extR, lenR, indexSlR, indexArrR, putE, updL, keysOf, lget, lset, evT, evs, Env.get, Env.set, N8.get, N8.set, env0, cellsD, oneD, oneV, andB, allOne, lenB, mapV, dget, ddrop, dtake, splice, xget, xset, partsD, partsOk, partsE, partsEOk, repl, elemsR, elemsO, xdrop, xtake, allOnes, appN, appOwn, appNew, appY, cellEq_i, cellEq_b, cellEq_s, consO, cmpAll, allB, negB, eqsO, eqsR, eqbR, minR, evO, bndO, keepB, snapCut, slCut, nilCut, sliceR, isS, isnilL, isnilX, isnilR, strBin, sbinR, slenR, strAtR, substrB, substrR, makeR, clearO, clearR, sliceW1, sliceW2, sliceW3, sliceWR, appWO, appWR, okByte, okBytes, b2sR, indexVR, isnilPR, appD, callvR, cond, condK_t, condK_f, argsE, slots0, List.length_cons, List.length_nil, Bool.true_or, Bool.false_or, Bool.or_true, Bool.or_false, bnf, bnt, Nat.add_zero, Nat.zero_add, Nat.reduceAdd, Nat.reduceMul, Int.reduceToNat, endS])
            | (with_reducible refine runR_b (fun h => ?_) (fun h => ?_) <;> first | (exfalso; (simp only [decide_eq_true_eq, decide_eq_false_iff_not, Bool.not_eq_true', Bool.not_eq_false', Bool.and_eq_true, Bool.or_eq_true, Bool.and_eq_false_iff, Bool.or_eq_false_iff, Int.not_le, Int.not_lt, Decidable.not_not, ne_eq, not_true_eq_false, not_false_eq_true, decide_true, decide_false, Bool.not_true, Bool.not_false, Bool.false_eq_true, reduceCtorEq, List.length_map, beq_self_eq_true, Bool.and_true, Bool.true_and, Bool.false_and, Bool.and_false] at * <;> omega); done) | simp only [h, runR_t, runR_f])
            | (with_reducible refine condK_bl ?_ ?_)
            | (with_reducible refine condK_b (fun h => ?_) (fun h => ?_) <;> first | (exfalso; (simp only [decide_eq_true_eq, decide_eq_false_iff_not, Bool.not_eq_true', Bool.not_eq_false', Bool.and_eq_true, Bool.or_eq_true, Bool.and_eq_false_iff, Bool.or_eq_false_iff, Int.not_le, Int.not_lt, Decidable.not_not, ne_eq, not_true_eq_false, not_false_eq_true, decide_true, decide_false, Bool.not_true, Bool.not_false, Bool.false_eq_true, reduceCtorEq, List.length_map, beq_self_eq_true, Bool.and_true, Bool.true_and, Bool.false_and, Bool.and_false] at * <;> omega); done) | skip)
            | (refine runR_n (by simp only [mkS_app, mkS_size, List.length_append, und_len, lg_len, wd_len, letHd, List.length_take, List.length_drop]; omega) ?_))
          (all_goals first | (exfalso; (try simp only [List.length_map] at *); first | omega | (simp only [decide_eq_true_eq, decide_eq_false_iff_not, Bool.not_eq_true', Bool.not_eq_false', Bool.and_eq_true, Bool.or_eq_true, Bool.and_eq_false_iff, Bool.or_eq_false_iff, Int.not_le, Int.not_lt, Decidable.not_not, ne_eq, not_true_eq_false, not_false_eq_true, decide_true, decide_false, Bool.not_true, Bool.not_false, Bool.false_eq_true, reduceCtorEq, List.length_map, beq_self_eq_true, Bool.and_true, Bool.true_and, Bool.false_and, Bool.and_false] at * <;> omega)) | skip)
          all_goals with_reducible refine ret_spec (by (try dsimp only [RetOK, resOk, resDs, resD, resV, cellV, cellO, cellP, cellOk, htake, nfD, nfL, nfLL, nfH, lget, partOf, xget, ddrop, dtake, dget, Env.get, N8.get, env0, List.length_cons, List.length_nil, Env.set, N8.set, lset, updL]); (repeat' (first | exact trivial | exact rfl | decide | apply And.intro))) (by (try dsimp only [RetOK, resOk, resDs, resD, resV, cellV, cellO, cellP, cellOk, htake, nfD, nfL, nfLL, nfH, lget, partOf, xget, ddrop, dtake, dget, Env.get, N8.get, env0, List.length_cons, List.length_nil, Env.set, N8.set, lset, updL]); (repeat' (first | exact trivial | exact nfLL_map (fun x => by simp [nfL, nfD, nfD, nfL]) | apply And.intro))) ?_
          all_goals (try dsimp only [RetOK, resOk, resDs, resD, resV, cellV, cellO, cellP, cellOk, htake, nfD, nfL, nfLL, nfH, lget, partOf, xget, ddrop, dtake, dget, Env.get, N8.get, env0, List.length_cons, List.length_nil, Env.set, N8.set, lset, updL])
          all_goals (try simp only [decide_eq_true_eq, decide_eq_false_iff_not, Bool.not_eq_true', Bool.not_eq_false', Bool.and_eq_true, Bool.or_eq_true, Bool.and_eq_false_iff, Bool.or_eq_false_iff] at *)
          all_goals rfl
    · have hr : letW f t d a b = ([], 1) := by unfold letW; rw [if_pos (fun q => ht q.2)]
      rw [hr]
      refine hspec_fn Try.func13 rfl ok_dgram_Write okr_dgram_Write rfl (by kernel_rfl) ?_
      intro Γ hW0 hN0 hL0
      have hW := hW0 rfl
      clear hW0 hN0 hL0
      unfold x_dgram_Write r_dgram_Write
      repeat' (first
        | (with_reducible refine go_seq ?_)
        | (with_reducible refine go_region ?_)
        | (with_reducible refine go_regionD mixed_ok ?_)
        | (with_reducible refine go_cond ?_)
        | (with_reducible refine go_skip ?_)
        | (with_reducible refine go_block ?_)
        | (with_reducible refine nx_code ?_)
        | (with_reducible refine nx_block ?_)
        | (with_reducible refine go_ret ?_)
        | (with_reducible refine nx_nil ?_)
        | (with_reducible refine go_exit ?_)
        | (with_reducible refine ex_code ?_)
        | (with_reducible refine ex_loop ?_)
        | (with_reducible refine ex_here ?_)
        | ((with_reducible refine ex_past ?_ ?_); (exact by decide))
        | ((with_reducible refine endD_intro ?_ ?_); (exact by kernel_rfl))
        | ((with_reducible refine runR_n ?_ ?_); (solve | ((repeat' (first | exact trivial | exact rfl | apply And.intro)) <;> (first | exact rfl | (intro hq; cases hq; done) | decide | omega | (simp only [List.length_map, List.length_append, List.length_cons, List.length_nil, List.length_replicate]; done) | (simp only [room, maxLen, allOnes, oneV, List.length_map, List.length_append, List.length_cons, List.length_nil, List.length_replicate] at *; omega) | (simp only [decide_eq_true_eq, decide_eq_false_iff_not, Bool.not_eq_true', Bool.not_eq_false', Bool.and_eq_true, Bool.or_eq_true, Bool.and_eq_false_iff, Bool.or_eq_false_iff, Int.not_le, Int.not_lt, Decidable.not_not, ne_eq, not_true_eq_false, not_false_eq_true, decide_true, decide_false, Bool.not_true, Bool.not_false, Bool.false_eq_true, reduceCtorEq, List.length_map, beq_self_eq_true, Bool.and_true, Bool.true_and, Bool.false_and, Bool.and_false] at * <;> omega)))))
        | (first | (simp only [mkS_app, mkS_size]) | (simp only [e1]) | (simp only [e2]) | (simp only [e3]) | (with_reducible refine runR_call (port_spec _) ?_) | (with_reducible refine runR_call (between_spec _ _ _) ?_) | (with_reducible refine runR_call hu ?_) | (with_reducible refine runR_call hv ?_) | (with_reducible refine runR_call hs ?_) | (with_reducible refine runR_call ho ?_) | (with_reducible refine runR_call (dword_spec _) ?_) | (with_reducible refine runR_call (word_spec _ (by omega)) ?_))
        | (dsimp only [run, undef, runR_ok, runR_t, runR_f, gd, gd2, skipR, ex1, pickR, boxR, loadR, loadO, storeR, storeO, nilR, fieldAR, fieldR, partOf, binR, intBin, unR, boolR, kindEq, shiftOp, onlyIf, orB, convR, extR, lenR, indexSlR, indexArrR, putE, updL, keysOf, lget, lset, evT, evs, Env.get, Env.set, N8.get, N8.set, env0, cellsD, oneD, oneV, andB, allOne, lenB, mapV, dget, ddrop, dtake, splice, xget, xset, partsD, partsOk, partsE, partsEOk, repl, elemsR, elemsO, xdrop, xtake, allOnes, appN, appOwn, appNew, appY, cellEq_i, cellEq_b, cellEq_s, consO, cmpAll, allB, negB, eqsO, eqsR, eqbR, minR, evO, bndO, keepB, snapCut, slCut, nilCut, sliceR, isS, isnilL, isnilX, isnilR, strBin, sbinR, slenR, strAtR, substrB, substrR, makeR, clearO, clearR, sliceW1, sliceW2, sliceW3, sliceWR, appWO, appWR, okByte, okBytes, b2sR, indexVR, isnilPR, appD, callvR, cond, condK_t, condK_f, argsE, slots0, List.length_cons, List.length_nil, Bool.true_or, Bool.false_or, Bool.or_true, Bool.or_false, bnf, bnt, Nat.add_zero, Nat.zero_add, Nat.reduceAdd, Nat.reduceMul, Int.reduceToNat, endS])
        | (with_reducible refine runR_b (fun h => ?_) (fun h => ?_) <;> first | (exfalso; (simp only [decide_eq_true_eq, decide_eq_false_iff_not, Bool.not_eq_true', Bool.not_eq_false', Bool.and_eq_true, Bool.or_eq_true, Bool.and_eq_false_iff, Bool.or_eq_false_iff, Int.not_le, Int.not_lt, Decidable.not_not, ne_eq, not_true_eq_false, not_false_eq_true, decide_true, decide_false, Bool.not_true, Bool.not_false, Bool.false_eq_true, reduceCtorEq, List.length_map, beq_self_eq_true, Bool.and_true, Bool.true_and, Bool.false_and, Bool.and_false] at * <;> omega); done) | simp only [h, runR_t, runR_f])
        | (with_reducible refine condK_bl ?_ ?_)
        | (with_reducible refine condK_b (fun h => ?_) (fun h => ?_) <;> first | (exfalso; (simp only [decide_eq_true_eq, decide_eq_false_iff_not, Bool.not_eq_true', Bool.not_eq_false', Bool.and_eq_true, Bool.or_eq_true, Bool.and_eq_false_iff, Bool.or_eq_false_iff, Int.not_le, Int.not_lt, Decidable.not_not, ne_eq, not_true_eq_false, not_false_eq_true, decide_true, decide_false, Bool.not_true, Bool.not_false, Bool.false_eq_true, reduceCtorEq, List.length_map, beq_self_eq_true, Bool.and_true, Bool.true_and, Bool.false_and, Bool.and_false] at * <;> omega); done) | skip)
        | (refine runR_n (by simp only [mkS_app, mkS_size, List.length_append, und_len, lg_len, wd_len, letHd, List.length_take, List.length_drop]; omega) ?_))
      (all_goals first | (exfalso; (try simp only [List.length_map] at *); first | omega | (simp only [decide_eq_true_eq, decide_eq_false_iff_not, Bool.not_eq_true', Bool.not_eq_false', Bool.and_eq_true, Bool.or_eq_true, Bool.and_eq_false_iff, Bool.or_eq_false_iff, Int.not_le, Int.not_lt, Decidable.not_not, ne_eq, not_true_eq_false, not_false_eq_true, decide_true, decide_false, Bool.not_true, Bool.not_false, Bool.false_eq_true, reduceCtorEq, List.length_map, beq_self_eq_true, Bool.and_true, Bool.true_and, Bool.false_and, Bool.and_false] at * <;> omega)) | skip)
      all_goals with_reducible refine ret_spec (by (try dsimp only [RetOK, resOk, resDs, resD, resV, cellV, cellO, cellP, cellOk, htake, nfD, nfL, nfLL, nfH, lget, partOf, xget, ddrop, dtake, dget, Env.get, N8.get, env0, List.length_cons, List.length_nil, Env.set, N8.set, lset, updL]); (repeat' (first | exact trivial | exact rfl | decide | apply And.intro))) (by (try dsimp only [RetOK, resOk, resDs, resD, resV, cellV, cellO, cellP, cellOk, htake, nfD, nfL, nfLL, nfH, lget, partOf, xget, ddrop, dtake, dget, Env.get, N8.get, env0, List.length_cons, List.length_nil, Env.set, N8.set, lset, updL]); (repeat' (first | exact trivial | exact nfLL_map (fun x => by simp [nfL, nfD, nfD, nfL]) | apply And.intro))) ?_
      all_goals (try dsimp only [RetOK, resOk, resDs, resD, resV, cellV, cellO, cellP, cellOk, htake, nfD, nfL, nfLL, nfH, lget, partOf, xget, ddrop, dtake, dget, Env.get, N8.get, env0, List.length_cons, List.length_nil, Env.set, N8.set, lset, updL])
      all_goals (try simp only [decide_eq_true_eq, decide_eq_false_iff_not, Bool.not_eq_true', Bool.not_eq_false', Bool.and_eq_true, Bool.or_eq_true, Bool.and_eq_false_iff, Bool.or_eq_false_iff] at *)
      all_goals rfl
  · have hr : letW f t d a b = ([], 1) := by unfold letW; rw [if_pos (fun q => hf q.1)]
    rw [hr]
    refine hspec_fn Try.func13 rfl ok_dgram_Write okr_dgram_Write rfl (by kernel_rfl) ?_
    intro Γ hW0 hN0 hL0
    have hW := hW0 rfl
    clear hW0 hN0 hL0
    unfold x_dgram_Write r_dgram_Write
    repeat' (first
      | (with_reducible refine go_seq ?_)
      | (with_reducible refine go_region ?_)
      | (with_reducible refine go_regionD mixed_ok ?_)
      | (with_reducible refine go_cond ?_)
      | (with_reducible refine go_skip ?_)
      | (with_reducible refine go_block ?_)
      | (with_reducible refine nx_code ?_)
      | (with_reducible refine nx_block ?_)
      | (with_reducible refine go_ret ?_)
      | (with_reducible refine nx_nil ?_)
      | (with_reducible refine go_exit ?_)
      | (with_reducible refine ex_code ?_)
      | (with_reducible refine ex_loop ?_)
      | (with_reducible refine ex_here ?_)
      | ((with_reducible refine ex_past ?_ ?_); (exact by decide))
      | ((with_reducible refine endD_intro ?_ ?_); (exact by kernel_rfl))
      | ((with_reducible refine runR_n ?_ ?_); (solve | ((repeat' (first | exact trivial | exact rfl | apply And.intro)) <;> (first | exact rfl | (intro hq; cases hq; done) | decide | omega | (simp only [List.length_map, List.length_append, List.length_cons, List.length_nil, List.length_replicate]; done) | (simp only [room, maxLen, allOnes, oneV, List.length_map, List.length_append, List.length_cons, List.length_nil, List.length_replicate] at *; omega) | (simp only [decide_eq_true_eq, decide_eq_false_iff_not, Bool.not_eq_true', Bool.not_eq_false', Bool.and_eq_true, Bool.or_eq_true, Bool.and_eq_false_iff, Bool.or_eq_false_iff, Int.not_le, Int.not_lt, Decidable.not_not, ne_eq, not_true_eq_false, not_false_eq_true, decide_true, decide_false, Bool.not_true, Bool.not_false, Bool.false_eq_true, reduceCtorEq, List.length_map, beq_self_eq_true, Bool.and_true, Bool.true_and, Bool.false_and, Bool.and_false] at * <;> omega)))))
      | (first | (simp only [mkS_app, mkS_size]) | (simp only [e1]) | (simp only [e2]) | (simp only [e3]) | (with_reducible refine runR_call (port_spec _) ?_) | (with_reducible refine runR_call (between_spec _ _ _) ?_) | (with_reducible refine runR_call hu ?_) | (with_reducible refine runR_call hv ?_) | (with_reducible refine runR_call hs ?_) | (with_reducible refine runR_call ho ?_) | (with_reducible refine runR_call (dword_spec _) ?_) | (with_reducible refine runR_call (word_spec _ (by omega)) ?_))
      | (dsimp only [run, undef, runR_ok, runR_t, runR_f, gd, gd2, skipR, ex1, pickR, boxR, loadR, loadO, storeR, storeO, nilR, fieldAR, fieldR, partOf, binR, intBin, unR, boolR, kindEq, shiftOp, onlyIf, orB, convR, extR, lenR, indexSlR, indexArrR, putE, updL, keysOf, lget, lset, evT, evs, Env.get, Env.set, N8.get, N8.set, env0, cellsD, oneD, oneV, andB, allOne, lenB, mapV, dget, ddrop, dtake, splice, xget, xset, partsD, partsOk, partsE, partsEOk, repl, elemsR, elemsO, xdrop, xtake, allOnes, appN, appOwn, appNew, appY, cellEq_i, cellEq_b, cellEq_s, consO, cmpAll, allB, negB, eqsO, eqsR, eqbR, minR, evO, bndO, keepB, snapCut, slCut, nilCut, sliceR, isS, isnilL, isnilX, isnilR, strBin, sbinR, slenR, strAtR, substrB, substrR, makeR, clearO, clearR, sliceW1, sliceW2, sliceW3, sliceWR, appWO, appWR, okByte, okBytes, b2sR, indexVR, isnilPR, appD, callvR, cond, condK_t, condK_f, argsE, slots0, List.length_cons, List.length_nil, Bool.true_or, Bool.false_or, Bool.or_true, Bool.or_false, bnf, bnt, Nat.add_zero, Nat.zero_add, Nat.reduceAdd, Nat.reduceMul, Int.reduceToNat, endS])
      | (with_reducible refine runR_b (fun h => ?_) (fun h => ?_) <;> first | (exfalso; (simp only [decide_eq_true_eq, decide_eq_false_iff_not, Bool.not_eq_true', Bool.not_eq_false', Bool.and_eq_true, Bool.or_eq_true, Bool.and_eq_false_iff, Bool.or_eq_false_iff, Int.not_le, Int.not_lt, Decidable.not_not, ne_eq, not_true_eq_false, not_false_eq_true, decide_true, decide_false, Bool.not_true, Bool.not_false, Bool.false_eq_true, reduceCtorEq, List.length_map, beq_self_eq_true, Bool.and_true, Bool.true_and, Bool.false_and, Bool.and_false] at * <;> omega); done) | simp only [h, runR_t, runR_f])
      | (with_reducible refine condK_bl ?_ ?_)
      | (with_reducible refine condK_b (fun h => ?_) (fun h => ?_) <;> first | (exfalso; (simp only [decide_eq_true_eq, decide_eq_false_iff_not, Bool.not_eq_true', Bool.not_eq_false', Bool.and_eq_true, Bool.or_eq_true, Bool.and_eq_false_iff, Bool.or_eq_false_iff, Int.not_le, Int.not_lt, Decidable.not_not, ne_eq, not_true_eq_false, not_false_eq_true, decide_true, decide_false, Bool.not_true, Bool.not_false, Bool.false_eq_true, reduceCtorEq, List.length_map, beq_self_eq_true, Bool.and_true, Bool.true_and, Bool.false_and, Bool.and_false] at * <;> omega); done) | skip)
      | (refine runR_n (by simp only [mkS_app, mkS_size, List.length_append, und_len, lg_len, wd_len, letHd, List.length_take, List.length_drop]; omega) ?_))
    (all_goals first | (exfalso; (try simp only [List.length_map] at *); first | omega | (simp only [decide_eq_true_eq, decide_eq_false_iff_not, Bool.not_eq_true', Bool.not_eq_false', Bool.and_eq_true, Bool.or_eq_true, Bool.and_eq_false_iff, Bool.or_eq_false_iff, Int.not_le, Int.not_lt, Decidable.not_not, ne_eq, not_true_eq_false, not_false_eq_true, decide_true, decide_false, Bool.not_true, Bool.not_false, Bool.false_eq_true, reduceCtorEq, List.length_map, beq_self_eq_true, Bool.and_true, Bool.true_and, Bool.false_and, Bool.and_false] at * <;> omega)) | skip)
    all_goals with_reducible refine ret_spec (by (try dsimp only [RetOK, resOk, resDs, resD, resV, cellV, cellO, cellP, cellOk, htake, nfD, nfL, nfLL, nfH, lget, partOf, xget, ddrop, dtake, dget, Env.get, N8.get, env0, List.length_cons, List.length_nil, Env.set, N8.set, lset, updL]); (repeat' (first | exact trivial | exact rfl | decide | apply And.intro))) (by (try dsimp only [RetOK, resOk, resDs, resD, resV, cellV, cellO, cellP, cellOk, htake, nfD, nfL, nfLL, nfH, lget, partOf, xget, ddrop, dtake, dget, Env.get, N8.get, env0, List.length_cons, List.length_nil, Env.set, N8.set, lset, updL]); (repeat' (first | exact trivial | exact nfLL_map (fun x => by simp [nfL, nfD, nfD, nfL]) | apply And.intro))) ?_
    all_goals (try dsimp only [RetOK, resOk, resDs, resD, resV, cellV, cellO, cellP, cellOk, htake, nfD, nfL, nfLL, nfH, lget, partOf, xget, ddrop, dtake, dget, Env.get, N8.get, env0, List.length_cons, List.length_nil, Env.set, N8.set, lset, updL])
    all_goals (try simp only [decide_eq_true_eq, decide_eq_false_iff_not, Bool.not_eq_true', Bool.not_eq_false', Bool.and_eq_true, Bool.or_eq_true, Bool.and_eq_false_iff, Bool.or_eq_false_iff] at *)
    all_goals rfl
set_option maxHeartbeats 2000000 in
theorem ltext_spec (f t : Int) (d : List UInt8) (a b : Int) (ha : 0 ≤ a ∧ a < 4294967296) (hb : 0 ≤ b ∧ b < 4294967296) (hd : d.length ≤ 140737488351232) : Spec Try.prog 14 [dL f t d, .v (.int .u32 a), .v (.int .u32 b)] (dSE (letW f t d a b)) := by
  have e1 : IntKind.i64.wrap ((d.length : Nat) + 8) = (d.length : Int) + 8 := IntWalk.i64_in _ (by omega)
  by_cases hf : 0 ≤ f ∧ f ≤ 65535
  · by_cases ht : 0 ≤ t ∧ t ≤ 65535
    · by_cases hl : 65507 < d.length
      · have hr : letW f t d a b = ([], 2) := by unfold letW; rw [if_neg (not_not_intro ⟨hf, ht⟩), if_pos hl]
        rw [hr]
        refine hspec_fn Try.func14 rfl ok_custref_LetterText okr_custref_LetterText rfl (by kernel_rfl) ?_
        intro Γ hW0 hN0 hL0
        have hW := hW0 rfl
        clear hW0 hN0 hL0
        unfold x_custref_LetterText r_custref_LetterText
        repeat' (first
          | (with_reducible refine go_seq ?_)
          | (with_reducible refine go_region ?_)
          | (with_reducible refine go_regionD mixed_ok ?_)
          | (with_reducible refine go_cond ?_)
          | (with_reducible refine go_skip ?_)
          | (with_reducible refine go_block ?_)
          | (with_reducible refine nx_code ?_)
          | (with_reducible refine nx_block ?_)
          | (with_reducible refine go_ret ?_)
          | (with_reducible refine nx_nil ?_)
          | (with_reducible refine go_exit ?_)
          | (with_reducible refine ex_code ?_)
          | (with_reducible refine ex_loop ?_)
          | (with_reducible refine ex_here ?_)
          | ((with_reducible refine ex_past ?_ ?_); (exact by decide))
          | ((with_reducible refine endD_intro ?_ ?_); (exact by kernel_rfl))
          | ((with_reducible refine runR_n ?_ ?_); (solve | ((repeat' (first | exact trivial | exact rfl | apply And.intro)) <;> (first | exact rfl | (intro hq; cases hq; done) | decide | omega | (simp only [List.length_map, List.length_append, List.length_cons, List.length_nil, List.length_replicate]; done) | (simp only [room, maxLen, allOnes, oneV, List.length_map, List.length_append, List.length_cons, List.length_nil, List.length_replicate] at *; omega) | (simp only [decide_eq_true_eq, decide_eq_false_iff_not, Bool.not_eq_true', Bool.not_eq_false', Bool.and_eq_true, Bool.or_eq_true, Bool.and_eq_false_iff, Bool.or_eq_false_iff, Int.not_le, Int.not_lt, Decidable.not_not, ne_eq, not_true_eq_false, not_false_eq_true, decide_true, decide_false, Bool.not_true, Bool.not_false, Bool.false_eq_true, reduceCtorEq, List.length_map, beq_self_eq_true, Bool.and_true, Bool.true_and, Bool.false_and, Bool.and_false] at * <;> omega)))))
          | (first | (simp only [mkS_app, mkS_size]) | (simp only [e1]) | (simp only [e2]) | (simp only [e3]) | (with_reducible refine runR_call (port_spec _) ?_) | (with_reducible refine runR_call (between_spec _ _ _) ?_) | (with_reducible refine runR_call hu ?_) | (with_reducible refine runR_call hv ?_) | (with_reducible refine runR_call hs ?_) | (with_reducible refine runR_call ho ?_) | (with_reducible refine runR_call (dword_spec _) ?_) | (with_reducible refine runR_call (word_spec _ (by omega)) ?_))
          | (dsimp only [run, undef, runR_ok, runR_t, runR_f, gd, gd2, skipR, ex1, pickR, boxR, loadR, loadO, storeR, storeO, nilR, fieldAR, fieldR, partOf, binR, intBin, unR, boolR, kindEq, shiftOp, onlyIf, orB, convR, extR, lenR, indexSlR, indexArrR, putE, updL, keysOf, lget, lset, evT, evs, Env.get, Env.set, N8.get, N8.set, env0, cellsD, oneD, oneV, andB, allOne, lenB, mapV, dget, ddrop, dtake, splice, xget, xset, partsD, partsOk, partsE, partsEOk, repl, elemsR, elemsO, xdrop, xtake, allOnes, appN, appOwn, appNew, appY, cellEq_i, cellEq_b, cellEq_s, consO, cmpAll, allB, negB, eqsO, eqsR, eqbR, minR, evO, bndO, keepB, snapCut, slCut, nilCut, sliceR, isS, isnilL, isnilX, isnilR, strBin, sbinR, slenR, strAtR, substrB, substrR, makeR, clearO, clearR, sliceW1, sliceW2, sliceW3, sliceWR, appWO, appWR, okByte, okBytes, b2sR, indexVR, isnilPR, appD, callvR, cond, condK_t, condK_f, argsE, slots0, List.length_cons, List.length_nil, Bool.true_or, Bool.false_or, Bool.or_true, Bool.or_false, bnf, bnt, Nat.add_zero, Nat.zero_add, Nat.reduceAdd, Nat.reduceMul, Int.reduceToNat, endS])
          | (with_reducible refine runR_b (fun h => ?_) (fun h => ?_) <;> first | (exfalso; (simp only [decide_eq_true_eq, decide_eq_false_iff_not, Bool.not_eq_true', Bool.not_eq_false', Bool.and_eq_true, Bool.or_eq_true, Bool.and_eq_false_iff, Bool.or_eq_false_iff, Int.not_le, Int.not_lt, Decidable.not_not, ne_eq, not_true_eq_false, not_false_eq_true, decide_true, decide_false, Bool.not_true, Bool.not_false, Bool.false_eq_true, reduceCtorEq, List.length_map, beq_self_eq_true, Bool.and_true, Bool.true_and, Bool.false_and, Bool.and_false] at * <;> omega); done) | simp only [h, runR_t, runR_f])
          | (with_reducible refine condK_bl ?_ ?_)
          | (with_reducible refine condK_b (fun h => ?_) (fun h => ?_) <;> first | (exfalso; (simp only [decide_eq_true_eq, decide_eq_false_iff_not, Bool.not_eq_true', Bool.not_eq_false', Bool.and_eq_true, Bool.or_eq_true, Bool.and_eq_false_iff, Bool.or_eq_false_iff, Int.not_le, Int.not_lt, Decidable.not_not, ne_eq, not_true_eq_false, not_false_eq_true, decide_true, decide_false, Bool.not_true, Bool.not_false, Bool.false_eq_true, reduceCtorEq, List.length_map, beq_self_eq_true, Bool.and_true, Bool.true_and, Bool.false_and, Bool.and_false] at * <;> omega); done) | skip)
          | (refine runR_n (by simp only [mkS_app, mkS_size, List.length_append, und_len, lg_len, wd_len, letHd, List.length_take, List.length_drop]; omega) ?_))
        (all_goals first | (exfalso; (try simp only [List.length_map] at *); first | omega | (simp only [decide_eq_true_eq, decide_eq_false_iff_not, Bool.not_eq_true', Bool.not_eq_false', Bool.and_eq_true, Bool.or_eq_true, Bool.and_eq_false_iff, Bool.or_eq_false_iff, Int.not_le, Int.not_lt, Decidable.not_not, ne_eq, not_true_eq_false, not_false_eq_true, decide_true, decide_false, Bool.not_true, Bool.not_false, Bool.false_eq_true, reduceCtorEq, List.length_map, beq_self_eq_true, Bool.and_true, Bool.true_and, Bool.false_and, Bool.and_false] at * <;> omega)) | skip)
        all_goals with_reducible refine ret_spec (by (try dsimp only [RetOK, resOk, resDs, resD, resV, cellV, cellO, cellP, cellOk, htake, nfD, nfL, nfLL, nfH, lget, partOf, xget, ddrop, dtake, dget, Env.get, N8.get, env0, List.length_cons, List.length_nil, Env.set, N8.set, lset, updL]); (repeat' (first | exact trivial | exact rfl | decide | apply And.intro))) (by (try dsimp only [RetOK, resOk, resDs, resD, resV, cellV, cellO, cellP, cellOk, htake, nfD, nfL, nfLL, nfH, lget, partOf, xget, ddrop, dtake, dget, Env.get, N8.get, env0, List.length_cons, List.length_nil, Env.set, N8.set, lset, updL]); (repeat' (first | exact trivial | exact nfLL_map (fun x => by simp [nfL, nfD, nfD, nfL]) | apply And.intro))) ?_
        all_goals (try dsimp only [RetOK, resOk, resDs, resD, resV, cellV, cellO, cellP, cellOk, htake, nfD, nfL, nfLL, nfH, lget, partOf, xget, ddrop, dtake, dget, Env.get, N8.get, env0, List.length_cons, List.length_nil, Env.set, N8.set, lset, updL])
        all_goals (try simp only [decide_eq_true_eq, decide_eq_false_iff_not, Bool.not_eq_true', Bool.not_eq_false', Bool.and_eq_true, Bool.or_eq_true, Bool.and_eq_false_iff, Bool.or_eq_false_iff] at *)
        all_goals rfl
      · have hr : letW f t d a b = (letHd f t ((d.length : Int) + 8) ++ wd (letC f t d a b) ++ d, 0) := by unfold letW; rw [if_neg (not_not_intro ⟨hf, ht⟩), if_neg hl]
        rw [hr]
        have hu := underText_spec a b 17 ((d.length : Int) + 8) ha hb
        have hs := check_spec (und a b 17 ((d.length : Int) + 8) ++ (wd f ++ wd t) ++ wd ((d.length : Int) + 8) ++ wd 0 ++ d) (by simp only [List.length_append, und_len, wd_len]; omega)
        rw [wsum_zero] at hs
        have hbd := foldI_bd (wsum (und a b 17 ((d.length : Int) + 8) ++ letHd f t ((d.length : Int) + 8) ++ d)) (wsum_bd _).1
        unfold letC
        generalize foldI (wsum (und a b 17 ((d.length : Int) + 8) ++ letHd f t ((d.length : Int) + 8) ++ d)) = c at *
        unfold letHd
        by_cases hc : c = 65535
        · rw [if_pos hc]
          refine hspec_fn Try.func14 rfl ok_custref_LetterText okr_custref_LetterText rfl (by kernel_rfl) ?_
          intro Γ hW0 hN0 hL0
          have hW := hW0 rfl
          clear hW0 hN0 hL0
          unfold x_custref_LetterText r_custref_LetterText
          repeat' (first
            | (with_reducible refine go_seq ?_)
            | (with_reducible refine go_region ?_)
            | (with_reducible refine go_regionD mixed_ok ?_)
            | (with_reducible refine go_cond ?_)
            | (with_reducible refine go_skip ?_)
            | (with_reducible refine go_block ?_)
            | (with_reducible refine nx_code ?_)
            | (with_reducible refine nx_block ?_)
            | (with_reducible refine go_ret ?_)
            | (with_reducible refine nx_nil ?_)
            | (with_reducible refine go_exit ?_)
            | (with_reducible refine ex_code ?_)
            | (with_reducible refine ex_loop ?_)
            | (with_reducible refine ex_here ?_)
            | ((with_reducible refine ex_past ?_ ?_); (exact by decide))
            | ((with_reducible refine endD_intro ?_ ?_); (exact by kernel_rfl))
            | ((with_reducible refine runR_n ?_ ?_); (solve | ((repeat' (first | exact trivial | exact rfl | apply And.intro)) <;> (first | exact rfl | (intro hq; cases hq; done) | decide | omega | (simp only [List.length_map, List.length_append, List.length_cons, List.length_nil, List.length_replicate]; done) | (simp only [room, maxLen, allOnes, oneV, List.length_map, List.length_append, List.length_cons, List.length_nil, List.length_replicate] at *; omega) | (simp only [decide_eq_true_eq, decide_eq_false_iff_not, Bool.not_eq_true', Bool.not_eq_false', Bool.and_eq_true, Bool.or_eq_true, Bool.and_eq_false_iff, Bool.or_eq_false_iff, Int.not_le, Int.not_lt, Decidable.not_not, ne_eq, not_true_eq_false, not_false_eq_true, decide_true, decide_false, Bool.not_true, Bool.not_false, Bool.false_eq_true, reduceCtorEq, List.length_map, beq_self_eq_true, Bool.and_true, Bool.true_and, Bool.false_and, Bool.and_false] at * <;> omega)))))
            | (first | (simp only [mkS_app, mkS_size]) | (simp only [e1]) | (simp only [e2]) | (simp only [e3]) | (with_reducible refine runR_call (port_spec _) ?_) | (with_reducible refine runR_call (between_spec _ _ _) ?_) | (with_reducible refine runR_call hu ?_) | (with_reducible refine runR_call hv ?_) | (with_reducible refine runR_call hs ?_) | (with_reducible refine runR_call ho ?_) | (with_reducible refine runR_call (dword_spec _) ?_) | (with_reducible refine runR_call (word_spec _ (by omega)) ?_))
            | (dsimp only [run, undef, runR_ok, runR_t, runR_f, gd, gd2, skipR, ex1, pickR, boxR, loadR, loadO, storeR, storeO, nilR, fieldAR, fieldR, partOf, binR, intBin, unR, boolR, kindEq, shiftOp, onlyIf, orB, convR, extR, lenR, indexSlR, indexArrR, putE, updL, keysOf, lget, lset, evT, evs, Env.get, Env.set, N8.get, N8.set, env0, cellsD, oneD, oneV, andB, allOne, lenB, mapV, dget, ddrop, dtake, splice, xget, xset, partsD, partsOk, partsE, partsEOk, repl, elemsR, elemsO, xdrop, xtake, allOnes, appN, appOwn, appNew, appY, cellEq_i, cellEq_b, cellEq_s, consO, cmpAll, allB, negB, eqsO, eqsR, eqbR, minR, evO, bndO, keepB, snapCut, slCut, nilCut, sliceR, isS, isnilL, isnilX, isnilR, strBin, sbinR, slenR, strAtR, substrB, substrR, makeR, clearO, clearR, sliceW1, sliceW2, sliceW3, sliceWR, appWO, appWR, okByte, okBytes, b2sR, indexVR, isnilPR, appD, callvR, cond, condK_t, condK_f, argsE, slots0, List.length_cons, List.length_nil, Bool.true_or, Bool.false_or, Bool.or_true, Bool.or_false, bnf, bnt, Nat.add_zero, Nat.zero_add, Nat.reduceAdd, Nat.reduceMul, Int.reduceToNat, endS])
            | (with_reducible refine runR_b (fun h => ?_) (fun h => ?_) <;> first | (exfalso; (simp only [decide_eq_true_eq, decide_eq_false_iff_not, Bool.not_eq_true', Bool.not_eq_false', Bool.and_eq_true, Bool.or_eq_true, Bool.and_eq_false_iff, Bool.or_eq_false_iff, Int.not_le, Int.not_lt, Decidable.not_not, ne_eq, not_true_eq_false, not_false_eq_true, decide_true, decide_false, Bool.not_true, Bool.not_false, Bool.false_eq_true, reduceCtorEq, List.length_map, beq_self_eq_true, Bool.and_true, Bool.true_and, Bool.false_and, Bool.and_false] at * <;> omega); done) | simp only [h, runR_t, runR_f])
            | (with_reducible refine condK_bl ?_ ?_)
            | (with_reducible refine condK_b (fun h => ?_) (fun h => ?_) <;> first | (exfalso; (simp only [decide_eq_true_eq, decide_eq_false_iff_not, Bool.not_eq_true', Bool.not_eq_false', Bool.and_eq_true, Bool.or_eq_true, Bool.and_eq_false_iff, Bool.or_eq_false_iff, Int.not_le, Int.not_lt, Decidable.not_not, ne_eq, not_true_eq_false, not_false_eq_true, decide_true, decide_false, Bool.not_true, Bool.not_false, Bool.false_eq_true, reduceCtorEq, List.length_map, beq_self_eq_true, Bool.and_true, Bool.true_and, Bool.false_and, Bool.and_false] at * <;> omega); done) | skip)
            | (refine runR_n (by simp only [mkS_app, mkS_size, List.length_append, und_len, lg_len, wd_len, letHd, List.length_take, List.length_drop]; omega) ?_))
          (all_goals first | (exfalso; (try simp only [List.length_map] at *); first | omega | (simp only [decide_eq_true_eq, decide_eq_false_iff_not, Bool.not_eq_true', Bool.not_eq_false', Bool.and_eq_true, Bool.or_eq_true, Bool.and_eq_false_iff, Bool.or_eq_false_iff, Int.not_le, Int.not_lt, Decidable.not_not, ne_eq, not_true_eq_false, not_false_eq_true, decide_true, decide_false, Bool.not_true, Bool.not_false, Bool.false_eq_true, reduceCtorEq, List.length_map, beq_self_eq_true, Bool.and_true, Bool.true_and, Bool.false_and, Bool.and_false] at * <;> omega)) | skip)
          all_goals with_reducible refine ret_spec (by (try dsimp only [RetOK, resOk, resDs, resD, resV, cellV, cellO, cellP, cellOk, htake, nfD, nfL, nfLL, nfH, lget, partOf, xget, ddrop, dtake, dget, Env.get, N8.get, env0, List.length_cons, List.length_nil, Env.set, N8.set, lset, updL]); (repeat' (first | exact trivial | exact rfl | decide | apply And.intro))) (by (try dsimp only [RetOK, resOk, resDs, resD, resV, cellV, cellO, cellP, cellOk, htake, nfD, nfL, nfLL, nfH, lget, partOf, xget, ddrop, dtake, dget, Env.get, N8.get, env0, List.length_cons, List.length_nil, Env.set, N8.set, lset, updL]); (repeat' (first | exact trivial | exact nfLL_map (fun x => by simp [nfL, nfD, nfD, nfL]) | apply And.intro))) ?_
          all_goals (try dsimp only [RetOK, resOk, resDs, resD, resV, cellV, cellO, cellP, cellOk, htake, nfD, nfL, nfLL, nfH, lget, partOf, xget, ddrop, dtake, dget, Env.get, N8.get, env0, List.length_cons, List.length_nil, Env.set, N8.set, lset, updL])
          all_goals (try simp only [decide_eq_true_eq, decide_eq_false_iff_not, Bool.not_eq_true', Bool.not_eq_false', Bool.and_eq_true, Bool.or_eq_true, Bool.and_eq_false_iff, Bool.or_eq_false_iff] at *)
          all_goals rfl
        · rw [if_neg hc]
          refine hspec_fn Try.func14 rfl ok_custref_LetterText okr_custref_LetterText rfl (by kernel_rfl) ?_
          intro Γ hW0 hN0 hL0
          have hW := hW0 rfl
          clear hW0 hN0 hL0
          unfold x_custref_LetterText r_custref_LetterText
          repeat' (first
            | (with_reducible refine go_seq ?_)
            | (with_reducible refine go_region ?_)
            | (with_reducible refine go_regionD mixed_ok ?_)
            | (with_reducible refine go_cond ?_)
            | (with_reducible refine go_skip ?_)
            | (with_reducible refine go_block ?_)
            | (with_reducible refine nx_code ?_)
            | (with_reducible refine nx_block ?_)
            | (with_reducible refine go_ret ?_)
            | (with_reducible refine nx_nil ?_)
            | (with_reducible refine go_exit ?_)
            | (with_reducible refine ex_code ?_)
            | (with_reducible refine ex_loop ?_)
            | (with_reducible refine ex_here ?_)
            | ((with_reducible refine ex_past ?_ ?_); (exact by decide))
            | ((with_reducible refine endD_intro ?_ ?_); (exact by kernel_rfl))
            | ((with_reducible refine runR_n ?_ ?_); (solve | ((repeat' (first | exact trivial | exact rfl | apply And.intro)) <;> (first | exact rfl | (intro hq; cases hq; done) | decide | omega | (simp only [List.length_map, List.length_append, List.length_cons, List.length_nil, List.length_replicate]; done) | (simp only [room, maxLen, allOnes, oneV, List.length_map, List.length_append, List.length_cons, List.length_nil, List.length_replicate] at *; omega) | (simp only [decide_eq_true_eq, decide_eq_false_iff_not, Bool.not_eq_true', Bool.not_eq_false', Bool.and_eq_true, Bool.or_eq_true, Bool.and_eq_false_iff, Bool.or_eq_false_iff, Int.not_le, Int.not_lt, Decidable.not_not, ne_eq, not_true_eq_false, not_false_eq_true, decide_true, decide_false, Bool.not_true, Bool.not_false, Bool.false_eq_true, reduceCtorEq, List.length_map, beq_self_eq_true, Bool.and_true, Bool.true_and, Bool.false_and, Bool.and_false] at * <;> omega)))))
            | (first | (simp only [mkS_app, mkS_size]) | (simp only [e1]) | (simp only [e2]) | (simp only [e3]) | (with_reducible refine runR_call (port_spec _) ?_) | (with_reducible refine runR_call (between_spec _ _ _) ?_) | (with_reducible refine runR_call hu ?_) | (with_reducible refine runR_call hv ?_) | (with_reducible refine runR_call hs ?_) | (with_reducible refine runR_call ho ?_) | (with_reducible refine runR_call (dword_spec _) ?_) | (with_reducible refine runR_call (word_spec _ (by omega)) ?_))
            | (dsimp only [run, undef, runR_ok, runR_t, runR_f, gd, gd2, skipR, ex1, pickR, boxR, loadR, loadO, storeR, storeO, nilR, fieldAR, fieldR, partOf, binR, intBin, unR, boolR, kindEq, shiftOp, onlyIf, orB, convR, extR, lenR, indexSlR, indexArrR, putE, updL, keysOf, lget, lset, evT, evs, Env.get, Env.set, N8.get, N8.set, env0, cellsD, oneD, oneV, andB, allOne, lenB, mapV, dget, ddrop, dtake, splice, xget, xset, partsD, partsOk, partsE, partsEOk, repl, elemsR, elemsO, xdrop, xtake, allOnes, appN, appOwn, appNew, appY, cellEq_i, cellEq_b, cellEq_s, consO, cmpAll, allB, negB, eqsO, eqsR, eqbR, minR, evO, bndO, keepB, snapCut, slCut, nilCut, sliceR, isS, isnilL, isnilX, isnilR, strBin, sbinR, slenR, strAtR, substrB, substrR, makeR, clearO, clearR, sliceW1, sliceW2, sliceW3, sliceWR, appWO, appWR, okByte, okBytes, b2sR, indexVR, isnilPR, appD, callvR, cond, condK_t, condK_f, argsE, slots0, List.length_cons, List.length_nil, Bool.true_or, Bool.false_or, Bool.or_true, Bool.or_false, bnf, bnt, Nat.add_zero, Nat.zero_add, Nat.reduceAdd, Nat.reduceMul, Int.reduceToNat, endS])
            | (with_reducible refine runR_b (fun h => ?_) (fun h => ?_) <;> first | (exfalso; (simp only [decide_eq_true_eq, decide_eq_false_iff_not, Bool.not_eq_true', Bool.not_eq_false', Bool.and_eq_true, Bool.or_eq_true, Bool.and_eq_false_iff, Bool.or_eq_false_iff, Int.not_le, Int.not_lt, Decidable.not_not, ne_eq, not_true_eq_false, not_false_eq_true, decide_true, decide_false, Bool.not_true, Bool.not_false, Bool.false_eq_true, reduceCtorEq, List.length_map, beq_self_eq_true, Bool.and_true, Bool.true_and, Bool.false_and, Bool.and_false] at * <;> omega); done) | simp only [h, runR_t, runR_f])
            | (with_reducible refine condK_bl ?_ ?_)
            | (with_reducible refine condK_b (fun h => ?_) (fun h => ?_) <;> first | (exfalso; (simp only [decide_eq_true_eq, decide_eq_false_iff_not, Bool.not_eq_true', Bool.not_eq_false', Bool.and_eq_true, Bool.or_eq_true, Bool.and_eq_false_iff, Bool.or_eq_false_iff, Int.not_le, Int.not_lt, Decidable.not_not, ne_eq, not_true_eq_false, not_false_eq_true, decide_true, decide_false, Bool.not_true, Bool.not_false, Bool.false_eq_true, reduceCtorEq, List.length_map, beq_self_eq_true, Bool.and_true, Bool.true_and, Bool.false_and, Bool.and_false] at * <;> omega); done) | skip)
            | (refine runR_n (by simp only [mkS_app, mkS_size, List.length_append, und_len, lg_len, wd_len, letHd, List.length_take, List.length_drop]; omega) ?_))
          (all_goals first | (exfalso; (try simp only [List.length_map] at *); first | omega | (simp only [decide_eq_true_eq, decide_eq_false_iff_not, Bool.not_eq_true', Bool.not_eq_false', Bool.and_eq_true, Bool.or_eq_true, Bool.and_eq_false_iff, Bool.or_eq_false_iff, Int.not_le, Int.not_lt, Decidable.not_not, ne_eq, not_true_eq_false, not_false_eq_true, decide_true, decide_false, Bool.not_true, Bool.not_false, Bool.false_eq_true, reduceCtorEq, List.length_map, beq_self_eq_true, Bool.and_true, Bool.true_and, Bool.false_and, Bool.and_false] at * <;> omega)) | skip)
          all_goals with_reducible refine ret_spec (by (try dsimp only [RetOK, resOk, resDs, resD, resV, cellV, cellO, cellP, cellOk, htake, nfD, nfL, nfLL, nfH, lget, partOf, xget, ddrop, dtake, dget, Env.get, N8.get, env0, List.length_cons, List.length_nil, Env.set, N8.set, lset, updL]); (repeat' (first | exact trivial | exact rfl | decide | apply And.intro))) (by (try dsimp only [RetOK, resOk, resDs, resD, resV, cellV, cellO, cellP, cellOk, htake, nfD, nfL, nfLL, nfH, lget, partOf, xget, ddrop, dtake, dget, Env.get, N8.get, env0, List.length_cons, List.length_nil, Env.set, N8.set, lset, updL]); (repeat' (first | exact trivial | exact nfLL_map (fun x => by simp [nfL, nfD, nfD, nfL]) | apply And.intro))) ?_
          all_goals (try dsimp only [RetOK, resOk, resDs, resD, resV, cellV, cellO, cellP, cellOk, htake, nfD, nfL, nfLL, nfH, lget, partOf, xget, ddrop, dtake, dget, Env.get, N8.get, env0, List.length_cons, List.length_nil, Env.set, N8.set, lset, updL])
          all_goals (try simp only [decide_eq_true_eq, decide_eq_false_iff_not, Bool.not_eq_true', Bool.not_eq_false', Bool.and_eq_true, Bool.or_eq_true, Bool.and_eq_false_iff, Bool.or_eq_false_iff] at *)
          all_goals rfl
    · have hr : letW f t d a b = ([], 1) := by unfold letW; rw [if_pos (fun q => ht q.2)]
      rw [hr]
      refine hspec_fn Try.func14 rfl ok_custref_LetterText okr_custref_LetterText rfl (by kernel_rfl) ?_
      intro Γ hW0 hN0 hL0
      have hW := hW0 rfl
      clear hW0 hN0 hL0
      unfold x_custref_LetterText r_custref_LetterText
      repeat' (first
        | (with_reducible refine go_seq ?_)
        | (with_reducible refine go_region ?_)
        | (with_reducible refine go_regionD mixed_ok ?_)
        | (with_reducible refine go_cond ?_)
        | (with_reducible refine go_skip ?_)
        | (with_reducible refine go_block ?_)
        | (with_reducible refine nx_code ?_)
        | (with_reducible refine nx_block ?_)
        | (with_reducible refine go_ret ?_)
        | (with_reducible refine nx_nil ?_)
        | (with_reducible refine go_exit ?_)
        | (with_reducible refine ex_code ?_)
        | (with_reducible refine ex_loop ?_)
        | (with_reducible refine ex_here ?_)
        | ((with_reducible refine ex_past ?_ ?_); (exact by decide))
        | ((with_reducible refine endD_intro ?_ ?_); (exact by kernel_rfl))
        | ((with_reducible refine runR_n ?_ ?_); (solve | ((repeat' (first | exact trivial | exact rfl | apply And.intro)) <;> (first | exact rfl | (intro hq; cases hq; done) | decide | omega | (simp only [List.length_map, List.length_append, List.length_cons, List.length_nil, List.length_replicate]; done) | (simp only [room, maxLen, allOnes, oneV, List.length_map, List.length_append, List.length_cons, List.length_nil, List.length_replicate] at *; omega) | (simp only [decide_eq_true_eq, decide_eq_false_iff_not, Bool.not_eq_true', Bool.not_eq_false', Bool.and_eq_true, Bool.or_eq_true, Bool.and_eq_false_iff, Bool.or_eq_false_iff, Int.not_le, Int.not_lt, Decidable.not_not, ne_eq, not_true_eq_false, not_false_eq_true, decide_true, decide_false, Bool.not_true, Bool.not_false, Bool.false_eq_true, reduceCtorEq, List.length_map, beq_self_eq_true, Bool.and_true, Bool.true_and, Bool.false_and, Bool.and_false] at * <;> omega)))))
        | (first | (simp only [mkS_app, mkS_size]) | (simp only [e1]) | (simp only [e2]) | (simp only [e3]) | (with_reducible refine runR_call (port_spec _) ?_) | (with_reducible refine runR_call (between_spec _ _ _) ?_) | (with_reducible refine runR_call hu ?_) | (with_reducible refine runR_call hv ?_) | (with_reducible refine runR_call hs ?_) | (with_reducible refine runR_call ho ?_) | (with_reducible refine runR_call (dword_spec _) ?_) | (with_reducible refine runR_call (word_spec _ (by omega)) ?_))
        | (dsimp only [run, undef, runR_ok, runR_t, runR_f, gd, gd2, skipR, ex1, pickR, boxR, loadR, loadO, storeR, storeO, nilR, fieldAR, fieldR, partOf, binR, intBin, unR, boolR, kindEq, shiftOp, onlyIf, orB, convR, extR, lenR, indexSlR, indexArrR, putE, updL, keysOf, lget, lset, evT, evs, Env.get, Env.set, N8.get, N8.set, env0, cellsD, oneD, oneV, andB, allOne, lenB, mapV, dget, ddrop, dtake, splice, xget, xset, partsD, partsOk, partsE, partsEOk, repl, elemsR, elemsO, xdrop, xtake, allOnes, appN, appOwn, appNew, appY, cellEq_i, cellEq_b, cellEq_s, consO, cmpAll, allB, negB, eqsO, eqsR, eqbR, minR, evO, bndO, keepB, snapCut, slCut, nilCut, sliceR, isS, isnilL, isnilX, isnilR, strBin, sbinR, slenR, strAtR, substrB, substrR, makeR, clearO, clearR, sliceW1, sliceW2, sliceW3, sliceWR, appWO, appWR, okByte, okBytes, b2sR, indexVR, isnilPR, appD, callvR, cond, condK_t, condK_f, argsE, slots0, List.length_cons, List.length_nil, Bool.true_or, Bool.false_or, Bool.or_true, Bool.or_false, bnf, bnt, Nat.add_zero, Nat.zero_add, Nat.reduceAdd, Nat.reduceMul, Int.reduceToNat, endS])
        | (with_reducible refine runR_b (fun h => ?_) (fun h => ?_) <;> first | (exfalso; (simp only [decide_eq_true_eq, decide_eq_false_iff_not, Bool.not_eq_true', Bool.not_eq_false', Bool.and_eq_true, Bool.or_eq_true, Bool.and_eq_false_iff, Bool.or_eq_false_iff, Int.not_le, Int.not_lt, Decidable.not_not, ne_eq, not_true_eq_false, not_false_eq_true, decide_true, decide_false, Bool.not_true, Bool.not_false, Bool.false_eq_true, reduceCtorEq, List.length_map, beq_self_eq_true, Bool.and_true, Bool.true_and, Bool.false_and, Bool.and_false] at * <;> omega); done) | simp only [h, runR_t, runR_f])
        | (with_reducible refine condK_bl ?_ ?_)
        | (with_reducible refine condK_b (fun h => ?_) (fun h => ?_) <;> first | (exfalso; (simp only [decide_eq_true_eq, decide_eq_false_iff_not, Bool.not_eq_true', Bool.not_eq_false', Bool.and_eq_true, Bool.or_eq_true, Bool.and_eq_false_iff, Bool.or_eq_false_iff, Int.not_le, Int.not_lt, Decidable.not_not, ne_eq, not_true_eq_false, not_false_eq_true, decide_true, decide_false, Bool.not_true, Bool.not_false, Bool.false_eq_true, reduceCtorEq, List.length_map, beq_self_eq_true, Bool.and_true, Bool.true_and, Bool.false_and, Bool.and_false] at * <;> omega); done) | skip)
        | (refine runR_n (by simp only [mkS_app, mkS_size, List.length_append, und_len, lg_len, wd_len, letHd, List.length_take, List.length_drop]; omega) ?_))
      (all_goals first | (exfalso; (try simp only [List.length_map] at *); first | omega | (simp only [decide_eq_true_eq, decide_eq_false_iff_not, Bool.not_eq_true', Bool.not_eq_false', Bool.and_eq_true, Bool.or_eq_true, Bool.and_eq_false_iff, Bool.or_eq_false_iff, Int.not_le, Int.not_lt, Decidable.not_not, ne_eq, not_true_eq_false, not_false_eq_true, decide_true, decide_false, Bool.not_true, Bool.not_false, Bool.false_eq_true, reduceCtorEq, List.length_map, beq_self_eq_true, Bool.and_true, Bool.true_and, Bool.false_and, Bool.and_false] at * <;> omega)) | skip)
      all_goals with_reducible refine ret_spec (by (try dsimp only [RetOK, resOk, resDs, resD, resV, cellV, cellO, cellP, cellOk, htake, nfD, nfL, nfLL, nfH, lget, partOf, xget, ddrop, dtake, dget, Env.get, N8.get, env0, List.length_cons, List.length_nil, Env.set, N8.set, lset, updL]); (repeat' (first | exact trivial | exact rfl | decide | apply And.intro))) (by (try dsimp only [RetOK, resOk, resDs, resD, resV, cellV, cellO, cellP, cellOk, htake, nfD, nfL, nfLL, nfH, lget, partOf, xget, ddrop, dtake, dget, Env.get, N8.get, env0, List.length_cons, List.length_nil, Env.set, N8.set, lset, updL]); (repeat' (first | exact trivial | exact nfLL_map (fun x => by simp [nfL, nfD, nfD, nfL]) | apply And.intro))) ?_
      all_goals (try dsimp only [RetOK, resOk, resDs, resD, resV, cellV, cellO, cellP, cellOk, htake, nfD, nfL, nfLL, nfH, lget, partOf, xget, ddrop, dtake, dget, Env.get, N8.get, env0, List.length_cons, List.length_nil, Env.set, N8.set, lset, updL])
      all_goals (try simp only [decide_eq_true_eq, decide_eq_false_iff_not, Bool.not_eq_true', Bool.not_eq_false', Bool.and_eq_true, Bool.or_eq_true, Bool.and_eq_false_iff, Bool.or_eq_false_iff] at *)
      all_goals rfl
  · have hr : letW f t d a b = ([], 1) := by unfold letW; rw [if_pos (fun q => hf q.1)]
    rw [hr]
    refine hspec_fn Try.func14 rfl ok_custref_LetterText okr_custref_LetterText rfl (by kernel_rfl) ?_
    intro Γ hW0 hN0 hL0
    have hW := hW0 rfl
    clear hW0 hN0 hL0
    unfold x_custref_LetterText r_custref_LetterText
    repeat' (first
      | (with_reducible refine go_seq ?_)
      | (with_reducible refine go_region ?_)
      | (with_reducible refine go_regionD mixed_ok ?_)
      | (with_reducible refine go_cond ?_)
      | (with_reducible refine go_skip ?_)
      | (with_reducible refine go_block ?_)
      | (with_reducible refine nx_code ?_)
      | (with_reducible refine nx_block ?_)
      | (with_reducible refine go_ret ?_)
      | (with_reducible refine nx_nil ?_)
      | (with_reducible refine go_exit ?_)
      | (with_reducible refine ex_code ?_)
      | (with_reducible refine ex_loop ?_)
      | (with_reducible refine ex_here ?_)
      | ((with_reducible refine ex_past ?_ ?_); (exact by decide))
      | ((with_reducible refine endD_intro ?_ ?_); (exact by kernel_rfl))
      | ((with_reducible refine runR_n ?_ ?_); (solve | ((repeat' (first | exact trivial | exact rfl | apply And.intro)) <;> (first | exact rfl | (intro hq; cases hq; done) | decide | omega | (simp only [List.length_map, List.length_append, List.length_cons, List.length_nil, List.length_replicate]; done) | (simp only [room, maxLen, allOnes, oneV, List.length_map, List.length_append, List.length_cons, List.length_nil, List.length_replicate] at *; omega) | (simp only [decide_eq_true_eq, decide_eq_false_iff_not, Bool.not_eq_true', Bool.not_eq_false', Bool.and_eq_true, Bool.or_eq_true, Bool.and_eq_false_iff, Bool.or_eq_false_iff, Int.not_le, Int.not_lt, Decidable.not_not, ne_eq, not_true_eq_false, not_false_eq_true, decide_true, decide_false, Bool.not_true, Bool.not_false, Bool.false_eq_true, reduceCtorEq, List.length_map, beq_self_eq_true, Bool.and_true, Bool.true_and, Bool.false_and, Bool.and_false] at * <;> omega)))))
      | (first | (simp only [mkS_app, mkS_size]) | (simp only [e1]) | (simp only [e2]) | (simp only [e3]) | (with_reducible refine runR_call (port_spec _) ?_) | (with_reducible refine runR_call (between_spec _ _ _) ?_) | (with_reducible refine runR_call hu ?_) | (with_reducible refine runR_call hv ?_) | (with_reducible refine runR_call hs ?_) | (with_reducible refine runR_call ho ?_) | (with_reducible refine runR_call (dword_spec _) ?_) | (with_reducible refine runR_call (word_spec _ (by omega)) ?_))
      | (dsimp only [run, undef, runR_ok, runR_t, runR_f, gd, gd2, skipR, ex1, pickR, boxR, loadR, loadO, storeR, storeO, nilR, fieldAR, fieldR, partOf, binR, intBin, unR, boolR, kindEq, shiftOp, onlyIf, orB, convR, extR, lenR, indexSlR, indexArrR, putE, updL, keysOf, lget, lset, evT, evs, Env.get, Env.set, N8.get, N8.set, env0, cellsD, oneD, oneV, andB, allOne, lenB, mapV, dget, ddrop, dtake, splice, xget, xset, partsD, partsOk, partsE, partsEOk, repl, elemsR, elemsO, xdrop, xtake, allOnes, appN, appOwn, appNew, appY, cellEq_i, cellEq_b, cellEq_s, consO, cmpAll, allB, negB, eqsO, eqsR, eqbR, minR, evO, bndO, keepB, snapCut, slCut, nilCut, sliceR, isS, isnilL, isnilX, isnilR, strBin, sbinR, slenR, strAtR, substrB, substrR, makeR, clearO, clearR, sliceW1, sliceW2, sliceW3, sliceWR, appWO, appWR, okByte, okBytes, b2sR, indexVR, isnilPR, appD, callvR, cond, condK_t, condK_f, argsE, slots0, List.length_cons, List.length_nil, Bool.true_or, Bool.false_or, Bool.or_true, Bool.or_false, bnf, bnt, Nat.add_zero, Nat.zero_add, Nat.reduceAdd, Nat.reduceMul, Int.reduceToNat, endS])
      | (with_reducible refine runR_b (fun h => ?_) (fun h => ?_) <;> first | (exfalso; (simp only [decide_eq_true_eq, decide_eq_false_iff_not, Bool.not_eq_true', Bool.not_eq_false', Bool.and_eq_true, Bool.or_eq_true, Bool.and_eq_false_iff, Bool.or_eq_false_iff, Int.not_le, Int.not_lt, Decidable.not_not, ne_eq, not_true_eq_false, not_false_eq_true, decide_true, decide_false, Bool.not_true, Bool.not_false, Bool.false_eq_true, reduceCtorEq, List.length_map, beq_self_eq_true, Bool.and_true, Bool.true_and, Bool.false_and, Bool.and_false] at * <;> omega); done) | simp only [h, runR_t, runR_f])
      | (with_reducible refine condK_bl ?_ ?_)
      | (with_reducible refine condK_b (fun h => ?_) (fun h => ?_) <;> first | (exfalso; (simp only [decide_eq_true_eq, decide_eq_false_iff_not, Bool.not_eq_true', Bool.not_eq_false', Bool.and_eq_true, Bool.or_eq_true, Bool.and_eq_false_iff, Bool.or_eq_false_iff, Int.not_le, Int.not_lt, Decidable.not_not, ne_eq, not_true_eq_false, not_false_eq_true, decide_true, decide_false, Bool.not_true, Bool.not_false, Bool.false_eq_true, reduceCtorEq, List.length_map, beq_self_eq_true, Bool.and_true, Bool.true_and, Bool.false_and, Bool.and_false] at * <;> omega); done) | skip)
      | (refine runR_n (by simp only [mkS_app, mkS_size, List.length_append, und_len, lg_len, wd_len, letHd, List.length_take, List.length_drop]; omega) ?_))
    (all_goals first | (exfalso; (try simp only [List.length_map] at *); first | omega | (simp only [decide_eq_true_eq, decide_eq_false_iff_not, Bool.not_eq_true', Bool.not_eq_false', Bool.and_eq_true, Bool.or_eq_true, Bool.and_eq_false_iff, Bool.or_eq_false_iff, Int.not_le, Int.not_lt, Decidable.not_not, ne_eq, not_true_eq_false, not_false_eq_true, decide_true, decide_false, Bool.not_true, Bool.not_false, Bool.false_eq_true, reduceCtorEq, List.length_map, beq_self_eq_true, Bool.and_true, Bool.true_and, Bool.false_and, Bool.and_false] at * <;> omega)) | skip)
    all_goals with_reducible refine ret_spec (by (try dsimp only [RetOK, resOk, resDs, resD, resV, cellV, cellO, cellP, cellOk, htake, nfD, nfL, nfLL, nfH, lget, partOf, xget, ddrop, dtake, dget, Env.get, N8.get, env0, List.length_cons, List.length_nil, Env.set, N8.set, lset, updL]); (repeat' (first | exact trivial | exact rfl | decide | apply And.intro))) (by (try dsimp only [RetOK, resOk, resDs, resD, resV, cellV, cellO, cellP, cellOk, htake, nfD, nfL, nfLL, nfH, lget, partOf, xget, ddrop, dtake, dget, Env.get, N8.get, env0, List.length_cons, List.length_nil, Env.set, N8.set, lset, updL]); (repeat' (first | exact trivial | exact nfLL_map (fun x => by simp [nfL, nfD, nfD, nfL]) | apply And.intro))) ?_
    all_goals (try dsimp only [RetOK, resOk, resDs, resD, resV, cellV, cellO, cellP, cellOk, htake, nfD, nfL, nfLL, nfH, lget, partOf, xget, ddrop, dtake, dget, Env.get, N8.get, env0, List.length_cons, List.length_nil, Env.set, N8.set, lset, updL])
    all_goals (try simp only [decide_eq_true_eq, decide_eq_false_iff_not, Bool.not_eq_true', Bool.not_eq_false', Bool.and_eq_true, Bool.or_eq_true, Bool.and_eq_false_iff, Bool.or_eq_false_iff] at *)
    all_goals rfl
end Go.Proofs.Yteghlnpmmmfgfaa
