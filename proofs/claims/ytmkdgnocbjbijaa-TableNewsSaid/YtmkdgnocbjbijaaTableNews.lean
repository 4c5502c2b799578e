/-
  TableNews: whatever is handed in, the law's function returns true. No condition.
-/
import Derived.Test.YtmkdgnocbjbijaaTableT
import Derived.Test.YtmkdgnocbjbijaaLawFw
import Derived.Test.YtmkdgnocbjbijaaRows
namespace Go.Proofs.Ytmkdgnocbjbijaa
open Go.ChangeShapes Go.WideShapes Go.ChangeAt Go.RowKit
set_option linter.unusedVariables false
set_option linter.unusedSimpArgs false

def shsTableNews : List Sh := [.cons (.slice 24 3 (.cons (.bool) (.cons (.int .u64) (.cons (.int .i64) (.nil))))) (.nil), .int .i64, .int .u64]

theorem agg1_label {K : Kr} {w : World} {k k' n sz lo len : Nat} {full : Bool} {v : Value} (h : VRel K w (.agg [.sl k n sz lo len full]) v) : VRel K w (.agg [.sl k' n sz lo len full]) v := by
  cases h with
  | agg hl h =>
    refine .agg hl (fun i d c hd hc => ?_)
    cases i with
    | zero =>
      simp at hd
      subst hd
      exact sl_label (h 0 _ c rfl hc)
    | succ i => simp at hd
theorem same_made (b k n : Nat) (h : 2 ^ b ≤ 64) : HSpec Try.prog 14 [dT (empT b), .agg [.sl k n 3 0 (2 ^ b) false]] [some ⟨n, 3, repl [DV.v (.bool false), .v (.int .u64 0), .v (.int .i64 0)] (2 ^ b)⟩] (fun d H => d = .v (.bool true) ∧ H = [some ⟨n, 3, repl [DV.v (.bool false), .v (.int .u64 0), .v (.int .i64 0)] (2 ^ b)⟩]) := by
  have hl : (empT b).length = 2 ^ b := List.length_replicate
  have h1 := sametb_lent (empT b) (by unfold maxLen; omega) n
  rw [hl, show (empT b).map Tb.enc = repl [DV.v (.bool false), .v (.int .u64 0), .v (.int .i64 0)] (2 ^ b) from (repl_tb _).symm] at h1
  have h2 : dT (empT b) = .agg [.snap 3 (repl [DV.v (.bool false), .v (.int .u64 0), .v (.int .i64 0)] (2 ^ b)) false] := by
    rw [repl_tb]; rfl
  rw [show dT (empT b) = .agg [.snap 3 ((empT b).map Tb.enc) false] from rfl, show (empT b).map Tb.enc = repl [DV.v (.bool false), .v (.int .u64 0), .v (.int .i64 0)] (2 ^ b) from (repl_tb _).symm]
  refine hspec_args h1 (fun K w vs hv => argsRel_mem hv rfl (fun i d e hd he v hv => ?_))
  match i with
  | 0 =>
    simp only [List.getElem?_cons_zero, Option.some.injEq] at hd he
    subst hd he
    first
      | exact hv
      | (rw [h2]; exact hv)
  | 1 =>
    simp at hd he
    subst hd he
    exact agg1_label hv
  | i + 2 => simp at hd
set_option maxRecDepth 10000 in
set_option maxHeartbeats 4000000 in
theorem news_out (l : List Tb) (bits key : Int) (hl : l.length ≤ maxLen) (hK : ∀ t ∈ l, 0 ≤ t.k ∧ t.k < 18446744073709551616) (h : ¬ (1 ≤ bits ∧ bits ≤ 6)) : Spec Try.prog 3 [dT l, .v (.int .i64 bits), .v (.int .u64 key)] (.v (.bool true)) := by
  have hc := tcheck_spec l hl
  rw [tb_tr] at hc
  have hrt := tright_spec l hl hK
  have hho := home_out bits key h
  have hnew := new_out bits h
  have hbt : decide (1 ≤ bits ∧ bits ≤ 6) = false := decide_eq_false h
  have hbe := between_spec bits 1 6
  rw [hbt] at hbe
  refine hspec_fn Try.func3 rfl ok_custlaw_TableNews okr_custlaw_TableNews rfl (by kernel_rfl) ?_
  intro Γ hW0 hN0 hL0
  have hW := hW0 rfl
  clear hW0 hN0 hL0
  unfold x_custlaw_TableNews r_custlaw_TableNews
  repeat' (first
    | (with_reducible refine go_seq ?_)
    | (with_reducible refine go_region ?_)
    | (with_reducible refine go_regionD mixed_ok ?_)
    | (with_reducible refine go_cond ?_)
    | (with_reducible refine go_skip ?_)
    | (with_reducible refine go_block ?_)
    | (with_reducible refine nx_code ?_)
    | (with_reducible refine nx_block ?_)
    | (with_reducible refine go_ret ?_)
    | (with_reducible refine nx_nil ?_)
    | (with_reducible refine go_exit ?_)
    | (with_reducible refine ex_code ?_)
    | (with_reducible refine ex_loop ?_)
    | (with_reducible refine ex_here ?_)
    | ((with_reducible refine ex_past ?_ ?_); (exact by decide))
    | ((with_reducible refine endD_intro ?_ ?_); (exact by kernel_rfl))
    | ((with_reducible refine runR_n ?_ ?_); (solve | ((repeat' (first | exact trivial | exact rfl | apply And.intro)) <;> (first | exact rfl | (intro hq; cases hq; done) | decide | omega | (simp only [List.length_map, List.length_append, List.length_cons, List.length_nil, List.length_replicate]; done) | (simp only [room, maxLen, allOnes, oneV, List.length_map, List.length_append, List.length_cons, List.length_nil, List.length_replicate] at *; omega) | (simp only [decide_eq_true_eq, decide_eq_false_iff_not, Bool.not_eq_true', Bool.not_eq_false', Bool.and_eq_true, Bool.or_eq_true, Bool.and_eq_false_iff, Bool.or_eq_false_iff, Int.not_le, Int.not_lt, Decidable.not_not, ne_eq, not_true_eq_false, not_false_eq_true, decide_true, decide_false, Bool.not_true, Bool.not_false, Bool.false_eq_true, reduceCtorEq, List.length_map, beq_self_eq_true, Bool.and_true, Bool.true_and, Bool.false_and, Bool.and_false] at * <;> omega)))))
    | (first | (with_reducible refine runR_call hho ?_) | (with_reducible refine runR_call hnew ?_) | (with_reducible refine runR_call hc ?_) | (with_reducible refine runR_call hrt ?_) | (with_reducible refine runR_call hbe ?_))
    | (dsimp only [run, undef, runR_ok, runR_t, runR_f, gd, gd2, skipR, ex1, pickR, boxR, loadR, loadO, storeR, storeO, nilR, fieldAR, fieldR, partOf, binR, intBin, unR, boolR, kindEq, shiftOp, onlyIf, orB, convR, extR, lenR, indexSlR, indexArrR, putE, updL, keysOf, lget, lset, evT, evs, Env.get, Env.set, N8.get, N8.set, env0, cellsD, oneD, oneV, andB, allOne, lenB, mapV, dget, ddrop, dtake, splice, xget, xset, partsD, partsOk, partsE, partsEOk, repl, elemsR, elemsO, xdrop, xtake, allOnes, appN, appOwn, appNew, appY, cellEq_i, cellEq_b, cellEq_s, consO, cmpAll, allB, negB, eqsO, eqsR, eqbR, minR, evO, bndO, keepB, snapCut, slCut, nilCut, sliceR, isS, isnilL, isnilX, isnilR, strBin, sbinR, slenR, strAtR, substrB, substrR, makeR, clearO, clearR, sliceW1, sliceW2, sliceW3, sliceWR, appWO, appWR, okByte, okBytes, b2sR, indexVR, isnilPR, appD, callvR, cond, condK_t, condK_f, argsE, slots0, List.length_cons, List.length_nil, Bool.true_or, Bool.false_or, Bool.or_true, Bool.or_false, bnf, bnt, Nat.add_zero, Nat.zero_add, Nat.reduceAdd, Nat.reduceMul, Int.reduceToNat, endS])
    | (with_reducible refine runR_b (fun h => ?_) (fun h => ?_) <;> first | (exfalso; (simp only [decide_eq_true_eq, decide_eq_false_iff_not, Bool.not_eq_true', Bool.not_eq_false', Bool.and_eq_true, Bool.or_eq_true, Bool.and_eq_false_iff, Bool.or_eq_false_iff, Int.not_le, Int.not_lt, Decidable.not_not, ne_eq, not_true_eq_false, not_false_eq_true, decide_true, decide_false, Bool.not_true, Bool.not_false, Bool.false_eq_true, reduceCtorEq, List.length_map, beq_self_eq_true, Bool.and_true, Bool.true_and, Bool.false_and, Bool.and_false] at * <;> omega); done) | simp only [h, runR_t, runR_f])
    | (with_reducible refine condK_bl ?_ ?_)
    | (with_reducible refine condK_b (fun h => ?_) (fun h => ?_) <;> first | (exfalso; (simp only [decide_eq_true_eq, decide_eq_false_iff_not, Bool.not_eq_true', Bool.not_eq_false', Bool.and_eq_true, Bool.or_eq_true, Bool.and_eq_false_iff, Bool.or_eq_false_iff, Int.not_le, Int.not_lt, Decidable.not_not, ne_eq, not_true_eq_false, not_false_eq_true, decide_true, decide_false, Bool.not_true, Bool.not_false, Bool.false_eq_true, reduceCtorEq, List.length_map, beq_self_eq_true, Bool.and_true, Bool.true_and, Bool.false_and, Bool.and_false] at * <;> omega); done) | skip)
    | fail)
  (all_goals first | (exfalso; (try simp only [List.length_map] at *); first | omega | (simp only [decide_eq_true_eq, decide_eq_false_iff_not, Bool.not_eq_true', Bool.not_eq_false', Bool.and_eq_true, Bool.or_eq_true, Bool.and_eq_false_iff, Bool.or_eq_false_iff, Int.not_le, Int.not_lt, Decidable.not_not, ne_eq, not_true_eq_false, not_false_eq_true, decide_true, decide_false, Bool.not_true, Bool.not_false, Bool.false_eq_true, reduceCtorEq, List.length_map, beq_self_eq_true, Bool.and_true, Bool.true_and, Bool.false_and, Bool.and_false] at * <;> omega)) | skip)
  all_goals first
    | (exfalso; simp at h; done)
    | skip
  all_goals with_reducible refine ret_spec (by (try dsimp only [RetOK, resOk, resDs, resD, resV, cellV, cellO, cellP, cellOk, htake, nfD, nfL, nfLL, nfH, lget, partOf, xget, ddrop, dtake, dget, Env.get, N8.get, env0, List.length_cons, List.length_nil, Env.set, N8.set, lset, updL]); (repeat' (first | exact trivial | exact rfl | decide | apply And.intro))) (by (try dsimp only [RetOK, resOk, resDs, resD, resV, cellV, cellO, cellP, cellOk, htake, nfD, nfL, nfLL, nfH, lget, partOf, xget, ddrop, dtake, dget, Env.get, N8.get, env0, List.length_cons, List.length_nil, Env.set, N8.set, lset, updL]); (repeat' (first | exact trivial | exact nfLL_map (fun x => by simp [nfL, nfD, nfD]) | apply And.intro))) ?_
  all_goals (try dsimp only [RetOK, resOk, resDs, resD, resV, cellV, cellO, cellP, cellOk, htake, nfD, nfL, nfLL, nfH, lget, partOf, xget, ddrop, dtake, dget, Env.get, N8.get, env0, List.length_cons, List.length_nil, Env.set, N8.set, lset, updL])
  all_goals (try simp only [decide_eq_true_eq, decide_eq_false_iff_not, Bool.not_eq_true', Bool.not_eq_false', Bool.and_eq_true, Bool.or_eq_true, Bool.and_eq_false_iff, Bool.or_eq_false_iff] at *)
  all_goals first
    | rfl
    | (refine dbool ?_; simp)
set_option maxRecDepth 10000 in
set_option maxHeartbeats 4000000 in
theorem news_in (l : List Tb) (b : Nat) (key : Int) (hl : l.length ≤ maxLen) (hK : ∀ t ∈ l, 0 ≤ t.k ∧ t.k < 18446744073709551616) (h : 1 ≤ b ∧ b ≤ 6) (hk : 0 ≤ key ∧ key < 18446744073709551616) : Spec Try.prog 3 [dT l, .v (.int .i64 b), .v (.int .u64 key)] (.v (.bool true)) := by
  have hc := tcheck_spec l hl
  rw [tb_tr] at hc
  have hrt := tright_spec l hl hK
  have hho := home_in b h key
  have hnew := new_in b h
  have hof := homeOf_spec b h key hk
  have h3 : (2 ^ b : Nat) ≤ 64 := Nat.pow_le_pow_right (show 0 < 2 by decide) h.2
  have hbt : decide (1 ≤ (b : Int) ∧ (b : Int) ≤ 6) = true := decide_eq_true (by omega)
  have hbe := between_spec b 1 6
  rw [hbt] at hbe
  have hs : IntKind.i64.wrap (1 * 2 ^ (min (b : Int).toNat IntKind.i64.bits)) = ((2 ^ b : Nat) : Int) := by
    obtain ⟨h1, h2⟩ := h
    have hc : b = 1 ∨ b = 2 ∨ b = 3 ∨ b = 4 ∨ b = 5 ∨ b = 6 := by omega
    rcases hc with rfl | rfl | rfl | rfl | rfl | rfl <;> rfl
  have hs2 : IntKind.i64.wrap (1 * 2 ^ (min b IntKind.i64.bits)) = ((2 ^ b : Nat) : Int) := hs
  have hsm := fun n => same_made b 2 n h3
  refine hspec_fn Try.func3 rfl ok_custlaw_TableNews okr_custlaw_TableNews rfl (by kernel_rfl) ?_
  intro Γ hW0 hN0 hL0
  have hW := hW0 rfl
  clear hW0 hN0 hL0
  unfold x_custlaw_TableNews r_custlaw_TableNews
  repeat' (first
    | (with_reducible refine go_seq ?_)
    | (with_reducible refine go_region ?_)
    | (with_reducible refine go_regionD mixed_ok ?_)
    | (with_reducible refine go_cond ?_)
    | (with_reducible refine go_skip ?_)
    | (with_reducible refine go_block ?_)
    | (with_reducible refine nx_code ?_)
    | (with_reducible refine nx_block ?_)
    | (with_reducible refine go_ret ?_)
    | (with_reducible refine nx_nil ?_)
    | (with_reducible refine go_exit ?_)
    | (with_reducible refine ex_code ?_)
    | (with_reducible refine ex_loop ?_)
    | (with_reducible refine ex_here ?_)
    | ((with_reducible refine ex_past ?_ ?_); (exact by decide))
    | ((with_reducible refine endD_intro ?_ ?_); (exact by kernel_rfl))
    | ((with_reducible refine runR_n ?_ ?_); (solve | ((repeat' (first | exact trivial | exact rfl | apply And.intro)) <;> (first | exact rfl | (intro hq; cases hq; done) | decide | omega | (simp only [List.length_map, List.length_append, List.length_cons, List.length_nil, List.length_replicate]; done) | (simp only [room, maxLen, allOnes, oneV, List.length_map, List.length_append, List.length_cons, List.length_nil, List.length_replicate] at *; omega) | (simp only [decide_eq_true_eq, decide_eq_false_iff_not, Bool.not_eq_true', Bool.not_eq_false', Bool.and_eq_true, Bool.or_eq_true, Bool.and_eq_false_iff, Bool.or_eq_false_iff, Int.not_le, Int.not_lt, Decidable.not_not, ne_eq, not_true_eq_false, not_false_eq_true, decide_true, decide_false, Bool.not_true, Bool.not_false, Bool.false_eq_true, reduceCtorEq, List.length_map, beq_self_eq_true, Bool.and_true, Bool.true_and, Bool.false_and, Bool.and_false] at * <;> omega)))))
    | (first | (with_reducible refine runR_call hho ?_) | (with_reducible refine runR_call hnew ?_) | (with_reducible refine runR_call hc ?_) | (with_reducible refine runR_call hrt ?_) | (with_reducible refine runR_call hbe ?_) | (with_reducible refine runR_call hof ?_) | (simp only [hs2, Int.toNat_natCast]) | (refine runR_n ⟨Int.natCast_nonneg _, Int.le_refl _, by (unfold room maxLen; simp only [Int.toNat_natCast]; omega)⟩ ?_) | ((with_reducible refine runR_callH 2 ?_ (hsm _) (fun _ _ _ h => h) ?_); (exact rfl)))
    | (dsimp only [run, undef, runR_ok, runR_t, runR_f, gd, gd2, skipR, ex1, pickR, boxR, loadR, loadO, storeR, storeO, nilR, fieldAR, fieldR, partOf, binR, intBin, unR, boolR, kindEq, shiftOp, onlyIf, orB, convR, extR, lenR, indexSlR, indexArrR, putE, updL, keysOf, lget, lset, evT, evs, Env.get, Env.set, N8.get, N8.set, env0, cellsD, oneD, oneV, andB, allOne, lenB, mapV, dget, ddrop, dtake, splice, xget, xset, partsD, partsOk, partsE, partsEOk, repl, elemsR, elemsO, xdrop, xtake, allOnes, appN, appOwn, appNew, appY, cellEq_i, cellEq_b, cellEq_s, consO, cmpAll, allB, negB, eqsO, eqsR, eqbR, minR, evO, bndO, keepB, snapCut, slCut, nilCut, sliceR, isS, isnilL, isnilX, isnilR, strBin, sbinR, slenR, strAtR, substrB, substrR, makeR, clearO, clearR, sliceW1, sliceW2, sliceW3, sliceWR, appWO, appWR, okByte, okBytes, b2sR, indexVR, isnilPR, appD, callvR, cond, condK_t, condK_f, argsE, slots0, List.length_cons, List.length_nil, Bool.true_or, Bool.false_or, Bool.or_true, Bool.or_false, bnf, bnt, Nat.add_zero, Nat.zero_add, Nat.reduceAdd, Nat.reduceMul, Int.reduceToNat, endS])
    | (with_reducible refine runR_b (fun h => ?_) (fun h => ?_) <;> first | (exfalso; (simp only [decide_eq_true_eq, decide_eq_false_iff_not, Bool.not_eq_true', Bool.not_eq_false', Bool.and_eq_true, Bool.or_eq_true, Bool.and_eq_false_iff, Bool.or_eq_false_iff, Int.not_le, Int.not_lt, Decidable.not_not, ne_eq, not_true_eq_false, not_false_eq_true, decide_true, decide_false, Bool.not_true, Bool.not_false, Bool.false_eq_true, reduceCtorEq, List.length_map, beq_self_eq_true, Bool.and_true, Bool.true_and, Bool.false_and, Bool.and_false] at * <;> omega); done) | simp only [h, runR_t, runR_f])
    | (with_reducible refine condK_bl ?_ ?_)
    | (with_reducible refine condK_b (fun h => ?_) (fun h => ?_) <;> first | (exfalso; (simp only [decide_eq_true_eq, decide_eq_false_iff_not, Bool.not_eq_true', Bool.not_eq_false', Bool.and_eq_true, Bool.or_eq_true, Bool.and_eq_false_iff, Bool.or_eq_false_iff, Int.not_le, Int.not_lt, Decidable.not_not, ne_eq, not_true_eq_false, not_false_eq_true, decide_true, decide_false, Bool.not_true, Bool.not_false, Bool.false_eq_true, reduceCtorEq, List.length_map, beq_self_eq_true, Bool.and_true, Bool.true_and, Bool.false_and, Bool.and_false] at * <;> omega); done) | skip)
    | fail)
  (all_goals first | (exfalso; (try simp only [List.length_map] at *); first | omega | (simp only [decide_eq_true_eq, decide_eq_false_iff_not, Bool.not_eq_true', Bool.not_eq_false', Bool.and_eq_true, Bool.or_eq_true, Bool.and_eq_false_iff, Bool.or_eq_false_iff, Int.not_le, Int.not_lt, Decidable.not_not, ne_eq, not_true_eq_false, not_false_eq_true, decide_true, decide_false, Bool.not_true, Bool.not_false, Bool.false_eq_true, reduceCtorEq, List.length_map, beq_self_eq_true, Bool.and_true, Bool.true_and, Bool.false_and, Bool.and_false] at * <;> omega)) | skip)
  all_goals first
    | (exfalso; simp at h; done)
    | skip
  all_goals with_reducible refine ret_spec (by (try dsimp only [RetOK, resOk, resDs, resD, resV, cellV, cellO, cellP, cellOk, htake, nfD, nfL, nfLL, nfH, lget, partOf, xget, ddrop, dtake, dget, Env.get, N8.get, env0, List.length_cons, List.length_nil, Env.set, N8.set, lset, updL]); (repeat' (first | exact trivial | exact rfl | decide | apply And.intro))) (by (try dsimp only [RetOK, resOk, resDs, resD, resV, cellV, cellO, cellP, cellOk, htake, nfD, nfL, nfLL, nfH, lget, partOf, xget, ddrop, dtake, dget, Env.get, N8.get, env0, List.length_cons, List.length_nil, Env.set, N8.set, lset, updL]); (repeat' (first | exact trivial | exact nfLL_map (fun x => by simp [nfL, nfD, nfD]) | apply And.intro))) ?_
  all_goals (try dsimp only [RetOK, resOk, resDs, resD, resV, cellV, cellO, cellP, cellOk, htake, nfD, nfL, nfLL, nfH, lget, partOf, xget, ddrop, dtake, dget, Env.get, N8.get, env0, List.length_cons, List.length_nil, Env.set, N8.set, lset, updL])
  all_goals (try simp only [decide_eq_true_eq, decide_eq_false_iff_not, Bool.not_eq_true', Bool.not_eq_false', Bool.and_eq_true, Bool.or_eq_true, Bool.and_eq_false_iff, Bool.or_eq_false_iff] at *)
  all_goals first
    | rfl
    | (refine dbool ?_; simp)
theorem news_spec (l : List Tb) (bits key : Int) (hl : l.length ≤ maxLen) (hK : ∀ t ∈ l, 0 ≤ t.k ∧ t.k < 18446744073709551616) (hk : 0 ≤ key ∧ key < 18446744073709551616) : Spec Try.prog 3 [dT l, .v (.int .i64 bits), .v (.int .u64 key)] (.v (.bool true)) := by
  by_cases h : 1 ≤ bits ∧ bits ≤ 6
  · obtain ⟨b, rfl⟩ : ∃ b : Nat, (b : Int) = bits := ⟨bits.toNat, by omega⟩
    exact news_in l b key hl hK (by omega) hk
  · exact news_out l bits key hl hK h
theorem u64_wf {x : Int} (h : (Lit.int .u64 x).wf = true) : 0 ≤ x ∧ x < 18446744073709551616 := by
  have h2 : IntKind.u64.min ≤ x ∧ x ≤ IntKind.u64.max := by simpa [Lit.wf] using h
  have e1 : IntKind.u64.min = 0 := by decide
  have e2 : IntKind.u64.max = 18446744073709551615 := by decide
  rw [e1, e2] at h2
  omega
theorem len_map {α β : Type} (f : α → β) (l : List α) (h : l.length ≤ maxLen) : (l.map f).length ≤ maxLen := by rw [List.length_map]; exact h
theorem sv_TableNews (l : List (Bool × Int × Int × Unit)) (u : Unit) (bits key : Int) (v : Unit) : valSs shsTableNews ((l, u), bits, key, v) = [dT (l.map fun t => (⟨t.1, t.2.1, t.2.2.1⟩ : Tb)), .v (.int .i64 bits), .v (.int .u64 key)] := by
  unfold dT
  rw [List.map_map]
  rfl
theorem coreTableNews (W : World) (args : Array Value) (h : opnAll W W.heap.size shsTableNews args.toList) :
    Calls Try.prog 3 args W fun e W' => e = .returned (.bool true) ∧ Below W.heap.size W W' := by
  refine law_core rfl h (fun x hx => ?_)
  obtain ⟨⟨l, u⟩, bits, key, v⟩ := x
  have h2 : l.length ≤ maxLen := hx.1.1.2.1
  refine Eq.mpr (congrArg (fun l => Spec Try.prog 3 l (.v (.bool true))) (sv_TableNews l u bits key v)) (news_spec _ bits key (len_map _ _ h2) ?_ ?_)
  · intro t ht
    obtain ⟨y, hy, rfl⟩ := List.mem_map.1 ht
    have h5 := hx.1.1.2.2 y hy
    exact u64_wf h5.2.1
  · have h5 := hx.2.2.1
    exact u64_wf h5
/-! THE ROW: the frame round 'core' -/
theorem ownTableNews : ownKnob Try.prog.godebug = none := by kernel_rfl
theorem fitTableNews : (List.range shsTableNews.length).all (fun i => match shsTableNews[i]?, Try.f3.params.toList[i]? with | some s, some t => s.fit Try.prog none t | _, _ => false) = true := by kernel_rfl
theorem laidTableNews : laidOutB Try.prog = true := by kernel_rfl
theorem readTableNews : Try.f3.params.toList.all (fun t => Try.prog.readableRec t && decide (t < Try.prog.types.size)) = true := by kernel_rfl
set_option maxRecDepth 100000 in
theorem liftedTableNews (os : Os) (started : os.Started) (H : Type) (enc : TypeId × Value → H) :
    ReturnsInHanded {} Try.checked os 3 .any (Rows.tableNewsSpec.pre6 enc Try.prog Try.f3 Rows.tableNewsRow.domain false) (Rows.tableNewsSpec.post enc Try.prog Try.f3 false true false false) :=
  law_lifted (C := Try.checked) (enc := enc) ownTableNews started (by kernel_rfl) Try.func3
    (ChangeSpec.witness6 (enc := enc) (C := Try.checked) false ⟨#[], #[.agg #[.slice none 0 0], .int .i64 0, .int .u64 0], []⟩ 8 (by kernel_rfl) (by kernel_rfl) (by kernel_rfl) (by kernel_rfl))
    shsTableNews (by kernel_rfl) fitTableNews rfl (fun ds h => by
      match ds, h with
      | [d0, d1, d2], _ => exact ⟨rfl, rfl, rfl⟩) 4 (by kernel_rfl) Try.underlying4 laidTableNews readTableNews coreTableNews
theorem overTableNews : Rows.tableNewsRow.holds Try.pinned (OpenSpec.ofChange Rows.tableNewsSpec) :=
  OpenClaim.holds_of_wide 3 Try.f3 rfl rfl rfl rfl rfl rfl rfl ⟨rfl, rfl, rfl, rfl, rfl⟩ rfl rfl rfl rfl rfl (by kernel_rfl) Try.func3 (by kernel_rfl)
    (of_decide_eq_true (by kernel_rfl)) (by unfold Func.isWrapper; rw [if_neg (of_decide_eq_false (by kernel_rfl))]; exact ⟨rfl, rfl⟩)
    (fun os started H enc _ => liftedTableNews os started H enc)
/-- THE STATEMENT -/
theorem provedTableNews : Rows.TableNewsSaid := overTableNews
#print axioms provedTableNews
end Go.Proofs.Ytmkdgnocbjbijaa
