/-
  DgramNotes: whatever is handed in, the law's function returns true. No condition.
-/
import Derived.Test.YteghlnpmmmfgfaaNoteX
import Derived.Test.YteghlnpmmmfgfaaLawFw
import Derived.Test.YteghlnpmmmfgfaaRows
namespace Go.Proofs.Yteghlnpmmmfgfaa
open Go.ChangeShapes Go.WideShapes Go.ChangeAt Go.RowKit
set_option linter.unusedVariables false
set_option linter.unusedSimpArgs false

def shsDgramNotes : List Sh := [.cons (.int .i64) (.cons (.int .i64) (.cons (.cons (.int .u8) (.cons (.int .u8) (.cons (.int .u8) (.cons (.int .u8) (.nil))))) (.cons (.str) (.nil)))), .str]

set_option maxHeartbeats 2000000 in
theorem notes_spec (k c a0 a1 a2 a3 : Int) (d s : List UInt8) (h0 : isB a0) (h1 : isB a1) (h2 : isB a2) (h3 : isB a3) (hd : d.length ≤ 140737488351232) (hl : s.length ≤ 140737488351232) : Spec Try.prog 3 [dN k c a0 a1 a2 a3 d, .v (.string (mkS s))] (.v (.bool true)) := by
  have g1 := nwrite_spec k c a0 a1 a2 a3 d h0 h1 h2 h3 hd
  have g2 := ntext_spec k c a0 a1 a2 a3 d h0 h1 h2 h3 hd
  have g3 := nread_spec s hl
  have g4 := tnote_spec s hl
  refine hspec_fn Try.func3 rfl ok_custlaw_DgramNotes okr_custlaw_DgramNotes rfl (by kernel_rfl) ?_
  intro Γ hW0 hN0 hL0
  have hW := hW0 rfl
  clear hW0 hN0 hL0
  unfold x_custlaw_DgramNotes r_custlaw_DgramNotes
  repeat' (first
    | (with_reducible refine go_seq ?_)
    | (with_reducible refine go_region ?_)
    | (with_reducible refine go_regionD mixed_ok ?_)
    | (with_reducible refine go_cond ?_)
    | (with_reducible refine go_skip ?_)
    | (with_reducible refine go_block ?_)
    | (with_reducible refine nx_code ?_)
    | (with_reducible refine nx_block ?_)
    | (with_reducible refine go_ret ?_)
    | (with_reducible refine nx_nil ?_)
    | (with_reducible refine go_exit ?_)
    | (with_reducible refine ex_code ?_)
    | (with_reducible refine ex_loop ?_)
    | (with_reducible refine ex_here ?_)
    | ((with_reducible refine ex_past ?_ ?_); (exact by decide))
    | ((with_reducible refine endD_intro ?_ ?_); (exact by kernel_rfl))
    | ((with_reducible refine runR_n ?_ ?_); (solve | ((repeat' (first | exact trivial | exact rfl | apply And.intro)) <;> (first | exact rfl | (intro hq; cases hq; done) | decide | omega | (simp only [List.length_map, List.length_append, List.length_cons, List.length_nil, List.length_replicate]; done) | (simp only [room, maxLen, allOnes, oneV, List.length_map, List.length_append, List.length_cons, List.length_nil, List.length_replicate] at *; omega) | (simp only [decide_eq_true_eq, decide_eq_false_iff_not, Bool.not_eq_true', Bool.not_eq_false', Bool.and_eq_true, Bool.or_eq_true, Bool.and_eq_false_iff, Bool.or_eq_false_iff, Int.not_le, Int.not_lt, Decidable.not_not, ne_eq, not_true_eq_false, not_false_eq_true, decide_true, decide_false, Bool.not_true, Bool.not_false, Bool.false_eq_true, reduceCtorEq, List.length_map, beq_self_eq_true, Bool.and_true, Bool.true_and, Bool.false_and, Bool.and_false] at * <;> omega)))))
    | (first | (with_reducible refine runR_call g1 ?_) | (with_reducible refine runR_call g2 ?_) | (with_reducible refine runR_call g3 ?_) | (with_reducible refine runR_call g4 ?_))
    | (dsimp only [run, undef, runR_ok, runR_t, runR_f, gd, gd2, skipR, ex1, pickR, boxR, loadR, loadO, storeR, storeO, nilR, fieldAR, fieldR, partOf, binR, intBin, unR, boolR, kindEq, shiftOp, onlyIf, orB, convR, extR, lenR, indexSlR, indexArrR, putE, updL, keysOf, lget, lset, evT, evs, Env.get, Env.set, N8.get, N8.set, env0, cellsD, oneD, oneV, andB, allOne, lenB, mapV, dget, ddrop, dtake, splice, xget, xset, partsD, partsOk, partsE, partsEOk, repl, elemsR, elemsO, xdrop, xtake, allOnes, appN, appOwn, appNew, appY, cellEq_i, cellEq_b, cellEq_s, consO, cmpAll, allB, negB, eqsO, eqsR, eqbR, minR, evO, bndO, keepB, snapCut, slCut, nilCut, sliceR, isS, isnilL, isnilX, isnilR, strBin, sbinR, slenR, strAtR, substrB, substrR, makeR, clearO, clearR, sliceW1, sliceW2, sliceW3, sliceWR, appWO, appWR, okByte, okBytes, b2sR, indexVR, isnilPR, chunk, sliceAR, s2bR, flat1, arrpR, exnR, appD, callvR, cond, condK_t, condK_f, argsE, slots0, List.length_cons, List.length_nil, Bool.true_or, Bool.false_or, Bool.or_true, Bool.or_false, bnf, bnt, Nat.add_zero, Nat.zero_add, Nat.reduceAdd, Nat.reduceMul, Int.reduceToNat, endS])
    | (with_reducible refine runR_b (fun h => ?_) (fun h => ?_) <;> first | (exfalso; (simp only [decide_eq_true_eq, decide_eq_false_iff_not, Bool.not_eq_true', Bool.not_eq_false', Bool.and_eq_true, Bool.or_eq_true, Bool.and_eq_false_iff, Bool.or_eq_false_iff, Int.not_le, Int.not_lt, Decidable.not_not, ne_eq, not_true_eq_false, not_false_eq_true, decide_true, decide_false, Bool.not_true, Bool.not_false, Bool.false_eq_true, reduceCtorEq, List.length_map, beq_self_eq_true, Bool.and_true, Bool.true_and, Bool.false_and, Bool.and_false] at * <;> omega); done) | simp only [h, runR_t, runR_f])
    | (with_reducible refine condK_bl ?_ ?_)
    | (with_reducible refine condK_b (fun h => ?_) (fun h => ?_) <;> first | (exfalso; (simp only [decide_eq_true_eq, decide_eq_false_iff_not, Bool.not_eq_true', Bool.not_eq_false', Bool.and_eq_true, Bool.or_eq_true, Bool.and_eq_false_iff, Bool.or_eq_false_iff, Int.not_le, Int.not_lt, Decidable.not_not, ne_eq, not_true_eq_false, not_false_eq_true, decide_true, decide_false, Bool.not_true, Bool.not_false, Bool.false_eq_true, reduceCtorEq, List.length_map, beq_self_eq_true, Bool.and_true, Bool.true_and, Bool.false_and, Bool.and_false] at * <;> omega); done) | skip)
    | fail)
  (all_goals first | (exfalso; (try simp only [List.length_map] at *); first | omega | (simp only [decide_eq_true_eq, decide_eq_false_iff_not, Bool.not_eq_true', Bool.not_eq_false', Bool.and_eq_true, Bool.or_eq_true, Bool.and_eq_false_iff, Bool.or_eq_false_iff, Int.not_le, Int.not_lt, Decidable.not_not, ne_eq, not_true_eq_false, not_false_eq_true, decide_true, decide_false, Bool.not_true, Bool.not_false, Bool.false_eq_true, reduceCtorEq, List.length_map, beq_self_eq_true, Bool.and_true, Bool.true_and, Bool.false_and, Bool.and_false] at * <;> omega)) | skip)
  all_goals first
    | (exfalso; simp at h; done)
    | skip
  all_goals with_reducible refine ret_spec (by (try dsimp only [RetOK, resOk, resDs, resD, resV, cellV, cellO, cellP, cellOk, htake, nfD, nfL, nfLL, nfH, lget, partOf, xget, ddrop, dtake, dget, Env.get, N8.get, env0, List.length_cons, List.length_nil, Env.set, N8.set, lset, updL]); (repeat' (first | exact trivial | exact rfl | decide | apply And.intro))) (by (try dsimp only [RetOK, resOk, resDs, resD, resV, cellV, cellO, cellP, cellOk, htake, nfD, nfL, nfLL, nfH, lget, partOf, xget, ddrop, dtake, dget, Env.get, N8.get, env0, List.length_cons, List.length_nil, Env.set, N8.set, lset, updL]); (repeat' (first | exact trivial | exact nfLL_map (fun x => by simp [nfL, nfD, nfD]) | apply And.intro))) ?_
  all_goals (try dsimp only [RetOK, resOk, resDs, resD, resV, cellV, cellO, cellP, cellOk, htake, nfD, nfL, nfLL, nfH, lget, partOf, xget, ddrop, dtake, dget, Env.get, N8.get, env0, List.length_cons, List.length_nil, Env.set, N8.set, lset, updL])
  all_goals (try simp only [decide_eq_true_eq, decide_eq_false_iff_not, Bool.not_eq_true', Bool.not_eq_false', Bool.and_eq_true, Bool.or_eq_true, Bool.and_eq_false_iff, Bool.or_eq_false_iff] at *)
  all_goals (refine dbool ?_; simp)
theorem u8_wf {x : Int} (h : (Lit.int .u8 x).wf = true) : isB x := by
  have h2 : IntKind.u8.min ≤ x ∧ x ≤ IntKind.u8.max := by simpa [Lit.wf] using h
  have e1 : IntKind.u8.min = 0 := by decide
  have e2 : IntKind.u8.max = 255 := by decide
  rw [e1, e2] at h2
  unfold isB
  omega
theorem sv_DgramNotes (k c a0 a1 a2 a3 : Int) (d s : ByteArray) (u0 u1 u2 : Unit) : valSs shsDgramNotes ((k, c, (a0, a1, a2, a3, u0), d, u1), s, u2) = [dN k c a0 a1 a2 a3 d.data.toList, .v (.string (mkS s.data.toList))] := by
  rw [mkS_data, dN, mkS_data]
  rfl
theorem coreDgramNotes (W : World) (args : Array Value) (h : opnAll W W.heap.size shsDgramNotes args.toList) :
    Calls Try.prog 3 args W fun e W' => e = .returned (.bool true) ∧ Below W.heap.size W W' := by
  refine law_core rfl h (fun x hx => ?_)
  obtain ⟨⟨k, c, ⟨a0, a1, a2, a3, u0⟩, d, u1⟩, s, u2⟩ := x
  obtain ⟨⟨-, -, ⟨h0, h1, h2, h3, -⟩, hd, -⟩, hs, -⟩ := hx
  exact Eq.mpr (congrArg (fun l => Spec Try.prog 3 l (.v (.bool true))) (sv_DgramNotes k c a0 a1 a2 a3 d s u0 u1 u2)) (notes_spec k c a0 a1 a2 a3 _ _ (u8_wf h0) (u8_wf h1) (u8_wf h2) (u8_wf h3) hd hs)
/-! THE ROW: the frame round 'core' -/
theorem ownDgramNotes : ownKnob Try.prog.godebug = none := by kernel_rfl
theorem fitDgramNotes : (List.range shsDgramNotes.length).all (fun i => match shsDgramNotes[i]?, Try.f3.params.toList[i]? with | some s, some t => s.fit Try.prog none t | _, _ => false) = true := by kernel_rfl
theorem laidDgramNotes : laidOutB Try.prog = true := by kernel_rfl
theorem readDgramNotes : Try.f3.params.toList.all (fun t => Try.prog.readableRec t && decide (t < Try.prog.types.size)) = true := by kernel_rfl
set_option maxRecDepth 100000 in
theorem liftedDgramNotes (os : Os) (started : os.Started) (H : Type) (enc : TypeId × Value → H) :
    ReturnsInHanded {} Try.checked os 3 .any (Rows.dgramNotesSpec.pre6 enc Try.prog Try.f3 Rows.dgramNotesRow.domain false) (Rows.dgramNotesSpec.post enc Try.prog Try.f3 false true false false) :=
  law_lifted (C := Try.checked) (enc := enc) ownDgramNotes started (by kernel_rfl) Try.func3
    (ChangeSpec.witness6 (enc := enc) (C := Try.checked) false ⟨#[], #[.agg #[.int .i64 0, .int .i64 0, .int .u8 0, .int .u8 0, .int .u8 0, .int .u8 0, .string ByteArray.empty], .string ByteArray.empty], []⟩ 8 (by kernel_rfl) (by kernel_rfl) (by kernel_rfl) (by kernel_rfl))
    shsDgramNotes (by kernel_rfl) fitDgramNotes rfl (fun ds h => by
      match ds, h with
      | [d0, d1], _ => exact ⟨rfl, rfl, rfl⟩) 4 (by kernel_rfl) Try.underlying4 laidDgramNotes readDgramNotes coreDgramNotes
theorem overDgramNotes : Rows.dgramNotesRow.holds Try.pinned (OpenSpec.ofChange Rows.dgramNotesSpec) :=
  OpenClaim.holds_of_wide 3 Try.f3 rfl rfl rfl rfl rfl rfl rfl ⟨rfl, rfl, rfl, rfl, rfl⟩ rfl rfl rfl rfl rfl (by kernel_rfl) Try.func3 (by kernel_rfl)
    (of_decide_eq_true (by kernel_rfl)) (by unfold Func.isWrapper; rw [if_neg (of_decide_eq_false (by kernel_rfl))]; exact ⟨rfl, rfl⟩)
    (fun os started H enc _ => liftedDgramNotes os started H enc)
/-- THE STATEMENT -/
theorem provedDgramNotes : Rows.DgramNotesSaid := overDgramNotes
#print axioms provedDgramNotes
end Go.Proofs.Yteghlnpmmmfgfaa
