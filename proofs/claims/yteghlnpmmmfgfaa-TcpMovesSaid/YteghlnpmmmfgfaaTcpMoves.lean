/-
  TcpMoves: whatever is handed in, the law's function returns true. No condition.
-/
import Derived.Test.YteghlnpmmmfgfaaTcpZ
import Derived.Test.YteghlnpmmmfgfaaLawFw
import Derived.Test.YteghlnpmmmfgfaaRows
namespace Go.Proofs.Yteghlnpmmmfgfaa
open Go.ChangeShapes Go.WideShapes Go.ChangeAt Go.RowKit
set_option linter.unusedVariables false
set_option linter.unusedSimpArgs false

def shsTcpMoves : List Sh := [.cons (.int .i64) (.cons (.int .i64) (.cons (.int .u32) (.cons (.int .u32) (.cons (.int .i64) (.cons (.int .i64) (.cons (.int .i64) (.cons (.slice 24 2 (.cons (.int .i64) (.cons (.str) (.nil)))) (.cons (.str) (.nil))))))))), .int .u32, .int .u32]

theorem mvd_len (g : Sg) (s a : Int) : (mvd g s a).opts.length = g.opts.length := by
  unfold mvd
  split
  · rfl
  · simp
set_option maxHeartbeats 2000000 in
theorem moves_spec (g : Sg) (s a : Int) (hl : g.opts.length ≤ maxLen) (hl2 : g.opts.length * 24 ≤ 140737488351232) (hd : ∀ t ∈ g.opts, t.d.length ≤ 140737488351232) (hs : 0 ≤ s ∧ s < 4294967296) (ha : 0 ≤ a ∧ a < 4294967296) (hq : 0 ≤ g.seq ∧ g.seq < 4294967296) (hk : 0 ≤ g.ack ∧ g.ack < 4294967296) : Spec Try.prog 5 [dG g, .v (.int .u32 s), .v (.int .u32 a)] (.v (.bool true)) := by
  have h1 := mss_spec g hl
  have h2 := mssOf_spec g hl
  have h3 := move_spec g s a hl hl2 hd hs ha hq hk
  have h4 := moved_spec g s a hl hl2 hd hs ha hq hk
  have h5 := sameSeg_spec (mvd g s a) (by rw [mvd_len]; exact hl)
  refine hspec_fn Try.func5 rfl ok_custlaw_TcpMoves okr_custlaw_TcpMoves rfl (by kernel_rfl) ?_
  intro Γ hW0 hN0 hL0
  have hW := hW0 rfl
  clear hW0 hN0 hL0
  unfold x_custlaw_TcpMoves r_custlaw_TcpMoves
  repeat' (first
    | (with_reducible refine go_seq ?_)
    | (with_reducible refine go_region ?_)
    | (with_reducible refine go_regionD mixed_ok ?_)
    | (with_reducible refine go_cond ?_)
    | (with_reducible refine go_skip ?_)
    | (with_reducible refine go_block ?_)
    | (with_reducible refine nx_code ?_)
    | (with_reducible refine nx_block ?_)
    | (with_reducible refine go_ret ?_)
    | (with_reducible refine nx_nil ?_)
    | (with_reducible refine go_exit ?_)
    | (with_reducible refine ex_code ?_)
    | (with_reducible refine ex_loop ?_)
    | (with_reducible refine ex_here ?_)
    | ((with_reducible refine ex_past ?_ ?_); (exact by decide))
    | ((with_reducible refine endD_intro ?_ ?_); (exact by kernel_rfl))
    | ((with_reducible refine runR_n ?_ ?_); (solve | ((repeat' (first | exact trivial | exact rfl | apply And.intro)) <;> (first | exact rfl | (intro hq; cases hq; done) | decide | omega | (simp only [List.length_map, List.length_append, List.length_cons, List.length_nil, List.length_replicate]; done) | (simp only [room, maxLen, allOnes, oneV, List.length_map, List.length_append, List.length_cons, List.length_nil, List.length_replicate] at *; omega) | (simp only [decide_eq_true_eq, decide_eq_false_iff_not, Bool.not_eq_true', Bool.not_eq_false', Bool.and_eq_true, Bool.or_eq_true, Bool.and_eq_false_iff, Bool.or_eq_false_iff, Int.not_le, Int.not_lt, Decidable.not_not, ne_eq, not_true_eq_false, not_false_eq_true, decide_true, decide_false, Bool.not_true, Bool.not_false, Bool.false_eq_true, reduceCtorEq, List.length_map, beq_self_eq_true, Bool.and_true, Bool.true_and, Bool.false_and, Bool.and_false] at * <;> omega)))))
    | (first | (with_reducible refine runR_call h1 ?_) | (with_reducible refine runR_call h2 ?_) | (with_reducible refine runR_call h3 ?_) | (with_reducible refine runR_call h4 ?_) | (with_reducible refine runR_call h5 ?_))
    | (dsimp only [run, undef, runR_ok, runR_t, runR_f, gd, gd2, skipR, ex1, pickR, boxR, loadR, loadO, storeR, storeO, nilR, fieldAR, fieldR, partOf, binR, intBin, unR, boolR, kindEq, shiftOp, onlyIf, orB, convR, extR, lenR, indexSlR, indexArrR, putE, updL, keysOf, lget, lset, evT, evs, Env.get, Env.set, N8.get, N8.set, env0, cellsD, oneD, oneV, andB, allOne, lenB, mapV, dget, ddrop, dtake, splice, xget, xset, partsD, partsOk, partsE, partsEOk, repl, elemsR, elemsO, xdrop, xtake, allOnes, appN, appOwn, appNew, appY, cellEq_i, cellEq_b, cellEq_s, consO, cmpAll, allB, negB, eqsO, eqsR, eqbR, minR, evO, bndO, keepB, snapCut, slCut, nilCut, sliceR, isS, isnilL, isnilX, isnilR, strBin, sbinR, slenR, strAtR, substrB, substrR, makeR, clearO, clearR, sliceW1, sliceW2, sliceW3, sliceWR, appWO, appWR, okByte, okBytes, b2sR, indexVR, isnilPR, appD, callvR, cond, condK_t, condK_f, argsE, slots0, List.length_cons, List.length_nil, Bool.true_or, Bool.false_or, Bool.or_true, Bool.or_false, bnf, bnt, Nat.add_zero, Nat.zero_add, Nat.reduceAdd, Nat.reduceMul, Int.reduceToNat, endS])
    | (with_reducible refine runR_b (fun h => ?_) (fun h => ?_) <;> first | (exfalso; (simp only [decide_eq_true_eq, decide_eq_false_iff_not, Bool.not_eq_true', Bool.not_eq_false', Bool.and_eq_true, Bool.or_eq_true, Bool.and_eq_false_iff, Bool.or_eq_false_iff, Int.not_le, Int.not_lt, Decidable.not_not, ne_eq, not_true_eq_false, not_false_eq_true, decide_true, decide_false, Bool.not_true, Bool.not_false, Bool.false_eq_true, reduceCtorEq, List.length_map, beq_self_eq_true, Bool.and_true, Bool.true_and, Bool.false_and, Bool.and_false] at * <;> omega); done) | simp only [h, runR_t, runR_f])
    | (with_reducible refine condK_bl ?_ ?_)
    | (with_reducible refine condK_b (fun h => ?_) (fun h => ?_) <;> first | (exfalso; (simp only [decide_eq_true_eq, decide_eq_false_iff_not, Bool.not_eq_true', Bool.not_eq_false', Bool.and_eq_true, Bool.or_eq_true, Bool.and_eq_false_iff, Bool.or_eq_false_iff, Int.not_le, Int.not_lt, Decidable.not_not, ne_eq, not_true_eq_false, not_false_eq_true, decide_true, decide_false, Bool.not_true, Bool.not_false, Bool.false_eq_true, reduceCtorEq, List.length_map, beq_self_eq_true, Bool.and_true, Bool.true_and, Bool.false_and, Bool.and_false] at * <;> omega); done) | skip)
    | fail)
  (all_goals first | (exfalso; (try simp only [List.length_map] at *); first | omega | (simp only [decide_eq_true_eq, decide_eq_false_iff_not, Bool.not_eq_true', Bool.not_eq_false', Bool.and_eq_true, Bool.or_eq_true, Bool.and_eq_false_iff, Bool.or_eq_false_iff, Int.not_le, Int.not_lt, Decidable.not_not, ne_eq, not_true_eq_false, not_false_eq_true, decide_true, decide_false, Bool.not_true, Bool.not_false, Bool.false_eq_true, reduceCtorEq, List.length_map, beq_self_eq_true, Bool.and_true, Bool.true_and, Bool.false_and, Bool.and_false] at * <;> omega)) | skip)
  all_goals first
    | (exfalso; simp at h; done)
    | skip
  all_goals with_reducible refine ret_spec (by (try dsimp only [RetOK, resOk, resDs, resD, resV, cellV, cellO, cellP, cellOk, htake, nfD, nfL, nfLL, nfH, lget, partOf, xget, ddrop, dtake, dget, Env.get, N8.get, env0, List.length_cons, List.length_nil, Env.set, N8.set, lset, updL]); (repeat' (first | exact trivial | exact rfl | decide | apply And.intro))) (by (try dsimp only [RetOK, resOk, resDs, resD, resV, cellV, cellO, cellP, cellOk, htake, nfD, nfL, nfLL, nfH, lget, partOf, xget, ddrop, dtake, dget, Env.get, N8.get, env0, List.length_cons, List.length_nil, Env.set, N8.set, lset, updL]); (repeat' (first | exact trivial | exact nfLL_map (fun x => by simp [nfL, nfD, nfD]) | apply And.intro))) ?_
  all_goals (try dsimp only [RetOK, resOk, resDs, resD, resV, cellV, cellO, cellP, cellOk, htake, nfD, nfL, nfLL, nfH, lget, partOf, xget, ddrop, dtake, dget, Env.get, N8.get, env0, List.length_cons, List.length_nil, Env.set, N8.set, lset, updL])
  all_goals (try simp only [decide_eq_true_eq, decide_eq_false_iff_not, Bool.not_eq_true', Bool.not_eq_false', Bool.and_eq_true, Bool.or_eq_true, Bool.and_eq_false_iff, Bool.or_eq_false_iff] at *)
  all_goals first
    | rfl
    | (refine dbool ?_; simp)
theorem u32_wf {x : Int} (h : (Lit.int .u32 x).wf = true) : 0 ≤ x ∧ x < 4294967296 := by
  have h2 : IntKind.u32.min ≤ x ∧ x ≤ IntKind.u32.max := by simpa [Lit.wf] using h
  have e1 : IntKind.u32.min = 0 := by decide
  have e2 : IntKind.u32.max = 4294967295 := by decide
  rw [e1, e2] at h2
  omega
abbrev opOf (t : Int × ByteArray × Unit) : Op2 := ⟨t.1, t.2.1.data.toList⟩
theorem opOf_enc (t : Int × ByteArray × Unit) : (opOf t).enc = [.v (.int .i64 t.1), .v (.string t.2.1)] := by
  show [DV.v (.int .i64 t.1), .v (.string (mkS t.2.1.data.toList))] = _
  rw [mkS_data]
theorem ol1 (l : List (Int × ByteArray × Unit)) (h : l.length ≤ maxLen) : (l.map opOf).length ≤ maxLen := by rw [List.length_map]; exact h
theorem ol2 (l : List (Int × ByteArray × Unit)) (h : l.length * 24 ≤ 140737488351232) : (l.map opOf).length * 24 ≤ 140737488351232 := by rw [List.length_map]; exact h
theorem sv_TcpMoves (fr to seq ack flags win urg : Int) (l : List (Int × ByteArray × Unit)) (data : ByteArray) (s a : Int) (u1 u2 : Unit) : valSs shsTcpMoves ((fr, to, seq, ack, flags, win, urg, l, data, u1), s, a, u2) = [dG ⟨fr, to, seq, ack, flags, win, urg, l.map opOf, data.data.toList⟩, .v (.int .u32 s), .v (.int .u32 a)] := by
  rw [dG, Sg.enc]
  dsimp only
  rw [mkS_data, List.map_map, show (Op2.enc ∘ opOf) = fun t => [.v (.int .i64 t.1), .v (.string t.2.1)] from funext opOf_enc]
  rfl
theorem coreTcpMoves (W : World) (args : Array Value) (h : opnAll W W.heap.size shsTcpMoves args.toList) :
    Calls Try.prog 5 args W fun e W' => e = .returned (.bool true) ∧ Below W.heap.size W W' := by
  refine law_core rfl h (fun x hx => ?_)
  obtain ⟨⟨fr, to, seq, ack, flags, win, urg, l, data, u1⟩, s, a, u2⟩ := x
  obtain ⟨⟨-, -, hq, hk, -, -, -, ⟨hl2, hl, hd⟩, -, -⟩, hs, ha, -⟩ := hx
  refine Eq.mpr (congrArg (fun l => Spec Try.prog 5 l (.v (.bool true))) (sv_TcpMoves fr to seq ack flags win urg l data s a u1 u2)) (moves_spec ⟨fr, to, seq, ack, flags, win, urg, l.map opOf, data.data.toList⟩ s a ?_ ?_ ?_ (u32_wf hs) (u32_wf ha) (u32_wf hq) (u32_wf hk))
  · exact ol1 l hl
  · exact ol2 l hl2
  · intro t ht
    obtain ⟨y, hy, rfl⟩ := List.mem_map.1 ht
    exact (hd y hy).2.1
/-! THE ROW: the frame round 'core' -/
theorem ownTcpMoves : ownKnob Try.prog.godebug = none := by kernel_rfl
theorem fitTcpMoves : (List.range shsTcpMoves.length).all (fun i => match shsTcpMoves[i]?, Try.f5.params.toList[i]? with | some s, some t => s.fit Try.prog none t | _, _ => false) = true := by kernel_rfl
theorem laidTcpMoves : laidOutB Try.prog = true := by kernel_rfl
theorem readTcpMoves : Try.f5.params.toList.all (fun t => Try.prog.readableRec t && decide (t < Try.prog.types.size)) = true := by kernel_rfl
set_option maxRecDepth 100000 in
theorem liftedTcpMoves (os : Os) (started : os.Started) (H : Type) (enc : TypeId × Value → H) :
    ReturnsInHanded {} Try.checked os 5 .any (Rows.tcpMovesSpec.pre6 enc Try.prog Try.f5 Rows.tcpMovesRow.domain false) (Rows.tcpMovesSpec.post enc Try.prog Try.f5 false true false false) :=
  law_lifted (C := Try.checked) (enc := enc) ownTcpMoves started (by kernel_rfl) Try.func5
    (ChangeSpec.witness6 (enc := enc) (C := Try.checked) false ⟨#[], #[.agg #[.int .i64 0, .int .i64 0, .int .u32 0, .int .u32 0, .int .i64 0, .int .i64 0, .int .i64 0, .slice none 0 0, .string ByteArray.empty], .int .u32 0, .int .u32 0], []⟩ 8 (by kernel_rfl) (by kernel_rfl) (by kernel_rfl) (by kernel_rfl))
    shsTcpMoves (by kernel_rfl) fitTcpMoves rfl (fun ds h => by
      match ds, h with
      | [d0, d1, d2], _ => exact ⟨rfl, rfl, rfl⟩) 4 (by kernel_rfl) Try.underlying4 laidTcpMoves readTcpMoves coreTcpMoves
theorem overTcpMoves : Rows.tcpMovesRow.holds Try.pinned (OpenSpec.ofChange Rows.tcpMovesSpec) :=
  OpenClaim.holds_of_wide 5 Try.f5 rfl rfl rfl rfl rfl rfl rfl ⟨rfl, rfl, rfl, rfl, rfl⟩ rfl rfl rfl rfl rfl (by kernel_rfl) Try.func5 (by kernel_rfl)
    (of_decide_eq_true (by kernel_rfl)) (by unfold Func.isWrapper; rw [if_neg (of_decide_eq_false (by kernel_rfl))]; exact ⟨rfl, rfl⟩)
    (fun os started H enc _ => liftedTcpMoves os started H enc)
/-- THE STATEMENT -/
theorem provedTcpMoves : Rows.TcpMovesSaid := overTcpMoves
#print axioms provedTcpMoves
end Go.Proofs.Yteghlnpmmmfgfaa
