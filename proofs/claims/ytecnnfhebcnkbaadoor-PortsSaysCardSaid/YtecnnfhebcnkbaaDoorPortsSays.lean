/-
  PortsSays: whatever is handed in, the law's function returns true. The package-level variable that the row lists holds what the row says.
-/
import Derived.Test.YtecnnfhebcnkbaaDoorPortS
import Derived.Test.YtecnnfhebcnkbaaDoorDoor
namespace Go.Proofs.YtecnnfhebcnkbaaDoor
open Go.ChangeShapes Go.WideShapes Go.ChangeAt Go.RowKit
set_option linter.unusedVariables false
set_option linter.unusedSimpArgs false
def shsPortsSays : List Sh := [.cons (.int .i64) (.cons (.int .u64) (.nil)), .int .i64]
theorem both_let (b : Int) (t : Nat) (want : Int) (ht : t < 18446744073709551616) : ∃ (B : Int) (T : Nat) (p e : Int), Spec Tryd.prog 4 [.agg [.v (.int .i64 b), .v (.int .u64 (t : Int))], .v (.int .i64 want)] (dLet B T p e) ∧ Spec Tryd.prog 5 [.agg [.v (.int .i64 b), .v (.int .u64 (t : Int))], .v (.int .i64 want)] (dLet B T p e) := by
  by_cases h0 : letE b t want = 0
  · by_cases hc : tkd b t want = false ∧ b ≤ want ∧ want ≤ b + 63
    · exact ⟨_, _, _, _, plet_good1 b t want ht h0 hc, rlet_good1 b t want ht h0 hc⟩
    · exact ⟨_, _, _, _, plet_good2 b t want ht h0 hc, rlet_good2 b t want ht h0 hc⟩
  · exact ⟨_, _, _, _, plet_bad b t want h0, rlet_bad b t want ht h0⟩
set_option maxHeartbeats 4000000 in
theorem ports_law (b : Int) (t : Nat) (want : Int) (ht : t < 18446744073709551616) : Spec Tryd.prog 3 [.agg [.v (.int .i64 b), .v (.int .u64 (t : Int))], .v (.int .i64 want)] (.v (.bool true)) := by
  obtain ⟨B, T2, p, e, h1, h2⟩ := both_let b t want ht
  have h3 := pend_spec b t want ht
  have h4 := rend_spec b t want ht
  have h5 := pfree_spec b t ht
  have h6 := pright_spec b t
  have h7 := pcheck_spec b t
  unfold pE at h5 h6 h7
  have hlen : ((freeN b t 64).map encI).length = (freeN b t 64).length := List.length_map _
  unfold dLet at h1 h2
  generalize endB b t want = eb at *
  generalize endT b t want = et at *
  generalize endE b t want = ee at *
  cases hb : pOk b with
  | false =>
    rw [hb, if_neg (by decide), if_neg (by decide)] at h5
    rw [hb, if_neg (by decide)] at h6 h7
    have h8 := h7
    generalize (t : Int) = T at *
    generalize (T2 : Int) = T3 at *
    generalize (et : Int) = et2 at *
    refine hspec_fn Tryd.func3 rfl ok_custlaw_PortsSays okr_custlaw_PortsSays rfl (by kernel_rfl) ?_
    intro Γ hW0 hN0 hL0
    have hW := hW0 rfl
    clear hW0 hN0 hL0
    unfold x_custlaw_PortsSays r_custlaw_PortsSays
    repeat' (first
      | (with_reducible first | refine go_seq ?_ | refine go_region ?_ | refine go_regionD mixed_ok ?_ | refine go_cond ?_ | refine go_skip ?_ | refine go_block ?_ | refine nx_code ?_ | refine nx_block ?_ | refine go_ret ?_ | refine nx_nil ?_ | refine go_exit ?_ | refine ex_code ?_ | refine ex_loop ?_ | refine ex_here ?_)
      | ((with_reducible refine ex_past ?_ ?_); (exact by decide))
      | ((with_reducible refine endD_intro ?_ ?_); (exact by kernel_rfl))
      | ((with_reducible refine runR_n ?_ ?_); (solve | ((repeat' (first | exact trivial | exact rfl | apply And.intro)) <;> (first | exact rfl | (intro hq; cases hq; done) | decide | omega | exact keysOk_map (fun _ => rfl) _ | (simp only [List.length_map, List.length_append, List.length_cons, List.length_nil, List.length_replicate]; done) | (simp only [room, maxLen, allOnes, oneV, List.length_map, List.length_append, List.length_cons, List.length_nil, List.length_replicate] at *; omega) | (simp only [hsL, reduceCtorEq] at * <;> omega)))))
      | (first | (with_reducible refine runR_call h1 ?_) | (with_reducible refine runR_call h2 ?_) | (with_reducible refine runR_call h3 ?_) | (with_reducible refine runR_call h4 ?_) | (with_reducible refine runR_call h5 ?_) | (with_reducible refine runR_call h6 ?_) | (with_reducible refine runR_call h7 ?_) | (with_reducible refine runR_call h8 ?_) | (simp only [hlen]))
      | (dsimp only [run, undef, zipO, runR_ok, runR_t, runR_f, gd, gd2, skipR, ex1, pickR, boxR, loadR, loadO, storeR, storeO, nilR, fieldAR, fieldR, partOf, binR, intBin, unR, boolR, kindEq, shiftOp, onlyIf, orB, convR, extR, lenR, indexSlR, indexArrR, gidxR, putE, updL, keysOf, lget, lset, evT, evs, Env.get, Env.set, N8.get, N8.set, env0, cellsD, oneD, oneV, andB, allOne, lenB, mapV, dget, ddrop, dtake, splice, xget, xset, partsD, partsOk, partsE, partsEOk, repl, elemsR, elemsS, elemsO, xdrop, xtake, allOnes, appN, appOwn, appNew, appY, cellEq_i, cellEq_b, cellEq_s, consO, cmpAll, allB, negB, eqsO, eqsR, eqbR, minR, evO, bndO, keepB, snapCut, slCut, nilCut, sliceR, isS, isnilL, isnilX, isnilR, strBin, sbinR, slenR, strAtR, substrB, substrR, makeR, clearO, clearR, sliceW1, sliceW2, sliceW3, sliceWR, appWO, appWR, okByte, okBytes, b2sR, indexVR, isnilPR, chunk, sliceAR, s2bR, flat1, arrpR, exnR, mgetR, mgetK, mgetO, mputR, mputK, mputO, mlenR, mlenO, mgetLR, mgetLK, mgetLO, mgetLX, mentLR, mentLK, mentLO, mentLX, estLR, estLO, estLX, keyV, valL, s2bOR, appD, callvR, cond, condK_t, condK_f, argsE, slots0, List.length_cons, List.length_nil, Bool.true_or, Bool.false_or, Bool.or_true, Bool.or_false, bnf, bnt, Nat.add_zero, Nat.zero_add, Nat.reduceAdd, Nat.reduceMul, Int.reduceToNat, endS])
      | (with_reducible refine runR_b (fun h => ?_) (fun h => ?_) <;> first | (exfalso; (simp only [hsL, reduceCtorEq] at * <;> omega); done) | simp only [h, runR_t, runR_f])
      | (with_reducible refine condK_bl ?_ ?_)
      | (with_reducible refine condK_b (fun h => ?_) (fun h => ?_) <;> first | (exfalso; (simp only [hsL, reduceCtorEq] at * <;> omega); done) | skip)
      | fail)
    (all_goals first | (exfalso; (try simp only [List.length_map] at *); first | omega | (simp only [hsL, reduceCtorEq] at * <;> omega)) | skip)
    all_goals first
      | (exfalso; simp at h; done)
      | skip
    all_goals with_reducible refine ret_spec2 (by (try dsimp only [RetOK, resOk, resDs, resD, resV, cellV, cellO, cellP, cellOk, htake, nfD, nfL, nfLL, nfH, lget, partOf, xget, ddrop, dtake, dget, Env.get, N8.get, env0, List.length_cons, List.length_nil, Env.set, N8.set, lset, updL]); (repeat' (first | exact trivial | exact rfl | exact nfLL_map (fun x => by simp [nfL, nfD, nfD]) | decide | apply And.intro))) ?_
    all_goals (try dsimp only [RetOK, resOk, resDs, resD, resV, cellV, cellO, cellP, cellOk, htake, nfD, nfL, nfLL, nfH, lget, partOf, xget, ddrop, dtake, dget, Env.get, N8.get, env0, List.length_cons, List.length_nil, Env.set, N8.set, lset, updL])
    all_goals (try simp only [hsM] at *)
    all_goals exact dbool (by simp)
  | true =>
    rw [hb, if_pos rfl, if_pos rfl] at h5
    rw [hb, if_pos rfl] at h6 h7
    have h8 := free_spec b t (pOk_rng' hb).1 ht
    generalize freeN b t 64 = L at *
    generalize (t : Int) = T at *
    generalize (T2 : Int) = T3 at *
    generalize (et : Int) = et2 at *
    refine hspec_fn Tryd.func3 rfl ok_custlaw_PortsSays okr_custlaw_PortsSays rfl (by kernel_rfl) ?_
    intro Γ hW0 hN0 hL0
    have hW := hW0 rfl
    clear hW0 hN0 hL0
    unfold x_custlaw_PortsSays r_custlaw_PortsSays
    repeat' (first
      | (with_reducible first | refine go_seq ?_ | refine go_region ?_ | refine go_regionD mixed_ok ?_ | refine go_cond ?_ | refine go_skip ?_ | refine go_block ?_ | refine nx_code ?_ | refine nx_block ?_ | refine go_ret ?_ | refine nx_nil ?_ | refine go_exit ?_ | refine ex_code ?_ | refine ex_loop ?_ | refine ex_here ?_)
      | ((with_reducible refine ex_past ?_ ?_); (exact by decide))
      | ((with_reducible refine endD_intro ?_ ?_); (exact by kernel_rfl))
      | ((with_reducible refine runR_n ?_ ?_); (solve | ((repeat' (first | exact trivial | exact rfl | apply And.intro)) <;> (first | exact rfl | (intro hq; cases hq; done) | decide | omega | exact keysOk_map (fun _ => rfl) _ | (simp only [List.length_map, List.length_append, List.length_cons, List.length_nil, List.length_replicate]; done) | (simp only [room, maxLen, allOnes, oneV, List.length_map, List.length_append, List.length_cons, List.length_nil, List.length_replicate] at *; omega) | (simp only [hsL, reduceCtorEq] at * <;> omega)))))
      | (first | (with_reducible refine runR_call h1 ?_) | (with_reducible refine runR_call h2 ?_) | (with_reducible refine runR_call h3 ?_) | (with_reducible refine runR_call h4 ?_) | (with_reducible refine runR_call h5 ?_) | (with_reducible refine runR_call h6 ?_) | (with_reducible refine runR_call h7 ?_) | (with_reducible refine runR_call h8 ?_) | (simp only [hlen]))
      | (dsimp only [run, undef, zipO, runR_ok, runR_t, runR_f, gd, gd2, skipR, ex1, pickR, boxR, loadR, loadO, storeR, storeO, nilR, fieldAR, fieldR, partOf, binR, intBin, unR, boolR, kindEq, shiftOp, onlyIf, orB, convR, extR, lenR, indexSlR, indexArrR, gidxR, putE, updL, keysOf, lget, lset, evT, evs, Env.get, Env.set, N8.get, N8.set, env0, cellsD, oneD, oneV, andB, allOne, lenB, mapV, dget, ddrop, dtake, splice, xget, xset, partsD, partsOk, partsE, partsEOk, repl, elemsR, elemsS, elemsO, xdrop, xtake, allOnes, appN, appOwn, appNew, appY, cellEq_i, cellEq_b, cellEq_s, consO, cmpAll, allB, negB, eqsO, eqsR, eqbR, minR, evO, bndO, keepB, snapCut, slCut, nilCut, sliceR, isS, isnilL, isnilX, isnilR, strBin, sbinR, slenR, strAtR, substrB, substrR, makeR, clearO, clearR, sliceW1, sliceW2, sliceW3, sliceWR, appWO, appWR, okByte, okBytes, b2sR, indexVR, isnilPR, chunk, sliceAR, s2bR, flat1, arrpR, exnR, mgetR, mgetK, mgetO, mputR, mputK, mputO, mlenR, mlenO, mgetLR, mgetLK, mgetLO, mgetLX, mentLR, mentLK, mentLO, mentLX, estLR, estLO, estLX, keyV, valL, s2bOR, appD, callvR, cond, condK_t, condK_f, argsE, slots0, List.length_cons, List.length_nil, Bool.true_or, Bool.false_or, Bool.or_true, Bool.or_false, bnf, bnt, Nat.add_zero, Nat.zero_add, Nat.reduceAdd, Nat.reduceMul, Int.reduceToNat, endS])
      | (with_reducible refine runR_b (fun h => ?_) (fun h => ?_) <;> first | (exfalso; (simp only [hsL, reduceCtorEq] at * <;> omega); done) | simp only [h, runR_t, runR_f])
      | (with_reducible refine condK_bl ?_ ?_)
      | (with_reducible refine condK_b (fun h => ?_) (fun h => ?_) <;> first | (exfalso; (simp only [hsL, reduceCtorEq] at * <;> omega); done) | skip)
      | fail)
    (all_goals first | (exfalso; (try simp only [List.length_map] at *); first | omega | (simp only [hsL, reduceCtorEq] at * <;> omega)) | skip)
    all_goals first
      | (exfalso; simp at h; done)
      | skip
    all_goals with_reducible refine ret_spec2 (by (try dsimp only [RetOK, resOk, resDs, resD, resV, cellV, cellO, cellP, cellOk, htake, nfD, nfL, nfLL, nfH, lget, partOf, xget, ddrop, dtake, dget, Env.get, N8.get, env0, List.length_cons, List.length_nil, Env.set, N8.set, lset, updL]); (repeat' (first | exact trivial | exact rfl | exact nfLL_map (fun x => by simp [nfL, nfD, nfD]) | decide | apply And.intro))) ?_
    all_goals (try dsimp only [RetOK, resOk, resDs, resD, resV, cellV, cellO, cellP, cellOk, htake, nfD, nfL, nfLL, nfH, lget, partOf, xget, ddrop, dtake, dget, Env.get, N8.get, env0, List.length_cons, List.length_nil, Env.set, N8.set, lset, updL])
    all_goals (try simp only [hsM] at *)
    all_goals exact dbool (by simp)
theorem u64_wf {x : Int} (h : (Lit.int .u64 x).wf = true) : 0 ≤ x ∧ x < 18446744073709551616 := by
  have h2 : IntKind.u64.min ≤ x ∧ x ≤ IntKind.u64.max := by simpa [Lit.wf] using h
  have e1 : IntKind.u64.min = 0 := by decide
  have e2 : IntKind.u64.max = 18446744073709551615 := by decide
  rw [e1, e2] at h2
  omega
theorem sv_PortsSays (b : Int) (t : Nat) (w : Int) (u1 u2 : Unit) : valSs shsPortsSays ((b, (t : Int), u1), w, u2) = [.agg [.v (.int .i64 b), .v (.int .u64 (t : Int))], .v (.int .i64 w)] := rfl
theorem corePortsSays (W : World) (args : Array Value) (hL : laidMetH Tryd.prog Rows.portsSaysRow.laid W) (h : opnAll W W.heap.size shsPortsSays args.toList) :
    Calls Tryd.prog 3 args W fun e W' => e = .returned (.bool true) ∧ Below W.heap.size W W' := by
  refine law_core_g rfl h (glob_of_laid hL) (fun x hx => ?_)
  obtain ⟨⟨b, t, u1⟩, w, u2⟩ := x
  obtain ⟨⟨hb, ht, -⟩, -⟩ := hx
  obtain ⟨t1, t2⟩ := u64_wf ht
  obtain ⟨n, rfl⟩ := Int.eq_ofNat_of_zero_le t1
  exact Eq.mpr (congrArg (fun l => Spec Tryd.prog 3 l (.v (.bool true))) (sv_PortsSays b n w u1 u2)) (ports_law b n w (by omega))
/-! THE ROW: the frame round 'core', and its card -/
theorem ownPortsSays : ownKnob Tryd.prog.godebug = none := by kernel_rfl
theorem fitPortsSays : (List.range shsPortsSays.length).all (fun i => match shsPortsSays[i]?, Tryd.f3.params.toList[i]? with | some s, some t => s.fit Tryd.prog none t | _, _ => false) = true := by kernel_rfl
theorem laidPortsSays : laidOutB Tryd.prog = true := by kernel_rfl
theorem readPortsSays : Tryd.f3.params.toList.all (fun t => Tryd.prog.readableRec t && decide (t < Tryd.prog.types.size)) = true := by kernel_rfl
theorem metPortsSays (os : Os) (args : Array Value) : laidMetH Tryd.prog Rows.portsSaysRow.laid ((World.doorLaid Tryd.prog 2000 os).forCall (fun _ _ => 0) ⟨#[], args, []⟩).memory :=
  laidMetH_of_parts3 (fuel := 8) (laidMet_of_run' 8 (by kernel_rfl) (by kernel_rfl)) (by kernel_rfl) (by kernel_rfl)
set_option maxRecDepth 100000 in
theorem liftedPortsSays (os : Os) (started : os.Started) (H : Type) (enc : TypeId × Value → H) :
    ReturnsInHanded {} Tryd.checked os 3 .any (fun w args => (Rows.portsSaysSpec.pre enc Tryd.prog Tryd.f3 [] false w args ∧ laidMetH Tryd.prog Rows.portsSaysRow.laid w) ∧ sizedMet enc Tryd.prog Tryd.f3 (OpenSpec.ofChange Rows.portsSaysSpec) false w args) (Rows.portsSaysSpec.post enc Tryd.prog Tryd.f3 false true false false) :=
  law_lifted_laid (C := Tryd.checked) (enc := enc) ownPortsSays started (by kernel_rfl) Tryd.func3
    (ChangeSpec.witness_shaped (enc := enc) (C := Tryd.checked) (os := os) (X := fun w _ => laidMetH Tryd.prog Rows.portsSaysRow.laid w) false (World.doorLaid Tryd.prog 2000 os) #[.agg #[.int .i64 0, .int .u64 0], .int .i64 0] 8 rfl (World.shaped_of_RefB (by kernel_rfl) (by kernel_rfl)) (by kernel_rfl) (by kernel_rfl) (by kernel_rfl) (metPortsSays os _))
    shsPortsSays (by kernel_rfl) fitPortsSays rfl (fun ds h => by
      match ds, h with
      | [d0, d1], _ => exact ⟨rfl, rfl, rfl⟩) 4 (by kernel_rfl) Tryd.underlying4 laidPortsSays readPortsSays corePortsSays
theorem overPortsSays : Rows.portsSaysRow.holds Tryd.pinned (OpenSpec.ofChange Rows.portsSaysSpec) :=
  OpenClaim.holds_of_wide 3 Tryd.f3 rfl rfl rfl rfl rfl rfl rfl ⟨rfl, rfl, rfl, rfl, rfl⟩ rfl rfl rfl rfl rfl (by kernel_rfl) Tryd.func3 (by kernel_rfl)
    (of_decide_eq_true (by kernel_rfl)) (by unfold Func.isWrapper; rw [if_neg (of_decide_eq_false (by kernel_rfl))]; exact ⟨rfl, rfl⟩)
    (fun os started H enc _ => liftedPortsSays os started H enc)
/-- THE STATEMENT: the tied card. -/
theorem provedPortsSays : Rows.PortsSaysCardSaid :=
  Claim7.holds_tied_plain_at .later [] [.data] true (true, "0284ebccf7c15b14089b5af11eb825afd7e9227fd07ce4346825cda4dea62a27") false
    overPortsSays (fun _ h => by cases h) (by kernel_rfl) (fun _ h => by cases h) portsSays_row_tie rfl ⟨rfl, rfl⟩ (by kernel_rfl) rfl
    (fun f fn hf hfn => by
      obtain rfl : f = 3 := Option.some.inj ((show Tryd.prog.funcNamed Rows.portsSaysRow.func = some 3 by kernel_rfl).symm.trans hf) |>.symm
      obtain rfl : fn = Tryd.f3 := (Option.some.inj (Tryd.func3.symm.trans hfn)).symm
      exact ⟨by kernel_rfl, fun j t ht => by
        have hall : (Tryd.f3.params.toList.all fun u => !Tryd.prog.wantsStandIn u) = true := by kernel_rfl
        have hm : t ∈ Tryd.f3.params.toList := by simpa using Array.mem_of_getElem? ht
        exact (show Tryd.prog.wantsStandIn t = false by simpa using List.all_eq_true.1 hall t hm)⟩)
    (by kernel_rfl)
#print axioms provedPortsSays
end Go.Proofs.YtecnnfhebcnkbaaDoor
