/-
  TcpWrites: the law's function returns true wherever the options are few enough that a row of 40 bytes for each can be made; so wherever the arguments' bulk is at most 1048576.
-/
import Derived.Test.YteghlnpmmmfgfaaTcpL
import Derived.Test.YteghlnpmmmfgfaaTcpE
import Derived.Test.YteghlnpmmmfgfaaUpto
namespace Go.Proofs.Yteghlnpmmmfgfaa
open Go.ChangeShapes Go.WideShapes Go.ChangeAt Go.RowKit
def shsTcpWrites : List Sh := [.cons (.int .i64) (.cons (.int .i64) (.cons (.int .u32) (.cons (.int .u32) (.cons (.int .i64) (.cons (.int .i64) (.cons (.int .i64) (.cons (.slice 24 2 (.cons (.int .i64) (.cons (.str) (.nil)))) (.cons (.str) (.nil))))))))), .int .u32, .int .u32, .str]
def shwTcpWrites : List Sh := [.cons (.int .i64) (.cons (.int .i64) (.cons (.int .u32) (.cons (.int .u32) (.cons (.int .i64) (.cons (.int .i64) (.cons (.int .i64) (.cons (.slice 100000000 2 (.cons (.int .i64) (.cons (.str) (.nil)))) (.cons (.str) (.nil))))))))), .int .u32, .int .u32, .str]
set_option linter.unusedVariables false
set_option linter.unusedSimpArgs false
theorem rdS_len (s : List UInt8) (a b : Int) : (rdS s a b).1.opts.length ≤ maxLen := by
  unfold rdS
  split
  · exact Nat.zero_le _
  split
  · exact Nat.zero_le _
  split
  · exact Nat.zero_le _
  cases hq : prs ((s.drop 20).take (nW s - 20)) with
  | none => exact Nat.zero_le _
  | some l =>
    have h1 := prs_len _ _ _ (Nat.le_refl _) hq
    have h2 : nW s ≤ 60 := by unfold nW; have := bN_lt s 12; omega
    dsimp only
    split
    · exact Nat.zero_le _
    · show l.length ≤ maxLen
      simp at h1
      unfold maxLen
      omega
set_option maxHeartbeats 4000000 in
theorem segs_spec (g : Sg) (a b : Int) (s : List UInt8) (ha : 0 ≤ a ∧ a < 4294967296) (hb : 0 ≤ b ∧ b < 4294967296) (hq : 0 ≤ g.seq ∧ g.seq < 4294967296) (hk : 0 ≤ g.ack ∧ g.ack < 4294967296) (hl : 40 * g.opts.length ≤ 140737488355000) (hd : ∀ o ∈ g.opts, o.d.length ≤ 140737488351232) (hdd : g.data.length ≤ 140737488351232) (hs : s.length ≤ 140737488351232) : Spec Try.prog 8 [dG g, .v (.int .u32 a), .v (.int .u32 b), .v (.string (mkS s))] (.v (.bool true)) := by
  have g1 := swrite_spec g a b ha hb hq hk hl hd hdd
  have g2 := stext_spec g a b ha hb hq hk (by unfold maxLen; omega) hd hdd
  have g3 := sread_spec s a b ha hb hs
  have g4 := tseg_spec s a b ha hb hs
  have g5 := sameSeg_spec (rdS s a b).1 (rdS_len s a b)
  generalize sgW g a b = x1 at *
  generalize rdS s a b = x2 at *
  refine hspec_fn Try.func8 rfl ok_custlaw_TcpWrites okr_custlaw_TcpWrites rfl (by kernel_rfl) ?_
  intro Γ hW0 hN0 hL0
  have hW := hW0 rfl
  clear hW0 hN0 hL0
  unfold x_custlaw_TcpWrites r_custlaw_TcpWrites
  repeat' (first
    | (with_reducible first | refine go_seq ?_ | refine go_region ?_ | refine go_regionD mixed_ok ?_ | refine go_cond ?_ | refine go_skip ?_ | refine go_block ?_ | refine nx_code ?_ | refine nx_block ?_ | refine go_ret ?_ | refine nx_nil ?_ | refine go_exit ?_ | refine ex_code ?_ | refine ex_loop ?_ | refine ex_here ?_)
    | ((with_reducible refine ex_past ?_ ?_); (exact by decide))
    | ((with_reducible refine endD_intro ?_ ?_); (exact by kernel_rfl))
    | ((with_reducible refine runR_n ?_ ?_); (solve | ((repeat' (first | exact trivial | exact rfl | apply And.intro)) <;> (first | exact rfl | (intro hq; cases hq; done) | decide | omega | exact keysOk_map (fun _ => rfl) _ | (simp only [List.length_map, List.length_append, List.length_cons, List.length_nil, List.length_replicate]; done) | (simp only [room, maxLen, allOnes, oneV, List.length_map, List.length_append, List.length_cons, List.length_nil, List.length_replicate] at *; omega) | (simp only [hsL, reduceCtorEq] at * <;> omega)))))
    | (first | (with_reducible refine runR_call g1 ?_) | (with_reducible refine runR_call g2 ?_) | (with_reducible refine runR_call g3 ?_) | (with_reducible refine runR_call g4 ?_) | (with_reducible refine runR_call g5 ?_))
    | (dsimp only [run, undef, runR_ok, runR_t, runR_f, gd, gd2, skipR, ex1, pickR, boxR, loadR, loadO, storeR, storeO, nilR, fieldAR, fieldR, partOf, binR, intBin, unR, boolR, kindEq, shiftOp, onlyIf, orB, convR, extR, lenR, indexSlR, indexArrR, putE, updL, keysOf, lget, lset, evT, evs, Env.get, Env.set, N8.get, N8.set, env0, cellsD, oneD, oneV, andB, allOne, lenB, mapV, dget, ddrop, dtake, splice, xget, xset, partsD, partsOk, partsE, partsEOk, repl, elemsR, elemsS, elemsO, xdrop, xtake, allOnes, appN, appOwn, appNew, appY, cellEq_i, cellEq_b, cellEq_s, consO, cmpAll, allB, negB, eqsO, eqsR, eqbR, minR, evO, bndO, keepB, snapCut, slCut, nilCut, sliceR, isS, isnilL, isnilX, isnilR, strBin, sbinR, slenR, strAtR, substrB, substrR, makeR, clearO, clearR, sliceW1, sliceW2, sliceW3, sliceWR, appWO, appWR, okByte, okBytes, b2sR, indexVR, isnilPR, chunk, sliceAR, s2bR, flat1, arrpR, exnR, mgetR, mgetK, mgetO, mputR, mputK, mputO, mlenR, mlenO, mgetLR, mgetLK, mgetLO, mgetLX, mentLR, mentLK, mentLO, mentLX, estLR, estLO, estLX, keyV, valL, s2bOR, appD, callvR, cond, condK_t, condK_f, argsE, slots0, List.length_cons, List.length_nil, Bool.true_or, Bool.false_or, Bool.or_true, Bool.or_false, bnf, bnt, Nat.add_zero, Nat.zero_add, Nat.reduceAdd, Nat.reduceMul, Int.reduceToNat, endS])
    | (with_reducible refine runR_b (fun h => ?_) (fun h => ?_) <;> first | (exfalso; (simp only [hsL, reduceCtorEq] at * <;> omega); done) | simp only [h, runR_t, runR_f])
    | (with_reducible refine condK_bl ?_ ?_)
    | (with_reducible refine condK_b (fun h => ?_) (fun h => ?_) <;> first | (exfalso; (simp only [hsL, reduceCtorEq] at * <;> omega); done) | skip)
    | fail)
  (all_goals first | (exfalso; (try simp only [List.length_map] at *); first | omega | (simp only [hsL, reduceCtorEq] at * <;> omega)) | skip)
  all_goals first
    | (exfalso; simp at h; done)
    | skip
  all_goals with_reducible refine ret_spec2 (by (try dsimp only [RetOK, resOk, resDs, resD, resV, cellV, cellO, cellP, cellOk, htake, nfD, nfL, nfLL, nfH, lget, partOf, xget, ddrop, dtake, dget, Env.get, N8.get, env0, List.length_cons, List.length_nil, Env.set, N8.set, lset, updL]); (repeat' (first | exact trivial | exact rfl | exact nfLL_map (fun x => by simp [nfL, nfD, nfD]) | decide | apply And.intro))) ?_
  all_goals (try dsimp only [RetOK, resOk, resDs, resD, resV, cellV, cellO, cellP, cellOk, htake, nfD, nfL, nfLL, nfH, lget, partOf, xget, ddrop, dtake, dget, Env.get, N8.get, env0, List.length_cons, List.length_nil, Env.set, N8.set, lset, updL])
  all_goals (try simp only [hsM] at *)
  all_goals first
    | rfl
    | (refine dbool ?_; simp)
theorem u32_wf {x : Int} (h : (Lit.int .u32 x).wf = true) : 0 ≤ x ∧ x < 4294967296 := by
  have h2 : IntKind.u32.min ≤ x ∧ x ≤ IntKind.u32.max := by simpa [Lit.wf] using h
  have e1 : IntKind.u32.min = 0 := by decide
  have e2 : IntKind.u32.max = 4294967295 := by decide
  rw [e1, e2] at h2
  omega
abbrev opOf (t : Int × ByteArray × Unit) : Op2 := ⟨t.1, t.2.1.data.toList⟩
theorem opOf_enc (t : Int × ByteArray × Unit) : (opOf t).enc = [.v (.int .i64 t.1), .v (.string t.2.1)] := by
  show [DV.v (.int .i64 t.1), .v (.string (mkS t.2.1.data.toList))] = _
  rw [mkS_data]
theorem ol1 (l : List (Int × ByteArray × Unit)) (h : l.length * 100000000 ≤ 140737488351232) : 40 * (l.map opOf).length ≤ 140737488355000 := by rw [List.length_map]; omega
theorem sv_TcpWrites (fr to seq ack flags win urg : Int) (l : List (Int × ByteArray × Unit)) (data : ByteArray) (s a : Int) (t : ByteArray) (u1 u2 : Unit) : valSs shwTcpWrites ((fr, to, seq, ack, flags, win, urg, l, data, u1), s, a, t, u2) = [dG ⟨fr, to, seq, ack, flags, win, urg, l.map opOf, data.data.toList⟩, .v (.int .u32 s), .v (.int .u32 a), .v (.string (mkS t.data.toList))] := by
  rw [dG, Sg.enc]
  dsimp only
  rw [mkS_data, mkS_data, List.map_map, show (Op2.enc ∘ opOf) = fun t => [.v (.int .i64 t.1), .v (.string t.2.1)] from funext opOf_enc]
  rfl
theorem coreTcpWrites (W : World) (args : Array Value) (h : opnAll W W.heap.size (shsTcpWrites.map Sh.wide) args.toList) :
    Calls Try.prog 8 args W fun e W' => e = .returned (.bool true) ∧ Below W.heap.size W W' := by
  have h' : opnAll W W.heap.size shwTcpWrites args.toList := h
  refine law_core rfl h' (fun x hx => ?_)
  obtain ⟨⟨fr, to, seq, ack, flags, win, urg, l, data, u1⟩, s, a, t, u2⟩ := x
  obtain ⟨⟨-, -, hq, hk, -, -, -, ⟨hl2, hl, hd⟩, hdd, -⟩, hs, ha, ht, -⟩ := hx
  refine Eq.mpr (congrArg (fun l => Spec Try.prog 8 l (.v (.bool true))) (sv_TcpWrites fr to seq ack flags win urg l data s a t u1 u2)) (segs_spec ⟨fr, to, seq, ack, flags, win, urg, l.map opOf, data.data.toList⟩ s a _ (u32_wf hs) (u32_wf ha) (u32_wf hq) (u32_wf hk) ?_ ?_ hdd ht)
  · exact ol1 l hl2
  · intro t ht
    obtain ⟨y, hy, rfl⟩ := List.mem_map.1 ht
    exact (hd y hy).2.1
/-! THE ROW: the frame round 'core', where the arguments are small -/
theorem ownTcpWrites : ownKnob Try.prog.godebug = none := by kernel_rfl
theorem fitTcpWrites : (List.range shsTcpWrites.length).all (fun i => match shsTcpWrites[i]?, Try.f8.params.toList[i]? with | some s, some t => s.fit Try.prog none t | _, _ => false) = true := by kernel_rfl
theorem laidTcpWrites : laidOutB Try.prog = true := by kernel_rfl
theorem readTcpWrites : Try.f8.params.toList.all (fun t => Try.prog.readableRec t && decide (t < Try.prog.types.size)) = true := by kernel_rfl
set_option maxRecDepth 100000 in
theorem liftedTcpWrites (os : Os) (started : os.Started) (H : Type) (enc : TypeId × Value → H) (F : Stop.Interp) :
    ReturnsInHanded {} Try.checked os 8 .any ((Rows.OpenSpec.upto Rows.tcpWritesSpec).pre6 enc Try.prog Try.f8 Rows.tcpWritesUptoRow.domain false) (((Rows.OpenSpec.upto Rows.tcpWritesSpec).at F).post enc Try.prog Try.f8 false true false false) :=
  law_lifted_upto (C := Try.checked) (enc := enc) ownTcpWrites started (by kernel_rfl) Try.func8
    (OpenSpec.witness (enc := enc) (C := Try.checked) (s := Rows.OpenSpec.upto Rows.tcpWritesSpec) (k := Rows.uptoSmall) rfl false ⟨#[], #[.agg #[.int .i64 0, .int .i64 0, .int .u32 0, .int .u32 0, .int .i64 0, .int .i64 0, .int .i64 0, .slice none 0 0, .string ByteArray.empty], .int .u32 0, .int .u32 0, .string ByteArray.empty], []⟩ 8 (by kernel_rfl) (by kernel_rfl) (by kernel_rfl)
      (x := ([.agg [.lit (.int .i64 0), .lit (.int .i64 0), .lit (.int .u32 0), .lit (.int .u32 0), .lit (.int .i64 0), .lit (.int .i64 0), .lit (.int .i64 0), .nil, .lit (.string [])], .lit (.int .u32 0), .lit (.int .u32 0), .lit (.string [])], [], [])) (by kernel_rfl) rfl (by kernel_rfl))
    shsTcpWrites (by kernel_rfl) fitTcpWrites rfl (fun ds h => by
      match ds, h with
      | [d0, d1, d2, d3], _ => exact ⟨rfl, rfl, rfl⟩) 4 (by kernel_rfl) Try.underlying4 laidTcpWrites readTcpWrites coreTcpWrites
theorem overTcpWrites : Rows.tcpWritesUptoRow.holds Try.pinned (Rows.OpenSpec.upto Rows.tcpWritesSpec) :=
  OpenClaim.holds_of_cond 8 Try.f8 rfl rfl rfl rfl rfl rfl rfl ⟨rfl, rfl, rfl, rfl, rfl⟩ rfl rfl rfl rfl rfl (by kernel_rfl) Try.func8 (by kernel_rfl)
    (of_decide_eq_true (by kernel_rfl)) (by unfold Func.isWrapper; rw [if_neg (of_decide_eq_false (by kernel_rfl))]; exact ⟨rfl, rfl⟩)
    (fun os started H enc _ F => liftedTcpWrites os started H enc F)
/-- THE STATEMENT -/
theorem provedTcpWritesUpto : Rows.TcpWritesUptoSaid := overTcpWrites
#print axioms provedTcpWritesUpto
end Go.Proofs.Yteghlnpmmmfgfaa
