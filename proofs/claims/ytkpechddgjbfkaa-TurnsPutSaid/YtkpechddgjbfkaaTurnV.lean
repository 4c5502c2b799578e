/-
  Turns of queues: an own copy, and a round of it.
-/
import Derived.Test.YtkpechddgjbfkaaTurnZ
namespace Go.Proofs.Ytkpechddgjbfkaa
set_option linter.unusedVariables false
set_option linter.unusedSimpArgs false
set_option maxHeartbeats 2000000 in
theorem own1 (s : List Qu) (c : Bool) (hl : s.length ≤ 16) (hz : ∀ q ∈ s, q.sz.length ≤ 200) : OSpec Try.prog 61 [.snap 3 (s.map Qu.enc) c] [] (fun n d H => d = .sl 0 n 3 0 s.length false ∧ H = [some ⟨n, 3, s.map Qu.enc⟩]) := by
  have hlen : (s.map Qu.enc).length = s.length := List.length_map _
  refine ospec_fn Try.func61 rfl ok_turns_own okr_turns_own rfl (by kernel_rfl) ?_
  intro Γ hW0 hN0 hL0
  have hW := hW0 rfl
  clear hW0 hN0 hL0
  unfold x_turns_own r_turns_own
  repeat' (first
    | (with_reducible first | refine go_seq ?_ | refine go_region ?_ | refine go_regionD mixed_ok ?_ | refine go_cond ?_ | refine go_skip ?_ | refine go_block ?_ | refine nx_code ?_ | refine nx_block ?_ | refine go_ret ?_ | refine nx_nil ?_ | refine go_exit ?_ | refine ex_code ?_ | refine ex_loop ?_ | refine ex_here ?_)
    | ((with_reducible refine ex_past ?_ ?_); (exact by decide))
    | ((with_reducible refine endD_intro ?_ ?_); (exact by kernel_rfl))
    | ((with_reducible refine runR_n ?_ ?_); (solve | ((repeat' (first | exact trivial | exact rfl | apply And.intro)) <;> (first | exact rfl | (intro hq; cases hq; done) | decide | omega | exact keysOk_map (fun _ => rfl) _ | (simp only [List.length_map, List.length_append, List.length_cons, List.length_nil, List.length_replicate]; done) | (simp only [room, maxLen, allOnes, oneV, List.length_map, List.length_append, List.length_cons, List.length_nil, List.length_replicate] at *; omega) | (simp only [hsL, reduceCtorEq] at * <;> omega)))))
    | (simp only [hlen])
    | (dsimp only [run, undef, runR_ok, runR_t, runR_f, gd, gd2, skipR, ex1, pickR, boxR, loadR, loadO, storeR, storeO, nilR, fieldAR, fieldR, partOf, binR, intBin, unR, boolR, kindEq, shiftOp, onlyIf, orB, convR, extR, lenR, indexSlR, indexArrR, putE, updL, keysOf, lget, lset, evT, evs, Env.get, Env.set, N8.get, N8.set, env0, cellsD, oneD, oneV, andB, allOne, lenB, mapV, dget, ddrop, dtake, splice, xget, xset, partsD, partsOk, partsE, partsEOk, repl, elemsR, elemsS, elemsO, xdrop, xtake, allOnes, appN, appOwn, appNew, appY, cellEq_i, cellEq_b, cellEq_s, consO, cmpAll, allB, negB, eqsO, eqsR, eqbR, minR, evO, bndO, keepB, snapCut, slCut, nilCut, sliceR, isS, isnilL, isnilX, isnilR, strBin, sbinR, slenR, strAtR, substrB, substrR, makeR, clearO, clearR, sliceW1, sliceW2, sliceW3, sliceWR, appWO, appWR, okByte, okBytes, b2sR, indexVR, isnilPR, chunk, sliceAR, s2bR, flat1, arrpR, exnR, mgetR, mgetK, mgetO, mputR, mputK, mputO, mlenR, mlenO, mgetLR, mgetLK, mgetLO, mgetLX, mentLR, mentLK, mentLO, mentLX, estLR, estLO, estLX, keyV, valL, s2bOR, appD, callvR, cond, condK_t, condK_f, argsE, slots0, List.length_cons, List.length_nil, Bool.true_or, Bool.false_or, Bool.or_true, Bool.or_false, bnf, bnt, Nat.add_zero, Nat.zero_add, Nat.reduceAdd, Nat.reduceMul, Int.reduceToNat, endS])
    | (with_reducible refine runR_b (fun h => ?_) (fun h => ?_) <;> first | (exfalso; (simp only [hsL, reduceCtorEq] at * <;> omega); done) | simp only [h, runR_t, runR_f])
    | (with_reducible refine condK_bl ?_ ?_)
    | (with_reducible refine condK_b (fun h => ?_) (fun h => ?_) <;> first | (exfalso; (simp only [hsL, reduceCtorEq] at * <;> omega); done) | skip)
    | (refine runR_n ⟨by omega, by omega, by unfold room maxLen; simp; omega⟩ ?_))
  refine go_loopH (α := Nat × Nat × Nat) (fun p => [(⟨.d0, .d0, .d3⟩, .sl 0 p.2.1 3 0 p.1 false), (⟨.d0, .d1, .d3⟩, .v (.int .i64 (p.1 : Nat)))]) (fun p => [(0, some ⟨p.2.1, 3, (s.take p.1).map Qu.enc⟩), (1, none), (2, none)]) (fun p => p.2.2) (fun p => s.length - p.1) (fun p => p.1 ≤ s.length ∧ Γ.g0 ≤ p.2.1 ∧ Γ.g0 ≤ p.2.2) (0, Γ.g0, Γ.g0 + 1) ⟨Nat.zero_le _, Nat.le_refl _, Nat.le_succ _⟩ ?_ ?_
  · skip
    refine le_mk ?_ ?_ (Nat.le_refl _)
    all_goals dsimp only [leE, leC, leR, leN, leD, leH, leO, writesX, dstsX, appS, havE, setsE, Env.get, Env.set, N8.get, N8.set, updL, lget, lset, env0]
    all_goals (repeat' (first | exact trivial | exact rfl | apply And.intro))
  rintro ⟨k, nm, gn⟩ ⟨hk, hnm, hgn⟩
  dsimp only at hk hnm hgn ⊢
  dsimp only [writesX, dstsX, appS, havE, setsE, Env.get, Env.set, N8.get, N8.set, updL, lget, lset, env0]
  by_cases hlt : k < s.length
  · obtain ⟨q, hq⟩ : ∃ q, s[k]? = some q := ⟨_, List.getElem?_eq_getElem hlt⟩
    have ex := xget_qu hq
    have hqm := hz q (List.mem_of_getElem? hq)
    have hcl := clonei_spec q.sz false (by omega)
    have hwk : IntKind.i64.wrap ((k : Int) + 1) = ((k + 1 : Nat) : Int) := (IntWalk.i64_in _ (by omega)).trans (by omega)
    have htl : ((s.take k).map Qu.enc).length = k := by simp; omega
    have hcat : (s.take k).map Qu.enc ++ [[.v (.int .i64 q.sh), .v (.int .i64 q.sv), .snap 1 (q.sz.map encI) false]] = (s.take (k + 1)).map Qu.enc := by rw [List.take_add_one, hq, List.map_append]; rfl
    repeat' (first
      | (with_reducible first | refine go_seq ?_ | refine go_region ?_ | refine go_regionD mixed_ok ?_ | refine go_cond ?_ | refine go_skip ?_ | refine go_block ?_ | refine nx_code ?_ | refine nx_block ?_ | refine go_ret ?_ | refine nx_nil ?_ | refine go_exit ?_ | refine ex_code ?_ | refine ex_loop ?_ | refine ex_here ?_)
      | ((with_reducible refine ex_past ?_ ?_); (exact by decide))
      | ((with_reducible refine endD_intro ?_ ?_); (exact by kernel_rfl))
      | ((with_reducible refine runR_n ?_ ?_); (solve | ((repeat' (first | exact trivial | exact rfl | apply And.intro)) <;> (first | exact rfl | (intro hq; cases hq; done) | decide | omega | exact keysOk_map (fun _ => rfl) _ | (simp only [List.length_map, List.length_append, List.length_cons, List.length_nil, List.length_replicate]; done) | (simp only [room, maxLen, allOnes, oneV, List.length_map, List.length_append, List.length_cons, List.length_nil, List.length_replicate] at *; omega) | (simp only [hsL, reduceCtorEq] at * <;> omega)))))
      | (first | (with_reducible refine runR_call hcl ?_) | (simp only [hlen, hwk]))
      | (dsimp only [run, undef, runR_ok, runR_t, runR_f, gd, gd2, skipR, ex1, pickR, boxR, loadR, loadO, storeR, storeO, nilR, fieldAR, fieldR, partOf, binR, intBin, unR, boolR, kindEq, shiftOp, onlyIf, orB, convR, extR, lenR, indexSlR, indexArrR, putE, updL, keysOf, lget, lset, evT, evs, Env.get, Env.set, N8.get, N8.set, env0, cellsD, oneD, oneV, andB, allOne, lenB, mapV, dget, ddrop, dtake, splice, xget, xset, partsD, partsOk, partsE, partsEOk, repl, elemsR, elemsS, elemsO, xdrop, xtake, allOnes, appN, appOwn, appNew, appY, cellEq_i, cellEq_b, cellEq_s, consO, cmpAll, allB, negB, eqsO, eqsR, eqbR, minR, evO, bndO, keepB, snapCut, slCut, nilCut, sliceR, isS, isnilL, isnilX, isnilR, strBin, sbinR, slenR, strAtR, substrB, substrR, makeR, clearO, clearR, sliceW1, sliceW2, sliceW3, sliceWR, appWO, appWR, okByte, okBytes, b2sR, indexVR, isnilPR, chunk, sliceAR, s2bR, flat1, arrpR, exnR, mgetR, mgetK, mgetO, mputR, mputK, mputO, mlenR, mlenO, mgetLR, mgetLK, mgetLO, mgetLX, mentLR, mentLK, mentLO, mentLX, estLR, estLO, estLX, keyV, valL, s2bOR, appD, callvR, cond, condK_t, condK_f, argsE, slots0, List.length_cons, List.length_nil, Bool.true_or, Bool.false_or, Bool.or_true, Bool.or_false, bnf, bnt, Nat.add_zero, Nat.zero_add, Nat.reduceAdd, Nat.reduceMul, Int.reduceToNat, endS])
      | (with_reducible refine runR_b (fun h => ?_) (fun h => ?_) <;> first | (exfalso; (simp only [hsL, reduceCtorEq] at * <;> omega); done) | simp only [h, runR_t, runR_f])
      | (with_reducible refine condK_bl ?_ ?_)
      | (with_reducible refine condK_b (fun h => ?_) (fun h => ?_) <;> first | (exfalso; (simp only [hsL, reduceCtorEq] at * <;> omega); done) | skip)
      | (first | (simp only [Int.toNat_natCast, ex]) | (refine runR_n ⟨⟨rfl, rfl, htl⟩, by unfold room maxLen; omega⟩ ?_) | (refine runR_n ⟨rfl, by unfold room maxLen; rw [htl]; simp; omega⟩ ?_)))
    (all_goals first | (exfalso; (try simp only [List.length_map] at *); first | omega | (simp only [hsL, reduceCtorEq] at * <;> omega)) | skip)
    simp only [htl, hcat]
    refine nx_loop ⟨(k + 1, gn + 1 + 1, gn + 3), ⟨hlt, by dsimp only; omega, by dsimp only; omega⟩, Nat.sub_lt_sub_left hlt (Nat.lt_succ_self k), ?_⟩
    refine le_mk ?_ ?_ (Nat.le_refl _)
    all_goals dsimp only [leE, leC, leR, leN, leD, leH, leO, writesX, dstsX, appS, havE, setsE, Env.get, Env.set, N8.get, N8.set, updL, lget, lset, env0]
    all_goals (repeat' (first | exact trivial | exact rfl | apply And.intro))
  obtain rfl : k = s.length := by omega
  repeat' (first
    | (with_reducible first | refine go_seq ?_ | refine go_region ?_ | refine go_regionD mixed_ok ?_ | refine go_cond ?_ | refine go_skip ?_ | refine go_block ?_ | refine nx_code ?_ | refine nx_block ?_ | refine go_ret ?_ | refine nx_nil ?_ | refine go_exit ?_ | refine ex_code ?_ | refine ex_loop ?_ | refine ex_here ?_)
    | ((with_reducible refine ex_past ?_ ?_); (exact by decide))
    | ((with_reducible refine endD_intro ?_ ?_); (exact by kernel_rfl))
    | ((with_reducible refine runR_n ?_ ?_); (solve | ((repeat' (first | exact trivial | exact rfl | apply And.intro)) <;> (first | exact rfl | (intro hq; cases hq; done) | decide | omega | exact keysOk_map (fun _ => rfl) _ | (simp only [List.length_map, List.length_append, List.length_cons, List.length_nil, List.length_replicate]; done) | (simp only [room, maxLen, allOnes, oneV, List.length_map, List.length_append, List.length_cons, List.length_nil, List.length_replicate] at *; omega) | (simp only [hsL, reduceCtorEq] at * <;> omega)))))
    | (simp only [hlen])
    | (dsimp only [run, undef, runR_ok, runR_t, runR_f, gd, gd2, skipR, ex1, pickR, boxR, loadR, loadO, storeR, storeO, nilR, fieldAR, fieldR, partOf, binR, intBin, unR, boolR, kindEq, shiftOp, onlyIf, orB, convR, extR, lenR, indexSlR, indexArrR, putE, updL, keysOf, lget, lset, evT, evs, Env.get, Env.set, N8.get, N8.set, env0, cellsD, oneD, oneV, andB, allOne, lenB, mapV, dget, ddrop, dtake, splice, xget, xset, partsD, partsOk, partsE, partsEOk, repl, elemsR, elemsS, elemsO, xdrop, xtake, allOnes, appN, appOwn, appNew, appY, cellEq_i, cellEq_b, cellEq_s, consO, cmpAll, allB, negB, eqsO, eqsR, eqbR, minR, evO, bndO, keepB, snapCut, slCut, nilCut, sliceR, isS, isnilL, isnilX, isnilR, strBin, sbinR, slenR, strAtR, substrB, substrR, makeR, clearO, clearR, sliceW1, sliceW2, sliceW3, sliceWR, appWO, appWR, okByte, okBytes, b2sR, indexVR, isnilPR, chunk, sliceAR, s2bR, flat1, arrpR, exnR, mgetR, mgetK, mgetO, mputR, mputK, mputO, mlenR, mlenO, mgetLR, mgetLK, mgetLO, mgetLX, mentLR, mentLK, mentLO, mentLX, estLR, estLO, estLX, keyV, valL, s2bOR, appD, callvR, cond, condK_t, condK_f, argsE, slots0, List.length_cons, List.length_nil, Bool.true_or, Bool.false_or, Bool.or_true, Bool.or_false, bnf, bnt, Nat.add_zero, Nat.zero_add, Nat.reduceAdd, Nat.reduceMul, Int.reduceToNat, endS])
    | (with_reducible refine runR_b (fun h => ?_) (fun h => ?_) <;> first | (exfalso; (simp only [hsL, reduceCtorEq] at * <;> omega); done) | simp only [h, runR_t, runR_f])
    | (with_reducible refine condK_bl ?_ ?_)
    | (with_reducible refine condK_b (fun h => ?_) (fun h => ?_) <;> first | (exfalso; (simp only [hsL, reduceCtorEq] at * <;> omega); done) | skip)
    | fail)
  (all_goals first | (exfalso; (try simp only [List.length_map] at *); first | omega | (simp only [hsL, reduceCtorEq] at * <;> omega)) | skip)
  refine ret_ospec 0 (fun n => .sl 0 n 3 0 s.length false) trivial rfl hnm (nf_qu _ _) (fun n => .inl ⟨rfl, ?_⟩) (fun n => ⟨rfl, ?_⟩)
  all_goals simp
theorem own_spec (j : Nat) (s : List Qu) (c : Bool) (hl : s.length ≤ 16) (hz : ∀ q ∈ s, q.sz.length ≤ 200) : OSpec Try.prog 61 [.snap 3 (s.map Qu.enc) c] [] (fun n d H => d = .sl j n 3 0 s.length false ∧ H = [some ⟨n, 3, s.map Qu.enc⟩]) :=
  ospec_as (own1 s c hl hz) (fun K w n v h => sl_label h)
theorem sentL_len : ∀ (l : List Qu) (i : Nat), (∀ q ∈ l, q.sz.length ≤ 200) → (sentL i l).length ≤ 200 * l.length
  | [], i, _ => Nat.zero_le _
  | q :: r, i, h => by
    have ih := sentL_len r (i + 1) (fun y hy => h y (by simp [hy]))
    have h0 := h q (by simp)
    have h1 : (sentQ i q).length ≤ q.sz.length := by unfold sentQ; rw [List.length_map, List.length_take]; omega
    rw [sentL, List.length_append, List.length_cons]
    omega
abbrev encW (t : Int × Int) : List DV := [.v (.int .i64 t.1), .v (.int .i64 t.2)]
set_option maxRecDepth 8000 in
set_option maxHeartbeats 4000000 in
theorem round_bad (s : List Qu) (c : Bool) (hl : s.length ≤ maxLen) (hz : ∀ q ∈ s, q.sz.length ≤ maxLen) {e : Int} (he : tuErr s = e) (hne : ¬ e = 0) : Spec Try.prog 31 [.snap 3 (s.map Qu.enc) c] (.tup [.v (.slice none 0 0), .v (.slice none 0 0), .v (.int .i64 e)]) := by
  have h1 := tcheck_spec s c hl hz
  rw [he] at h1
  refine hspec_fn Try.func31 rfl ok_turns_Round okr_turns_Round rfl (by kernel_rfl) ?_
  intro Γ hW0 hN0 hL0
  have hW := hW0 rfl
  clear hW0 hN0 hL0
  unfold x_turns_Round r_turns_Round
  repeat' (first
    | (with_reducible first | refine go_seq ?_ | refine go_region ?_ | refine go_regionD mixed_ok ?_ | refine go_cond ?_ | refine go_skip ?_ | refine go_block ?_ | refine nx_code ?_ | refine nx_block ?_ | refine go_ret ?_ | refine nx_nil ?_ | refine go_exit ?_ | refine ex_code ?_ | refine ex_loop ?_ | refine ex_here ?_)
    | ((with_reducible refine ex_past ?_ ?_); (exact by decide))
    | ((with_reducible refine endD_intro ?_ ?_); (exact by kernel_rfl))
    | ((with_reducible refine runR_n ?_ ?_); (solve | ((repeat' (first | exact trivial | exact rfl | apply And.intro)) <;> (first | exact rfl | (intro hq; cases hq; done) | decide | omega | exact keysOk_map (fun _ => rfl) _ | (simp only [List.length_map, List.length_append, List.length_cons, List.length_nil, List.length_replicate]; done) | (simp only [room, maxLen, allOnes, oneV, List.length_map, List.length_append, List.length_cons, List.length_nil, List.length_replicate] at *; omega) | (simp only [hsL, reduceCtorEq] at * <;> omega)))))
    | (with_reducible refine runR_call h1 ?_)
    | (dsimp only [run, undef, runR_ok, runR_t, runR_f, gd, gd2, skipR, ex1, pickR, boxR, loadR, loadO, storeR, storeO, nilR, fieldAR, fieldR, partOf, binR, intBin, unR, boolR, kindEq, shiftOp, onlyIf, orB, convR, extR, lenR, indexSlR, indexArrR, putE, updL, keysOf, lget, lset, evT, evs, Env.get, Env.set, N8.get, N8.set, env0, cellsD, oneD, oneV, andB, allOne, lenB, mapV, dget, ddrop, dtake, splice, xget, xset, partsD, partsOk, partsE, partsEOk, repl, elemsR, elemsS, elemsO, xdrop, xtake, allOnes, appN, appOwn, appNew, appY, cellEq_i, cellEq_b, cellEq_s, consO, cmpAll, allB, negB, eqsO, eqsR, eqbR, minR, evO, bndO, keepB, snapCut, slCut, nilCut, sliceR, isS, isnilL, isnilX, isnilR, strBin, sbinR, slenR, strAtR, substrB, substrR, makeR, clearO, clearR, sliceW1, sliceW2, sliceW3, sliceWR, appWO, appWR, okByte, okBytes, b2sR, indexVR, isnilPR, chunk, sliceAR, s2bR, flat1, arrpR, exnR, mgetR, mgetK, mgetO, mputR, mputK, mputO, mlenR, mlenO, mgetLR, mgetLK, mgetLO, mgetLX, mentLR, mentLK, mentLO, mentLX, estLR, estLO, estLX, keyV, valL, s2bOR, appD, callvR, cond, condK_t, condK_f, argsE, slots0, List.length_cons, List.length_nil, Bool.true_or, Bool.false_or, Bool.or_true, Bool.or_false, bnf, bnt, Nat.add_zero, Nat.zero_add, Nat.reduceAdd, Nat.reduceMul, Int.reduceToNat, endS])
    | (with_reducible refine runR_b (fun h => ?_) (fun h => ?_) <;> first | (exfalso; (simp only [hsL, reduceCtorEq] at * <;> omega); done) | simp only [h, runR_t, runR_f])
    | (with_reducible refine condK_bl ?_ ?_)
    | (with_reducible refine condK_b (fun h => ?_) (fun h => ?_) <;> first | (exfalso; (simp only [hsL, reduceCtorEq] at * <;> omega); done) | skip)
    | fail)
  (all_goals first | (exfalso; (try simp only [List.length_map] at *); first | omega | (simp only [hsL, reduceCtorEq] at * <;> omega)) | skip)
  all_goals with_reducible refine ret_spec2 (by (try dsimp only [RetOK, resOk, resDs, resD, resV, cellV, cellO, cellP, cellOk, htake, nfD, nfL, nfLL, nfH, lget, partOf, xget, ddrop, dtake, dget, Env.get, N8.get, env0, List.length_cons, List.length_nil, Env.set, N8.set, lset, updL]); (repeat' (first | exact trivial | exact rfl | exact nfLL_map (fun x => by simp [nfL, nfD, nfD]) | decide | apply And.intro))) ?_
  all_goals (try dsimp only [RetOK, resOk, resDs, resD, resV, cellV, cellO, cellP, cellOk, htake, nfD, nfL, nfLL, nfH, lget, partOf, xget, ddrop, dtake, dget, Env.get, N8.get, env0, List.length_cons, List.length_nil, Env.set, N8.set, lset, updL])
  all_goals (try simp only [hsM] at *)
set_option maxRecDepth 8000 in
set_option maxHeartbeats 4000000 in
theorem round_good (s : List Qu) (c : Bool) (hl : s.length ≤ maxLen) (hz : ∀ q ∈ s, q.sz.length ≤ maxLen) (he : tuErr s = 0) : Spec Try.prog 31 [.snap 3 (s.map Qu.enc) c] (.tup [.snap 3 ((s.map rndQ).map Qu.enc) false, .snap 2 ((sentL 0 s).map encW) false, .v (.int .i64 0)]) := by
  obtain ⟨hl16, hgood⟩ := good_of he
  have h1 := tcheck_spec s c hl hz
  rw [he] at h1
  have h2 := own_spec 10 s c hl16 (fun q hq => (hgood q hq).len)
  refine hspec_fn Try.func31 rfl ok_turns_Round okr_turns_Round rfl (by kernel_rfl) ?_
  intro Γ hW0 hN0 hL0
  have hW := hW0 rfl
  clear hW0 hN0 hL0
  unfold x_turns_Round r_turns_Round
  repeat' (first
    | (with_reducible first | refine go_seq ?_ | refine go_region ?_ | refine go_regionD mixed_ok ?_ | refine go_cond ?_ | refine go_skip ?_ | refine go_block ?_ | refine nx_code ?_ | refine nx_block ?_ | refine go_ret ?_ | refine nx_nil ?_ | refine go_exit ?_ | refine ex_code ?_ | refine ex_loop ?_ | refine ex_here ?_)
    | ((with_reducible refine ex_past ?_ ?_); (exact by decide))
    | ((with_reducible refine endD_intro ?_ ?_); (exact by kernel_rfl))
    | ((with_reducible refine runR_n ?_ ?_); (solve | ((repeat' (first | exact trivial | exact rfl | apply And.intro)) <;> (first | exact rfl | (intro hq; cases hq; done) | decide | omega | exact keysOk_map (fun _ => rfl) _ | (simp only [List.length_map, List.length_append, List.length_cons, List.length_nil, List.length_replicate]; done) | (simp only [room, maxLen, allOnes, oneV, List.length_map, List.length_append, List.length_cons, List.length_nil, List.length_replicate] at *; omega) | (simp only [hsL, reduceCtorEq] at * <;> omega)))))
    | (first | (with_reducible refine runR_call h1 ?_) | (with_reducible refine runR_callO 10 h2 ?_))
    | (dsimp only [run, undef, runR_ok, runR_t, runR_f, gd, gd2, skipR, ex1, pickR, boxR, loadR, loadO, storeR, storeO, nilR, fieldAR, fieldR, partOf, binR, intBin, unR, boolR, kindEq, shiftOp, onlyIf, orB, convR, extR, lenR, indexSlR, indexArrR, putE, updL, keysOf, lget, lset, evT, evs, Env.get, Env.set, N8.get, N8.set, env0, cellsD, oneD, oneV, andB, allOne, lenB, mapV, dget, ddrop, dtake, splice, xget, xset, partsD, partsOk, partsE, partsEOk, repl, elemsR, elemsS, elemsO, xdrop, xtake, allOnes, appN, appOwn, appNew, appY, cellEq_i, cellEq_b, cellEq_s, consO, cmpAll, allB, negB, eqsO, eqsR, eqbR, minR, evO, bndO, keepB, snapCut, slCut, nilCut, sliceR, isS, isnilL, isnilX, isnilR, strBin, sbinR, slenR, strAtR, substrB, substrR, makeR, clearO, clearR, sliceW1, sliceW2, sliceW3, sliceWR, appWO, appWR, okByte, okBytes, b2sR, indexVR, isnilPR, chunk, sliceAR, s2bR, flat1, arrpR, exnR, mgetR, mgetK, mgetO, mputR, mputK, mputO, mlenR, mlenO, mgetLR, mgetLK, mgetLO, mgetLX, mentLR, mentLK, mentLO, mentLX, estLR, estLO, estLX, keyV, valL, s2bOR, appD, callvR, cond, condK_t, condK_f, argsE, slots0, List.length_cons, List.length_nil, Bool.true_or, Bool.false_or, Bool.or_true, Bool.or_false, bnf, bnt, Nat.add_zero, Nat.zero_add, Nat.reduceAdd, Nat.reduceMul, Int.reduceToNat, endS])
    | (with_reducible refine runR_b (fun h => ?_) (fun h => ?_) <;> first | (exfalso; (simp only [hsL, reduceCtorEq] at * <;> omega); done) | simp only [h, runR_t, runR_f])
    | (with_reducible refine condK_bl ?_ ?_)
    | (with_reducible refine condK_b (fun h => ?_) (fun h => ?_) <;> first | (exfalso; (simp only [hsL, reduceCtorEq] at * <;> omega); done) | skip)
    | fail)
  (all_goals first | (exfalso; (try simp only [List.length_map] at *); first | omega | (simp only [hsL, reduceCtorEq] at * <;> omega)) | skip)
  all_goals first
    | (exfalso; simp at h; done)
    | skip
  refine go_le (le_row ⟨.d0, .d0, .d6⟩ 1 2 rfl rfl) ?_
  dsimp only [writesX, dstsX, appS, havE, setsE, Env.get, Env.set, N8.get, N8.set, updL, lget, lset, env0]
  refine go_loopH (α := Nat × Nat × Nat) (fun p => [(⟨.d0, .d0, .d6⟩, .sl 1 p.2.1 2 0 (sentL 0 (s.take p.1)).length false), (⟨.d0, .d2, .d3⟩, .v (.int .i64 (p.1 : Nat)))]) (fun p => [(0, none), (1, some ⟨p.2.1, 2, (sentL 0 (s.take p.1)).map encW⟩), (10, some ⟨Γ.g0, 3, (mixN rndQ s p.1).map Qu.enc⟩)]) (fun p => p.2.2) (fun p => s.length - p.1) (fun p => p.1 ≤ s.length) (0, Γ.g0 + 1, Γ.g0 + 1 + 1) (Nat.zero_le _) ?_ ?_
  · skip
    refine le_mk ?_ ?_ (Nat.le_refl _)
    all_goals dsimp only [leE, leC, leR, leN, leD, leH, leO, writesX, dstsX, appS, havE, setsE, Env.get, Env.set, N8.get, N8.set, updL, lget, lset, env0]
    all_goals (repeat' (first | exact trivial | exact rfl | apply And.intro))
  rintro ⟨k, nm, gn⟩ hk
  dsimp only at hk ⊢
  dsimp only [writesX, dstsX, appS, havE, setsE, Env.get, Env.set, N8.get, N8.set, updL, lget, lset, env0]
  by_cases hlt : k < s.length
  · obtain ⟨q, hq⟩ : ∃ q, s[k]? = some q := ⟨_, List.getElem?_eq_getElem hlt⟩
    have hG := hgood q (List.mem_of_getElem? hq)
    have hwk : IntKind.i64.wrap ((k : Int) + 1) = ((k + 1 : Nat) : Int) := (IntWalk.i64_in _ (by omega)).trans (by omega)
    have hg0 := mix_get (f := rndQ) hq
    have hs0 := mix_set (f := rndQ) hq
    have hL0 := mix_len rndQ s k hk
    generalize mixN rndQ s k = L at *
    have ex := xget_qu hg0
    have hLl : (L.map Qu.enc).length = s.length := by rw [List.length_map]; exact hL0
    have hR := room_bd hG
    have hql := hG.len
    have hsl := sentL_len (s.take k) 0 (fun y hy => (hgood y (List.mem_of_mem_take hy)).len)
    have hstk : (s.take k).length ≤ 16 := by rw [List.length_take]; omega
    unfold roomQ at hR
    have hwr : IntKind.i64.wrap (q.sv + q.sh) = q.sv + q.sh := IntWalk.i64_in _ (by omega)
    cases hsz : q.sz with
    | nil =>
      rw [hsz] at ex
      have hn0 : (([] : List Int).map encI).length = 0 := rfl
      repeat' (first
        | (with_reducible first | refine go_seq ?_ | refine go_region ?_ | refine go_regionD mixed_ok ?_ | refine go_cond ?_ | refine go_skip ?_ | refine go_block ?_ | refine nx_code ?_ | refine nx_block ?_ | refine go_ret ?_ | refine nx_nil ?_ | refine go_exit ?_ | refine ex_code ?_ | refine ex_loop ?_ | refine ex_here ?_)
        | ((with_reducible refine ex_past ?_ ?_); (exact by decide))
        | ((with_reducible refine endD_intro ?_ ?_); (exact by kernel_rfl))
        | ((with_reducible refine runR_n ?_ ?_); (solve | ((repeat' (first | exact trivial | exact rfl | apply And.intro)) <;> (first | exact rfl | (intro hq; cases hq; done) | decide | omega | exact keysOk_map (fun _ => rfl) _ | (simp only [List.length_map, List.length_append, List.length_cons, List.length_nil, List.length_replicate]; done) | (simp only [room, maxLen, allOnes, oneV, List.length_map, List.length_append, List.length_cons, List.length_nil, List.length_replicate] at *; omega) | (simp only [hsL, reduceCtorEq] at * <;> omega)))))
        | (simp only [hn0, hwk])
        | (dsimp only [run, undef, runR_ok, runR_t, runR_f, gd, gd2, skipR, ex1, pickR, boxR, loadR, loadO, storeR, storeO, nilR, fieldAR, fieldR, partOf, binR, intBin, unR, boolR, kindEq, shiftOp, onlyIf, orB, convR, extR, lenR, indexSlR, indexArrR, putE, updL, keysOf, lget, lset, evT, evs, Env.get, Env.set, N8.get, N8.set, env0, cellsD, oneD, oneV, andB, allOne, lenB, mapV, dget, ddrop, dtake, splice, xget, xset, partsD, partsOk, partsE, partsEOk, repl, elemsR, elemsS, elemsO, xdrop, xtake, allOnes, appN, appOwn, appNew, appY, cellEq_i, cellEq_b, cellEq_s, consO, cmpAll, allB, negB, eqsO, eqsR, eqbR, minR, evO, bndO, keepB, snapCut, slCut, nilCut, sliceR, isS, isnilL, isnilX, isnilR, strBin, sbinR, slenR, strAtR, substrB, substrR, makeR, clearO, clearR, sliceW1, sliceW2, sliceW3, sliceWR, appWO, appWR, okByte, okBytes, b2sR, indexVR, isnilPR, chunk, sliceAR, s2bR, flat1, arrpR, exnR, mgetR, mgetK, mgetO, mputR, mputK, mputO, mlenR, mlenO, mgetLR, mgetLK, mgetLO, mgetLX, mentLR, mentLK, mentLO, mentLX, estLR, estLO, estLX, keyV, valL, s2bOR, appD, callvR, cond, condK_t, condK_f, argsE, slots0, List.length_cons, List.length_nil, Bool.true_or, Bool.false_or, Bool.or_true, Bool.or_false, bnf, bnt, Nat.add_zero, Nat.zero_add, Nat.reduceAdd, Nat.reduceMul, Int.reduceToNat, endS])
        | (with_reducible refine runR_b (fun h => ?_) (fun h => ?_) <;> first | (exfalso; (simp only [hsL, reduceCtorEq] at * <;> omega); done) | simp only [h, runR_t, runR_f])
        | (with_reducible refine condK_bl ?_ ?_)
        | (with_reducible refine condK_b (fun h => ?_) (fun h => ?_) <;> first | (exfalso; (simp only [hsL, reduceCtorEq] at * <;> omega); done) | skip)
        | (first | (simp only [Int.toNat_natCast, Nat.zero_add, ex]) | (refine runR_n ⟨by omega, by omega, by omega⟩ ?_)))
      (all_goals first | (exfalso; (try simp only [List.length_map] at *); first | omega | (simp only [hsL, reduceCtorEq] at * <;> omega)) | skip)
      have hsv : q.sv = 0 := by have := hG.sv; unfold limQ at this; rw [hsz] at this; dsimp only at this; omega
      have hrn : rndQ q = q := by
        obtain ⟨a, b, z⟩ := q
        dsimp only at hsz hsv
        subst hsz hsv
        rfl
      have hst : L.set k q = L := by
        refine List.ext_getElem? (fun i => ?_)
        rw [List.getElem?_set]
        split
        · rename_i e
          subst e
          rw [if_pos (by omega), hg0]
        · rfl
      have hse : sentL 0 (s.take (k + 1)) = sentL 0 (s.take k) := by
        rw [sentL_take hq]
        unfold sentQ
        rw [hsz]
        simp
      rw [hrn, hst] at hs0
      refine nx_loop ⟨(k + 1, nm, gn), hlt, Nat.sub_lt_sub_left hlt (Nat.lt_succ_self k), ?_⟩
      dsimp only
      rw [← hs0, hse]
      refine le_mk ?_ ?_ (Nat.le_refl _)
      all_goals dsimp only [leE, leC, leR, leN, leD, leH, leO, writesX, dstsX, appS, havE, setsE, Env.get, Env.set, N8.get, N8.set, updL, lget, lset, env0]
      all_goals (repeat' (first | exact trivial | exact rfl | apply And.intro))
    | cons x t =>
      have hn0 : ((x :: t).map encI).length = t.length + 1 := by simp
      rw [hsz] at ex
      repeat' (first
        | (with_reducible first | refine go_seq ?_ | refine go_region ?_ | refine go_regionD mixed_ok ?_ | refine go_cond ?_ | refine go_skip ?_ | refine go_block ?_ | refine nx_code ?_ | refine nx_block ?_ | refine go_ret ?_ | refine nx_nil ?_ | refine go_exit ?_ | refine ex_code ?_ | refine ex_loop ?_ | refine ex_here ?_)
        | ((with_reducible refine ex_past ?_ ?_); (exact by decide))
        | ((with_reducible refine endD_intro ?_ ?_); (exact by kernel_rfl))
        | ((with_reducible refine runR_n ?_ ?_); (solve | ((repeat' (first | exact trivial | exact rfl | apply And.intro)) <;> (first | exact rfl | (intro hq; cases hq; done) | decide | omega | exact keysOk_map (fun _ => rfl) _ | (simp only [List.length_map, List.length_append, List.length_cons, List.length_nil, List.length_replicate]; done) | (simp only [room, maxLen, allOnes, oneV, List.length_map, List.length_append, List.length_cons, List.length_nil, List.length_replicate] at *; omega) | (simp only [hsL, reduceCtorEq] at * <;> omega)))))
        | (first | (simp only [hn0, hwk]) | (simp only [hwr]))
        | (dsimp only [run, undef, runR_ok, runR_t, runR_f, gd, gd2, skipR, ex1, pickR, boxR, loadR, loadO, storeR, storeO, nilR, fieldAR, fieldR, partOf, binR, intBin, unR, boolR, kindEq, shiftOp, onlyIf, orB, convR, extR, lenR, indexSlR, indexArrR, putE, updL, keysOf, lget, lset, evT, evs, Env.get, Env.set, N8.get, N8.set, env0, cellsD, oneD, oneV, andB, allOne, lenB, mapV, dget, ddrop, dtake, splice, xget, xset, partsD, partsOk, partsE, partsEOk, repl, elemsR, elemsS, elemsO, xdrop, xtake, allOnes, appN, appOwn, appNew, appY, cellEq_i, cellEq_b, cellEq_s, consO, cmpAll, allB, negB, eqsO, eqsR, eqbR, minR, evO, bndO, keepB, snapCut, slCut, nilCut, sliceR, isS, isnilL, isnilX, isnilR, strBin, sbinR, slenR, strAtR, substrB, substrR, makeR, clearO, clearR, sliceW1, sliceW2, sliceW3, sliceWR, appWO, appWR, okByte, okBytes, b2sR, indexVR, isnilPR, chunk, sliceAR, s2bR, flat1, arrpR, exnR, mgetR, mgetK, mgetO, mputR, mputK, mputO, mlenR, mlenO, mgetLR, mgetLK, mgetLO, mgetLX, mentLR, mentLK, mentLO, mentLX, estLR, estLO, estLX, keyV, valL, s2bOR, appD, callvR, cond, condK_t, condK_f, argsE, slots0, List.length_cons, List.length_nil, Bool.true_or, Bool.false_or, Bool.or_true, Bool.or_false, bnf, bnt, Nat.add_zero, Nat.zero_add, Nat.reduceAdd, Nat.reduceMul, Int.reduceToNat, endS])
        | (with_reducible refine runR_b (fun h => ?_) (fun h => ?_) <;> first | (exfalso; (simp only [hsL, reduceCtorEq] at * <;> omega); done) | simp only [h, runR_t, runR_f])
        | (with_reducible refine condK_bl ?_ ?_)
        | (with_reducible refine condK_b (fun h => ?_) (fun h => ?_) <;> first | (exfalso; (simp only [hsL, reduceCtorEq] at * <;> omega); done) | skip)
        | (first | (simp only [Int.toNat_natCast, Nat.zero_add, ex, xset_qu]) | (refine runR_n ⟨by omega, by omega, by omega⟩ ?_)))
      (all_goals first | (exfalso; (try simp only [List.length_map] at *); first | omega | (simp only [hsL, reduceCtorEq] at * <;> omega)) | skip)
      all_goals first
        | (exfalso; simp at h; done)
        | skip
      have hzl : 0 < q.sz.length := by rw [hsz]; simp
      rw [← hsz]
      clear hn0 ex
      have hnz : (q.sz.map encI).length = q.sz.length := List.length_map _
      have hR0 : q.sv + q.sh - sumI (q.sz.take 0) = q.sv + q.sh := by simp [sumI]
      refine go_loopH (α := Nat × Nat × Nat) (fun p => [(⟨.d0, .d1, .d1⟩, .v (.int .i64 (p.1 : Nat))), (⟨.d0, .d0, .d6⟩, .sl 1 p.2.1 2 0 (sentL 0 (s.take k) ++ (q.sz.take p.1).map (fun x => ((k : Int), x))).length false)]) (fun p => [(0, none), (1, some ⟨p.2.1, 2, (sentL 0 (s.take k) ++ (q.sz.take p.1).map (fun x => ((k : Int), x))).map encW⟩), (10, some ⟨Γ.g0, 3, (L.set k ⟨q.sh, q.sv + q.sh - sumI (q.sz.take p.1), q.sz⟩).map Qu.enc⟩)]) (fun p => p.2.2) (fun p => q.sz.length - p.1) (fun p => p.1 ≤ q.sz.length ∧ nQ q = p.1 + fitN (roomQ q - sumI (q.sz.take p.1)) (q.sz.drop p.1) ∧ 0 ≤ q.sv + q.sh - sumI (q.sz.take p.1) ∧ q.sv + q.sh - sumI (q.sz.take p.1) ≤ 2000000) (0, nm, gn) ⟨Nat.zero_le _, by simp [nQ, sumI], by rw [hR0]; omega, by rw [hR0]; omega⟩ ?_ ?_
      · skip
        refine le_mk ?_ ?_ (Nat.le_refl _)
        all_goals dsimp only [leE, leC, leR, leN, leD, leH, leO, writesX, dstsX, appS, havE, setsE, Env.get, Env.set, N8.get, N8.set, updL, lget, lset, env0]
        all_goals (repeat' (first | exact trivial | exact rfl | apply And.intro))
        all_goals (try rw [hR0])
        all_goals simp
      rintro ⟨n, nn, gg⟩ ⟨hn, hfit, hr0, hr1⟩
      dsimp only at hn hfit hr0 hr1 ⊢
      dsimp only [writesX, dstsX, appS, havE, setsE, Env.get, Env.set, N8.get, N8.set, updL, lget, lset, env0]
      have hset : (L.set k ⟨q.sh, q.sv + q.sh - sumI (q.sz.take n), q.sz⟩)[k]? = some ⟨q.sh, q.sv + q.sh - sumI (q.sz.take n), q.sz⟩ := by rw [List.getElem?_set_self]; omega
      have ex := xget_qu hset
      have hLl2 : ((L.set k ⟨q.sh, q.sv + q.sh - sumI (q.sz.take n), q.sz⟩).map Qu.enc).length = s.length := by rw [List.length_map, List.length_set]; exact hL0
      by_cases hnl : n < q.sz.length
      · obtain ⟨y, hy⟩ : ∃ y, q.sz[n]? = some y := ⟨_, List.getElem?_eq_getElem hnl⟩
        have ey := xget_in hy
        have hym := hG.sz y (List.mem_of_getElem? hy)
        have hstep := fit_step hy hfit
        unfold roomQ at hstep
        have hwn : IntKind.i64.wrap ((n : Int) + 1) = ((n + 1 : Nat) : Int) := (IntWalk.i64_in _ (by omega)).trans (by omega)
        by_cases hle : y ≤ q.sv + q.sh - sumI (q.sz.take n)
        · have hwy : IntKind.i64.wrap (q.sv + q.sh - sumI (q.sz.take n) - y) = q.sv + q.sh - sumI (q.sz.take n) - y := IntWalk.i64_in _ (by omega)
          repeat' (first
            | (with_reducible first | refine go_seq ?_ | refine go_region ?_ | refine go_regionD mixed_ok ?_ | refine go_cond ?_ | refine go_skip ?_ | refine go_block ?_ | refine nx_code ?_ | refine nx_block ?_ | refine go_ret ?_ | refine nx_nil ?_ | refine go_exit ?_ | refine ex_code ?_ | refine ex_loop ?_ | refine ex_here ?_)
            | ((with_reducible refine ex_past ?_ ?_); (exact by decide))
            | ((with_reducible refine endD_intro ?_ ?_); (exact by kernel_rfl))
            | ((with_reducible refine runR_n ?_ ?_); (solve | ((repeat' (first | exact trivial | exact rfl | apply And.intro)) <;> (first | exact rfl | (intro hq; cases hq; done) | decide | omega | exact keysOk_map (fun _ => rfl) _ | (simp only [List.length_map, List.length_append, List.length_cons, List.length_nil, List.length_replicate]; done) | (simp only [room, maxLen, allOnes, oneV, List.length_map, List.length_append, List.length_cons, List.length_nil, List.length_replicate] at *; omega) | (simp only [hsL, reduceCtorEq] at * <;> omega)))))
            | (first | (simp only [hnz, hwn]) | (simp only [hwy]))
            | (dsimp only [run, undef, runR_ok, runR_t, runR_f, gd, gd2, skipR, ex1, pickR, boxR, loadR, loadO, storeR, storeO, nilR, fieldAR, fieldR, partOf, binR, intBin, unR, boolR, kindEq, shiftOp, onlyIf, orB, convR, extR, lenR, indexSlR, indexArrR, putE, updL, keysOf, lget, lset, evT, evs, Env.get, Env.set, N8.get, N8.set, env0, cellsD, oneD, oneV, andB, allOne, lenB, mapV, dget, ddrop, dtake, splice, xget, xset, partsD, partsOk, partsE, partsEOk, repl, elemsR, elemsS, elemsO, xdrop, xtake, allOnes, appN, appOwn, appNew, appY, cellEq_i, cellEq_b, cellEq_s, consO, cmpAll, allB, negB, eqsO, eqsR, eqbR, minR, evO, bndO, keepB, snapCut, slCut, nilCut, sliceR, isS, isnilL, isnilX, isnilR, strBin, sbinR, slenR, strAtR, substrB, substrR, makeR, clearO, clearR, sliceW1, sliceW2, sliceW3, sliceWR, appWO, appWR, okByte, okBytes, b2sR, indexVR, isnilPR, chunk, sliceAR, s2bR, flat1, arrpR, exnR, mgetR, mgetK, mgetO, mputR, mputK, mputO, mlenR, mlenO, mgetLR, mgetLK, mgetLO, mgetLX, mentLR, mentLK, mentLO, mentLX, estLR, estLO, estLX, keyV, valL, s2bOR, appD, callvR, cond, condK_t, condK_f, argsE, slots0, List.length_cons, List.length_nil, Bool.true_or, Bool.false_or, Bool.or_true, Bool.or_false, bnf, bnt, Nat.add_zero, Nat.zero_add, Nat.reduceAdd, Nat.reduceMul, Int.reduceToNat, endS])
            | (with_reducible refine runR_b (fun h => ?_) (fun h => ?_) <;> first | (exfalso; (simp only [hsL, reduceCtorEq] at * <;> omega); done) | simp only [h, runR_t, runR_f])
            | (with_reducible refine condK_bl ?_ ?_)
            | (with_reducible refine condK_b (fun h => ?_) (fun h => ?_) <;> first | (exfalso; (simp only [hsL, reduceCtorEq] at * <;> omega); done) | skip)
            | (first | (simp only [Int.toNat_natCast, Nat.zero_add, ex, ey, xset_qu]) | (refine runR_n ⟨by omega, by omega, by omega⟩ ?_) | (refine runR_n ⟨by trivial, by unfold room maxLen; rw [List.length_map]; simp; omega⟩ ?_)))
          (all_goals first | (exfalso; (try simp only [List.length_map] at *); first | omega | (simp only [hsL, reduceCtorEq] at * <;> omega)) | skip)
          have htk : q.sz.take (n + 1) = q.sz.take n ++ [y] := by rw [List.take_add_one, hy]; rfl
          have hout : (sentL 0 (s.take k) ++ (q.sz.take n).map (fun x => ((k : Int), x))).map encW ++ [[.v (.int .i64 (k : Int)), .v (.int .i64 y)]] = (sentL 0 (s.take k) ++ (q.sz.take (n + 1)).map (fun x => ((k : Int), x))).map encW := by
            rw [htk, List.map_append, List.map_append, List.map_append, List.map_append]
            simp
          have hol : ((sentL 0 (s.take k) ++ (q.sz.take n).map (fun x => ((k : Int), x))).map encW).length + 1 = (sentL 0 (s.take k) ++ (q.sz.take (n + 1)).map (fun x => ((k : Int), x))).length := by
            rw [htk]
            simp
            omega
          have hsum : q.sv + q.sh - sumI (q.sz.take n) - y = q.sv + q.sh - sumI (q.sz.take (n + 1)) := by rw [htk, sumI_snoc]; omega
          simp only [List.set_set, hout, hol, hsum]
          refine nx_loop ⟨(n + 1, gg + 1, gg + 2), ⟨hnl, hstep.1 hle, by rw [← hsum]; omega, by rw [← hsum]; omega⟩, Nat.sub_lt_sub_left hnl (Nat.lt_succ_self n), ?_⟩
          refine le_mk ?_ ?_ (Nat.le_refl _)
          all_goals dsimp only [leE, leC, leR, leN, leD, leH, leO, writesX, dstsX, appS, havE, setsE, Env.get, Env.set, N8.get, N8.set, updL, lget, lset, env0]
          all_goals (repeat' (first | exact trivial | exact rfl | apply And.intro))
        · have hfin : nQ q = n := hstep.2 hle
          have hnl' := hnl
          have hcut : xtake (xdrop (q.sz.map encI) (n)) (((q.sz.length : Nat) : Int) - ((n : Nat) : Int)).toNat = (q.sz.drop (n)).map encI := by
            rw [show (((q.sz.length : Nat) : Int) - ((n : Nat) : Int)).toNat = q.sz.length - (n) by omega]
            exact cut_from q.sz (n) hn
          have hLs : ∀ u : Qu, ((L.set k u).map Qu.enc).length = s.length := fun u => by rw [List.length_map, List.length_set]; exact hL0
          have ex3 := xget_qu (l := L.set k ⟨q.sh, q.sv + q.sh - sumI (q.sz.take (n)), q.sz.drop (n)⟩) (k := k) (t := ⟨q.sh, q.sv + q.sh - sumI (q.sz.take (n)), q.sz.drop (n)⟩) (by rw [List.getElem?_set_self]; omega)
          have hdl : ((q.sz.drop (n)).map encI).length = q.sz.length - (n) := by simp
          repeat' (first
            | (with_reducible first | refine go_seq ?_ | refine go_region ?_ | refine go_regionD mixed_ok ?_ | refine go_cond ?_ | refine go_skip ?_ | refine go_block ?_ | refine nx_code ?_ | refine nx_block ?_ | refine go_ret ?_ | refine nx_nil ?_ | refine go_exit ?_ | refine ex_code ?_ | refine ex_loop ?_ | refine ex_here ?_)
            | ((with_reducible refine ex_past ?_ ?_); (exact by decide))
            | ((with_reducible refine endD_intro ?_ ?_); (exact by kernel_rfl))
            | ((with_reducible refine runR_n ?_ ?_); (solve | ((repeat' (first | exact trivial | exact rfl | apply And.intro)) <;> (first | exact rfl | (intro hq; cases hq; done) | decide | omega | exact keysOk_map (fun _ => rfl) _ | (simp only [List.length_map, List.length_append, List.length_cons, List.length_nil, List.length_replicate]; done) | (simp only [room, maxLen, allOnes, oneV, List.length_map, List.length_append, List.length_cons, List.length_nil, List.length_replicate] at *; omega) | (simp only [hsL, reduceCtorEq] at * <;> omega)))))
            | (first | (simp only [hnz, hwk, hdl]))
            | (dsimp only [run, undef, runR_ok, runR_t, runR_f, gd, gd2, skipR, ex1, pickR, boxR, loadR, loadO, storeR, storeO, nilR, fieldAR, fieldR, partOf, binR, intBin, unR, boolR, kindEq, shiftOp, onlyIf, orB, convR, extR, lenR, indexSlR, indexArrR, putE, updL, keysOf, lget, lset, evT, evs, Env.get, Env.set, N8.get, N8.set, env0, cellsD, oneD, oneV, andB, allOne, lenB, mapV, dget, ddrop, dtake, splice, xget, xset, partsD, partsOk, partsE, partsEOk, repl, elemsR, elemsS, elemsO, xdrop, xtake, allOnes, appN, appOwn, appNew, appY, cellEq_i, cellEq_b, cellEq_s, consO, cmpAll, allB, negB, eqsO, eqsR, eqbR, minR, evO, bndO, keepB, snapCut, slCut, nilCut, sliceR, isS, isnilL, isnilX, isnilR, strBin, sbinR, slenR, strAtR, substrB, substrR, makeR, clearO, clearR, sliceW1, sliceW2, sliceW3, sliceWR, appWO, appWR, okByte, okBytes, b2sR, indexVR, isnilPR, chunk, sliceAR, s2bR, flat1, arrpR, exnR, mgetR, mgetK, mgetO, mputR, mputK, mputO, mlenR, mlenO, mgetLR, mgetLK, mgetLO, mgetLX, mentLR, mentLK, mentLO, mentLX, estLR, estLO, estLX, keyV, valL, s2bOR, appD, callvR, cond, condK_t, condK_f, argsE, slots0, List.length_cons, List.length_nil, Bool.true_or, Bool.false_or, Bool.or_true, Bool.or_false, bnf, bnt, Nat.add_zero, Nat.zero_add, Nat.reduceAdd, Nat.reduceMul, Int.reduceToNat, endS])
            | (with_reducible refine runR_b (fun h => ?_) (fun h => ?_) <;> first | (exfalso; (simp only [hsL, reduceCtorEq] at * <;> omega); done) | simp only [h, runR_t, runR_f])
            | (with_reducible refine condK_bl ?_ ?_)
            | (with_reducible refine condK_b (fun h => ?_) (fun h => ?_) <;> first | (exfalso; (simp only [hsL, reduceCtorEq] at * <;> omega); done) | skip)
            | (first | (simp only [Int.toNat_natCast, Nat.zero_add, ex, ex3, ey, hcut, xset_qu, List.set_set]) | (refine runR_n ⟨by rw [hLs]; omega, by decide⟩ ?_)))
          (all_goals first | (exfalso; (try simp only [List.length_map] at *); first | omega | (simp only [hsL, reduceCtorEq] at * <;> omega)) | skip)
          have hrd : rndQ q = ⟨q.sh, q.sv + q.sh - sumI (q.sz.take n), q.sz.drop (n)⟩ := by
            unfold rndQ roomQ
            rw [hfin]
            rw [if_pos hnl]
          rw [hrd] at hs0
          have hse : sentL 0 (s.take (k + 1)) = sentL 0 (s.take k) ++ (q.sz.take (n)).map (fun x => ((k : Int), x)) := by
            rw [sentL_take hq]
            unfold sentQ
            rw [hfin]
          refine nx_loop ⟨(k + 1, nn, gg), hlt, Nat.sub_lt_sub_left hlt (Nat.lt_succ_self k), ?_⟩
          dsimp only
          rw [← hs0, hse]
          refine le_mk ?_ ?_ (Nat.le_refl _)
          all_goals dsimp only [leE, leC, leR, leN, leD, leH, leO, writesX, dstsX, appS, havE, setsE, Env.get, Env.set, N8.get, N8.set, updL, lget, lset, env0]
          all_goals (repeat' (first | exact trivial | exact rfl | apply And.intro))
      obtain rfl : n = q.sz.length := by omega
      have hfin : nQ q = q.sz.length := by rw [hfit, List.drop_length]; rfl
      have hcut : xtake (xdrop (q.sz.map encI) (q.sz.length)) (((q.sz.length : Nat) : Int) - ((q.sz.length : Nat) : Int)).toNat = (q.sz.drop (q.sz.length)).map encI := by
        rw [show (((q.sz.length : Nat) : Int) - ((q.sz.length : Nat) : Int)).toNat = q.sz.length - (q.sz.length) by omega]
        exact cut_from q.sz (q.sz.length) hn
      have hLs : ∀ u : Qu, ((L.set k u).map Qu.enc).length = s.length := fun u => by rw [List.length_map, List.length_set]; exact hL0
      have ex3 := xget_qu (l := L.set k ⟨q.sh, q.sv + q.sh - sumI (q.sz.take (q.sz.length)), q.sz.drop (q.sz.length)⟩) (k := k) (t := ⟨q.sh, q.sv + q.sh - sumI (q.sz.take (q.sz.length)), q.sz.drop (q.sz.length)⟩) (by rw [List.getElem?_set_self]; omega)
      have hdl : ((q.sz.drop (q.sz.length)).map encI).length = q.sz.length - (q.sz.length) := by simp
      repeat' (first
        | (with_reducible first | refine go_seq ?_ | refine go_region ?_ | refine go_regionD mixed_ok ?_ | refine go_cond ?_ | refine go_skip ?_ | refine go_block ?_ | refine nx_code ?_ | refine nx_block ?_ | refine go_ret ?_ | refine nx_nil ?_ | refine go_exit ?_ | refine ex_code ?_ | refine ex_loop ?_ | refine ex_here ?_)
        | ((with_reducible refine ex_past ?_ ?_); (exact by decide))
        | ((with_reducible refine endD_intro ?_ ?_); (exact by kernel_rfl))
        | ((with_reducible refine runR_n ?_ ?_); (solve | ((repeat' (first | exact trivial | exact rfl | apply And.intro)) <;> (first | exact rfl | (intro hq; cases hq; done) | decide | omega | exact keysOk_map (fun _ => rfl) _ | (simp only [List.length_map, List.length_append, List.length_cons, List.length_nil, List.length_replicate]; done) | (simp only [room, maxLen, allOnes, oneV, List.length_map, List.length_append, List.length_cons, List.length_nil, List.length_replicate] at *; omega) | (simp only [hsL, reduceCtorEq] at * <;> omega)))))
        | (first | (simp only [hnz, hwk, hdl]))
        | (dsimp only [run, undef, runR_ok, runR_t, runR_f, gd, gd2, skipR, ex1, pickR, boxR, loadR, loadO, storeR, storeO, nilR, fieldAR, fieldR, partOf, binR, intBin, unR, boolR, kindEq, shiftOp, onlyIf, orB, convR, extR, lenR, indexSlR, indexArrR, putE, updL, keysOf, lget, lset, evT, evs, Env.get, Env.set, N8.get, N8.set, env0, cellsD, oneD, oneV, andB, allOne, lenB, mapV, dget, ddrop, dtake, splice, xget, xset, partsD, partsOk, partsE, partsEOk, repl, elemsR, elemsS, elemsO, xdrop, xtake, allOnes, appN, appOwn, appNew, appY, cellEq_i, cellEq_b, cellEq_s, consO, cmpAll, allB, negB, eqsO, eqsR, eqbR, minR, evO, bndO, keepB, snapCut, slCut, nilCut, sliceR, isS, isnilL, isnilX, isnilR, strBin, sbinR, slenR, strAtR, substrB, substrR, makeR, clearO, clearR, sliceW1, sliceW2, sliceW3, sliceWR, appWO, appWR, okByte, okBytes, b2sR, indexVR, isnilPR, chunk, sliceAR, s2bR, flat1, arrpR, exnR, mgetR, mgetK, mgetO, mputR, mputK, mputO, mlenR, mlenO, mgetLR, mgetLK, mgetLO, mgetLX, mentLR, mentLK, mentLO, mentLX, estLR, estLO, estLX, keyV, valL, s2bOR, appD, callvR, cond, condK_t, condK_f, argsE, slots0, List.length_cons, List.length_nil, Bool.true_or, Bool.false_or, Bool.or_true, Bool.or_false, bnf, bnt, Nat.add_zero, Nat.zero_add, Nat.reduceAdd, Nat.reduceMul, Int.reduceToNat, endS])
        | (with_reducible refine runR_b (fun h => ?_) (fun h => ?_) <;> first | (exfalso; (simp only [hsL, reduceCtorEq] at * <;> omega); done) | simp only [h, runR_t, runR_f])
        | (with_reducible refine condK_bl ?_ ?_)
        | (with_reducible refine condK_b (fun h => ?_) (fun h => ?_) <;> first | (exfalso; (simp only [hsL, reduceCtorEq] at * <;> omega); done) | skip)
        | (first | (simp only [Int.toNat_natCast, Nat.zero_add, ex, ex3, hcut, xset_qu, List.set_set]) | (refine runR_n ⟨by rw [hLs]; omega, by decide⟩ ?_)))
      (all_goals first | (exfalso; (try simp only [List.length_map] at *); first | omega | (simp only [hsL, reduceCtorEq] at * <;> omega)) | skip)
      have hrd : rndQ q = ⟨q.sh, 0, q.sz.drop (q.sz.length)⟩ := by
        unfold rndQ roomQ
        rw [hfin]
        rw [if_neg (Nat.lt_irrefl _)]
      rw [hrd] at hs0
      have hse : sentL 0 (s.take (k + 1)) = sentL 0 (s.take k) ++ (q.sz.take (q.sz.length)).map (fun x => ((k : Int), x)) := by
        rw [sentL_take hq]
        unfold sentQ
        rw [hfin]
      refine nx_loop ⟨(k + 1, nn, gg), hlt, Nat.sub_lt_sub_left hlt (Nat.lt_succ_self k), ?_⟩
      dsimp only
      rw [← hs0, hse]
      refine le_mk ?_ ?_ (Nat.le_refl _)
      all_goals dsimp only [leE, leC, leR, leN, leD, leH, leO, writesX, dstsX, appS, havE, setsE, Env.get, Env.set, N8.get, N8.set, updL, lget, lset, env0]
      all_goals (repeat' (first | exact trivial | exact rfl | apply And.intro))
  obtain rfl : k = s.length := by omega
  have hmx : mixN rndQ s s.length = s.map rndQ := by unfold mixN; rw [List.take_length, List.drop_length, List.append_nil]
  have hml : ((s.map rndQ).map Qu.enc).length = s.length := by simp
  rw [hmx]
  simp only [List.take_length]
  repeat' (first
    | (with_reducible first | refine go_seq ?_ | refine go_region ?_ | refine go_regionD mixed_ok ?_ | refine go_cond ?_ | refine go_skip ?_ | refine go_block ?_ | refine nx_code ?_ | refine nx_block ?_ | refine go_ret ?_ | refine nx_nil ?_ | refine go_exit ?_ | refine ex_code ?_ | refine ex_loop ?_ | refine ex_here ?_)
    | ((with_reducible refine ex_past ?_ ?_); (exact by decide))
    | ((with_reducible refine endD_intro ?_ ?_); (exact by kernel_rfl))
    | ((with_reducible refine runR_n ?_ ?_); (solve | ((repeat' (first | exact trivial | exact rfl | apply And.intro)) <;> (first | exact rfl | (intro hq; cases hq; done) | decide | omega | exact keysOk_map (fun _ => rfl) _ | (simp only [List.length_map, List.length_append, List.length_cons, List.length_nil, List.length_replicate]; done) | (simp only [room, maxLen, allOnes, oneV, List.length_map, List.length_append, List.length_cons, List.length_nil, List.length_replicate] at *; omega) | (simp only [hsL, reduceCtorEq] at * <;> omega)))))
    | fail
    | (dsimp only [run, undef, runR_ok, runR_t, runR_f, gd, gd2, skipR, ex1, pickR, boxR, loadR, loadO, storeR, storeO, nilR, fieldAR, fieldR, partOf, binR, intBin, unR, boolR, kindEq, shiftOp, onlyIf, orB, convR, extR, lenR, indexSlR, indexArrR, putE, updL, keysOf, lget, lset, evT, evs, Env.get, Env.set, N8.get, N8.set, env0, cellsD, oneD, oneV, andB, allOne, lenB, mapV, dget, ddrop, dtake, splice, xget, xset, partsD, partsOk, partsE, partsEOk, repl, elemsR, elemsS, elemsO, xdrop, xtake, allOnes, appN, appOwn, appNew, appY, cellEq_i, cellEq_b, cellEq_s, consO, cmpAll, allB, negB, eqsO, eqsR, eqbR, minR, evO, bndO, keepB, snapCut, slCut, nilCut, sliceR, isS, isnilL, isnilX, isnilR, strBin, sbinR, slenR, strAtR, substrB, substrR, makeR, clearO, clearR, sliceW1, sliceW2, sliceW3, sliceWR, appWO, appWR, okByte, okBytes, b2sR, indexVR, isnilPR, chunk, sliceAR, s2bR, flat1, arrpR, exnR, mgetR, mgetK, mgetO, mputR, mputK, mputO, mlenR, mlenO, mgetLR, mgetLK, mgetLO, mgetLX, mentLR, mentLK, mentLO, mentLX, estLR, estLO, estLX, keyV, valL, s2bOR, appD, callvR, cond, condK_t, condK_f, argsE, slots0, List.length_cons, List.length_nil, Bool.true_or, Bool.false_or, Bool.or_true, Bool.or_false, bnf, bnt, Nat.add_zero, Nat.zero_add, Nat.reduceAdd, Nat.reduceMul, Int.reduceToNat, endS])
    | (with_reducible refine runR_b (fun h => ?_) (fun h => ?_) <;> first | (exfalso; (simp only [hsL, reduceCtorEq] at * <;> omega); done) | simp only [h, runR_t, runR_f])
    | (with_reducible refine condK_bl ?_ ?_)
    | (with_reducible refine condK_b (fun h => ?_) (fun h => ?_) <;> first | (exfalso; (simp only [hsL, reduceCtorEq] at * <;> omega); done) | skip)
    | fail)
  (all_goals first | (exfalso; (try simp only [List.length_map] at *); first | omega | (simp only [hsL, reduceCtorEq] at * <;> omega)) | skip)
  refine retq_le (leG_freeze hW ⟨.d0, .d0, .d2⟩ rfl rfl ⟨rfl, rfl, by simp⟩) ?_
  refine retq_le (leG_freeze hW ⟨.d0, .d0, .d3⟩ rfl rfl ⟨rfl, rfl, by simp⟩) ?_
  rw [xall hml.symm, xall (List.length_map _).symm]
  have hnf1 := nf_qu Γ.g0 (s.map rndQ)
  have hnf2 : nfLL Γ.g0 ((sentL 0 s).map encW) := nfLL_map (fun x => by simp [nfL, nfD])
  have nfi : ∀ l : List Int, nfLL Γ.g0 (l.map encI) := fun l => nfLL_map (fun x => by simp [nfL, nfD])
  all_goals with_reducible refine ret_spec2 (by (try dsimp only [RetOK, resOk, resDs, resD, resV, cellV, cellO, cellP, cellOk, htake, nfD, nfL, nfLL, nfH, lget, partOf, xget, ddrop, dtake, dget, Env.get, N8.get, env0, List.length_cons, List.length_nil, Env.set, N8.set, lset, updL]); (repeat' (first | exact trivial | exact rfl | exact nfLL_map (fun x => by simp [nfL, nfD, nfD, nfL, nfi]) | decide | apply And.intro))) ?_
  all_goals (try dsimp only [RetOK, resOk, resDs, resD, resV, cellV, cellO, cellP, cellOk, htake, nfD, nfL, nfLL, nfH, lget, partOf, xget, ddrop, dtake, dget, Env.get, N8.get, env0, List.length_cons, List.length_nil, Env.set, N8.set, lset, updL])
  all_goals (try simp only [hsM] at *)
end Go.Proofs.Ytkpechddgjbfkaa
