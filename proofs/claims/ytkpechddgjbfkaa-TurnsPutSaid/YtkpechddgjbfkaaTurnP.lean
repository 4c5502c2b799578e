/-
  Turns of queues: one more that waits.
-/
import Derived.Test.YtkpechddgjbfkaaTurnV
namespace Go.Proofs.Ytkpechddgjbfkaa
set_option linter.unusedVariables false
set_option linter.unusedSimpArgs false
set_option maxHeartbeats 1000000 in
theorem tpclone1 (l : List Int) (c : Bool) (hl : room l.length 8) : OSpec Try.prog 29 [.snap 1 (l.map encI) c] [] (fun n d H => d = .sl 1 n 1 0 l.length false ∧ H = [some ⟨n, 1, l.map encI⟩]) := by
  have hones : ∀ r : List Int, allOnes (r.map encI) = true := allOnes_map (fun x => rfl)
  cases l with
  | nil =>
    refine ospec_fn Try.func29 rfl ok_slices_Clone_int okr_slices_Clone_int rfl (by kernel_rfl) ?_
    intro Γ hW0 hN0 hL0
    have hW := hW0 rfl
    clear hW0 hN0 hL0
    unfold x_slices_Clone_int r_slices_Clone_int
    dsimp only [List.map]
    repeat' (first
      | (with_reducible first | refine go_seq ?_ | refine go_region ?_ | refine go_regionD mixed_ok ?_ | refine go_cond ?_ | refine go_skip ?_ | refine go_block ?_ | refine nx_code ?_ | refine nx_block ?_ | refine go_ret ?_ | refine nx_nil ?_ | refine go_exit ?_ | refine ex_code ?_ | refine ex_loop ?_ | refine ex_here ?_)
      | ((with_reducible refine ex_past ?_ ?_); (exact by decide))
      | ((with_reducible refine endD_intro ?_ ?_); (exact by kernel_rfl))
      | ((with_reducible refine runR_n ?_ ?_); (solve | ((repeat' (first | exact trivial | exact rfl | apply And.intro)) <;> (first | exact rfl | (intro hq; cases hq; done) | decide | omega | exact keysOk_map (fun _ => rfl) _ | (simp only [List.length_map, List.length_append, List.length_cons, List.length_nil, List.length_replicate]; done) | (simp only [room, maxLen, allOnes, oneV, List.length_map, List.length_append, List.length_cons, List.length_nil, List.length_replicate] at *; omega) | (simp only [hsL, reduceCtorEq] at * <;> omega)))))
      | (with_reducible refine runR_l ?_)
      | (dsimp only [run, undef, zipO, runR_ok, runR_t, runR_f, gd, gd2, skipR, ex1, pickR, boxR, loadR, loadO, storeR, storeO, nilR, fieldAR, fieldR, partOf, binR, intBin, unR, boolR, kindEq, shiftOp, onlyIf, orB, convR, extR, lenR, indexSlR, indexArrR, putE, updL, keysOf, lget, lset, evT, evs, Env.get, Env.set, N8.get, N8.set, env0, cellsD, oneD, oneV, andB, allOne, lenB, mapV, dget, ddrop, dtake, splice, xget, xset, partsD, partsOk, partsE, partsEOk, repl, elemsR, elemsS, elemsO, xdrop, xtake, allOnes, appN, appOwn, appNew, appY, cellEq_i, cellEq_b, cellEq_s, consO, cmpAll, allB, negB, eqsO, eqsR, eqbR, minR, evO, bndO, keepB, snapCut, slCut, nilCut, sliceR, isS, isnilL, isnilX, isnilR, strBin, sbinR, slenR, strAtR, substrB, substrR, makeR, clearO, clearR, sliceW1, sliceW2, sliceW3, sliceWR, appWO, appWR, okByte, okBytes, b2sR, indexVR, isnilPR, chunk, sliceAR, s2bR, flat1, arrpR, exnR, mgetR, mgetK, mgetO, mputR, mputK, mputO, mlenR, mlenO, mgetLR, mgetLK, mgetLO, mgetLX, mentLR, mentLK, mentLO, mentLX, estLR, estLO, estLX, keyV, valL, s2bOR, appD, callvR, cond, condK_t, condK_f, argsE, slots0, List.length_cons, List.length_nil, Bool.true_or, Bool.false_or, Bool.or_true, Bool.or_false, bnf, bnt, Nat.add_zero, Nat.zero_add, Nat.reduceAdd, Nat.reduceMul, Int.reduceToNat, endS])
      | (with_reducible refine runR_b (fun h => ?_) (fun h => ?_) <;> first | (exfalso; (simp only [hsL, reduceCtorEq] at * <;> omega); done) | simp only [h, runR_t, runR_f])
      | (with_reducible refine condK_bl ?_ ?_)
      | (with_reducible refine condK_b (fun h => ?_) (fun h => ?_) <;> first | (exfalso; (simp only [hsL, reduceCtorEq] at * <;> omega); done) | skip)
      | fail)
    · refine retqo_le (le_leG (le_row ⟨.d0, .d0, .d2⟩ 1 1 rfl rfl)) ?_
      exact ret_ospec 1 (fun n => .sl 1 n 1 0 0 false) trivial rfl (Nat.le_refl _) trivial (fun n => .inl ⟨rfl, rfl⟩) (fun n => ⟨rfl, rfl⟩)
    · exact ret_ospec 1 (fun n => .sl 1 n 1 0 0 false) trivial rfl (by show Γ.g0 ≤ Γ.g0 + 1; omega) trivial (fun n => .inl ⟨rfl, rfl⟩) (fun n => ⟨rfl, rfl⟩)
  | cons x r =>
    refine ospec_fn Try.func29 rfl ok_slices_Clone_int okr_slices_Clone_int rfl (by kernel_rfl) ?_
    intro Γ hW0 hN0 hL0
    have hW := hW0 rfl
    clear hW0 hN0 hL0
    unfold x_slices_Clone_int r_slices_Clone_int
    dsimp only [List.map]
    repeat' (first
      | (with_reducible first | refine go_seq ?_ | refine go_region ?_ | refine go_regionD mixed_ok ?_ | refine go_cond ?_ | refine go_skip ?_ | refine go_block ?_ | refine nx_code ?_ | refine nx_block ?_ | refine go_ret ?_ | refine nx_nil ?_ | refine go_exit ?_ | refine ex_code ?_ | refine ex_loop ?_ | refine ex_here ?_)
      | ((with_reducible refine ex_past ?_ ?_); (exact by decide))
      | ((with_reducible refine endD_intro ?_ ?_); (exact by kernel_rfl))
      | ((with_reducible refine runR_n ?_ ?_); (solve | ((repeat' (first | exact trivial | exact rfl | apply And.intro)) <;> (first | exact rfl | (intro hq; cases hq; done) | decide | omega | exact keysOk_map (fun _ => rfl) _ | (simp only [List.length_map, List.length_append, List.length_cons, List.length_nil, List.length_replicate]; done) | (simp only [room, maxLen, allOnes, oneV, List.length_map, List.length_append, List.length_cons, List.length_nil, List.length_replicate] at *; omega) | (simp only [hsL, reduceCtorEq] at * <;> omega)))))
      | (with_reducible refine runR_l ?_)
      | (dsimp only [run, undef, zipO, runR_ok, runR_t, runR_f, gd, gd2, skipR, ex1, pickR, boxR, loadR, loadO, storeR, storeO, nilR, fieldAR, fieldR, partOf, binR, intBin, unR, boolR, kindEq, shiftOp, onlyIf, orB, convR, extR, lenR, indexSlR, indexArrR, putE, updL, keysOf, lget, lset, evT, evs, Env.get, Env.set, N8.get, N8.set, env0, cellsD, oneD, oneV, andB, allOne, lenB, mapV, dget, ddrop, dtake, splice, xget, xset, partsD, partsOk, partsE, partsEOk, repl, elemsR, elemsS, elemsO, xdrop, xtake, allOnes, appN, appOwn, appNew, appY, cellEq_i, cellEq_b, cellEq_s, consO, cmpAll, allB, negB, eqsO, eqsR, eqbR, minR, evO, bndO, keepB, snapCut, slCut, nilCut, sliceR, isS, isnilL, isnilX, isnilR, strBin, sbinR, slenR, strAtR, substrB, substrR, makeR, clearO, clearR, sliceW1, sliceW2, sliceW3, sliceWR, appWO, appWR, okByte, okBytes, b2sR, indexVR, isnilPR, chunk, sliceAR, s2bR, flat1, arrpR, exnR, mgetR, mgetK, mgetO, mputR, mputK, mputO, mlenR, mlenO, mgetLR, mgetLK, mgetLO, mgetLX, mentLR, mentLK, mentLO, mentLX, estLR, estLO, estLX, keyV, valL, s2bOR, appD, callvR, cond, condK_t, condK_f, argsE, slots0, List.length_cons, List.length_nil, Bool.true_or, Bool.false_or, Bool.or_true, Bool.or_false, bnf, bnt, Nat.add_zero, Nat.zero_add, Nat.reduceAdd, Nat.reduceMul, Int.reduceToNat, endS])
      | (with_reducible refine runR_b (fun h => ?_) (fun h => ?_) <;> first | (exfalso; (simp only [hsL, reduceCtorEq] at * <;> omega); done) | simp only [h, runR_t, runR_f])
      | (with_reducible refine condK_bl ?_ ?_)
      | (with_reducible refine condK_b (fun h => ?_) (fun h => ?_) <;> first | (exfalso; (simp only [hsL, reduceCtorEq] at * <;> omega); done) | skip)
      | (refine runR_n ⟨Or.inl (by omega), rfl, hones _, by simp only [room, maxLen, List.length_map, List.length_cons] at hl ⊢; omega⟩ ?_))
    refine ret_ospec 1 (fun n => .sl 1 n 1 0 (x :: r).length false) trivial rfl (by show Γ.g0 ≤ Γ.g0 + 1; omega) ?_ (fun n => .inl ⟨rfl, ?_⟩) (fun n => ⟨rfl, rfl⟩)
    · exact (nfLL_map (fun x => by simp [nfL, nfD]) : nfLL Γ.g0 ((x :: r).map encI))
    · simp [List.length_map]
theorem tpclone_spec (j : Nat) (l : List Int) (c : Bool) (hl : room l.length 8) : OSpec Try.prog 29 [.snap 1 (l.map encI) c] [] (fun n d H => d = .sl j n 1 0 l.length false ∧ H = [some ⟨n, 1, l.map encI⟩]) :=
  ospec_as (tpclone1 l c hl) (fun K w n v h => sl_label h)
/-- The queue q as a row whose sizes are a row n of its own. -/
abbrev encOw (n : Nat) (q : Qu) : List DV := [.v (.int .i64 q.sh), .v (.int .i64 q.sv), .sl 11 n 1 0 q.sz.length false]
abbrev ownL (s : List Qu) (k : Nat) (q : Qu) (n : Nat) : List (List DV) := xset (s.map Qu.enc) k (encOw n q)
theorem ownL_get {s : List Qu} {k j : Nat} {q t : Qu} {n : Nat} (h : s[j]? = some t) : (ownL s k q n)[j]? = some (if j = k then encOw n q else t.enc) := by
  have hj : j < s.length := (List.getElem?_eq_some_iff.1 h).1
  unfold ownL
  rw [xset_eq_set, List.getElem?_set, List.length_map]
  by_cases e : k = j
  · rw [if_pos e, if_pos (by omega), if_pos e.symm]
  · rw [if_neg e, if_neg (fun q => e q.symm), List.getElem?_map, h]
    rfl
theorem take_snoc {α : Type} {l : List α} {k : Nat} {x : α} (h : l[k]? = some x) : l.take k ++ [x] = l.take (k + 1) := by rw [List.take_add_one, h]; rfl
theorem ownL_take {s : List Qu} {k j : Nat} {q : Qu} {n n' : Nat} (h : j ≤ k) : (ownL s k q n).take j = (ownL s k q n').take j := by
  refine List.ext_getElem? fun i => ?_
  simp only [ownL, xset_eq_set, List.getElem?_take, List.getElem?_set]
  by_cases hi : i < j
  · rw [if_pos hi, if_pos hi, if_neg (by omega), if_neg (by omega)]
  · rw [if_neg hi, if_neg hi]
set_option maxHeartbeats 2000000 in
theorem ownm_spec (s : List Qu) (c : Bool) (hl : s.length ≤ 16) (hz : ∀ q ∈ s, q.sz.length ≤ 200) {q0 : Nat} {t0 : Qu} (hq0 : s[q0]? = some t0) : MSpec Try.prog 61 [.snap 3 (s.map Qu.enc) c] [] 2 (fun n d H => d = .sl 10 n 3 0 s.length false ∧ H = [some ⟨n, 3, ownL s q0 t0 (n + 1)⟩, some ⟨n + 1, 1, t0.sz.map encI⟩]) := by
  have hlen : (s.map Qu.enc).length = s.length := List.length_map _
  have hq0l : q0 < s.length := (List.getElem?_eq_some_iff.1 hq0).1
  refine mspec_fn Try.func61 rfl ok_turns_own okr_turns_own rfl (by kernel_rfl) ?_
  intro Γ hW0 hN0 hL0
  have hW := hW0 rfl
  clear hW0 hN0 hL0
  unfold x_turns_own r_turns_own
  repeat' (first
    | (with_reducible first | refine go_seq ?_ | refine go_region ?_ | refine go_regionD mixed_ok ?_ | refine go_cond ?_ | refine go_skip ?_ | refine go_block ?_ | refine nx_code ?_ | refine nx_block ?_ | refine go_ret ?_ | refine nx_nil ?_ | refine go_exit ?_ | refine ex_code ?_ | refine ex_loop ?_ | refine ex_here ?_)
    | ((with_reducible refine ex_past ?_ ?_); (exact by decide))
    | ((with_reducible refine endD_intro ?_ ?_); (exact by kernel_rfl))
    | ((with_reducible refine runR_n ?_ ?_); (solve | ((repeat' (first | exact trivial | exact rfl | apply And.intro)) <;> (first | exact rfl | (intro hq; cases hq; done) | decide | omega | exact keysOk_map (fun _ => rfl) _ | (simp only [List.length_map, List.length_append, List.length_cons, List.length_nil, List.length_replicate]; done) | (simp only [room, maxLen, allOnes, oneV, List.length_map, List.length_append, List.length_cons, List.length_nil, List.length_replicate] at *; omega) | (simp only [hsL, reduceCtorEq] at * <;> omega)))))
    | (simp only [hlen])
    | (dsimp only [run, undef, zipO, runR_ok, runR_t, runR_f, gd, gd2, skipR, ex1, pickR, boxR, loadR, loadO, storeR, storeO, nilR, fieldAR, fieldR, partOf, binR, intBin, unR, boolR, kindEq, shiftOp, onlyIf, orB, convR, extR, lenR, indexSlR, indexArrR, putE, updL, keysOf, lget, lset, evT, evs, Env.get, Env.set, N8.get, N8.set, env0, cellsD, oneD, oneV, andB, allOne, lenB, mapV, dget, ddrop, dtake, splice, xget, xset, partsD, partsOk, partsE, partsEOk, repl, elemsR, elemsS, elemsO, xdrop, xtake, allOnes, appN, appOwn, appNew, appY, cellEq_i, cellEq_b, cellEq_s, consO, cmpAll, allB, negB, eqsO, eqsR, eqbR, minR, evO, bndO, keepB, snapCut, slCut, nilCut, sliceR, isS, isnilL, isnilX, isnilR, strBin, sbinR, slenR, strAtR, substrB, substrR, makeR, clearO, clearR, sliceW1, sliceW2, sliceW3, sliceWR, appWO, appWR, okByte, okBytes, b2sR, indexVR, isnilPR, chunk, sliceAR, s2bR, flat1, arrpR, exnR, mgetR, mgetK, mgetO, mputR, mputK, mputO, mlenR, mlenO, mgetLR, mgetLK, mgetLO, mgetLX, mentLR, mentLK, mentLO, mentLX, estLR, estLO, estLX, keyV, valL, s2bOR, appD, callvR, cond, condK_t, condK_f, argsE, slots0, List.length_cons, List.length_nil, Bool.true_or, Bool.false_or, Bool.or_true, Bool.or_false, bnf, bnt, Nat.add_zero, Nat.zero_add, Nat.reduceAdd, Nat.reduceMul, Int.reduceToNat, endS])
    | (with_reducible refine runR_b (fun h => ?_) (fun h => ?_) <;> first | (exfalso; (simp only [hsL, reduceCtorEq] at * <;> omega); done) | simp only [h, runR_t, runR_f])
    | (with_reducible refine condK_bl ?_ ?_)
    | (with_reducible refine condK_b (fun h => ?_) (fun h => ?_) <;> first | (exfalso; (simp only [hsL, reduceCtorEq] at * <;> omega); done) | skip)
    | (refine runR_n ⟨by omega, by omega, by unfold room maxLen; simp; omega⟩ ?_))
  refine go_loopH (α := Nat × Nat × Nat × Nat × Option AObj) (fun p => [(⟨.d0, .d0, .d3⟩, .sl 0 p.2.1 3 0 p.1 false), (⟨.d0, .d1, .d3⟩, .v (.int .i64 (p.1 : Nat)))]) (fun p => [(0, some ⟨p.2.1, 3, (ownL s q0 t0 p.2.2.1).take p.1⟩), (1, none), (2, none), (7, p.2.2.2.2)]) (fun p => p.2.2.2.1) (fun p => s.length - p.1) (fun p => p.1 ≤ s.length ∧ Γ.g0 ≤ p.2.2.2.1 ∧ (p.1 ≤ q0 → p.2.2.2.2 = none) ∧ (q0 < p.1 → p.2.2.2.2 = some ⟨p.2.2.1, 1, t0.sz.map encI⟩)) (0, Γ.g0, 0, Γ.g0 + 1, none) ⟨Nat.zero_le _, Nat.le_succ _, fun _ => rfl, fun h => absurd h (Nat.not_lt_zero _)⟩ ?_ ?_
  · skip
    refine le_mk ?_ ?_ (Nat.le_refl _)
    all_goals dsimp only [leE, leC, leR, leN, leD, leH, leO, writesX, dstsX, appS, havE, setsE, Env.get, Env.set, N8.get, N8.set, updL, lget, lset, env0]
    all_goals (repeat' (first | exact trivial | exact rfl | apply And.intro))
  rintro ⟨k, nm, nb, gn, ob⟩ ⟨hk, hgn, ho1, ho2⟩
  dsimp only at hk hgn ho1 ho2 ⊢
  dsimp only [writesX, dstsX, appS, havE, setsE, Env.get, Env.set, N8.get, N8.set, updL, lget, lset, env0]
  by_cases hlt : k < s.length
  · obtain ⟨q, hq⟩ : ∃ q, s[k]? = some q := ⟨_, List.getElem?_eq_getElem hlt⟩
    have ex := xget_qu hq
    have hqm := hz q (List.mem_of_getElem? hq)
    have hwk : IntKind.i64.wrap ((k : Int) + 1) = ((k + 1 : Nat) : Int) := (IntWalk.i64_in _ (by omega)).trans (by omega)
    have hL : ∀ m, (ownL s q0 t0 m).length = s.length := fun m => by unfold ownL; rw [xset_len, List.length_map]
    have htl : ∀ m, ((ownL s q0 t0 m).take k).length = k := fun m => by rw [List.length_take, hL]; omega
    by_cases hkq : k = q0
    · have ho := ho1 (by omega)
      subst ho
      have hcl := tpclone_spec 11 q.sz false (by unfold room maxLen; omega)
      have hget := ownL_get (k := q0) (q := t0) (n := gn + 1) hq
      rw [if_pos hkq] at hget
      have hqt : q = t0 := by rw [hkq] at hq; exact Option.some.inj (hq.symm.trans hq0)
      subst hqt
      have hcat := take_snoc hget
      rw [ownL_take (n' := nb) (by omega)] at hcat
      repeat' (first
        | (with_reducible first | refine go_seq ?_ | refine go_region ?_ | refine go_regionD mixed_ok ?_ | refine go_cond ?_ | refine go_skip ?_ | refine go_block ?_ | refine nx_code ?_ | refine nx_block ?_ | refine go_ret ?_ | refine nx_nil ?_ | refine go_exit ?_ | refine ex_code ?_ | refine ex_loop ?_ | refine ex_here ?_)
        | ((with_reducible refine ex_past ?_ ?_); (exact by decide))
        | ((with_reducible refine endD_intro ?_ ?_); (exact by kernel_rfl))
        | ((with_reducible refine runR_n ?_ ?_); (solve | ((repeat' (first | exact trivial | exact rfl | apply And.intro)) <;> (first | exact rfl | (intro hq; cases hq; done) | decide | omega | exact keysOk_map (fun _ => rfl) _ | (simp only [List.length_map, List.length_append, List.length_cons, List.length_nil, List.length_replicate]; done) | (simp only [room, maxLen, allOnes, oneV, List.length_map, List.length_append, List.length_cons, List.length_nil, List.length_replicate] at *; omega) | (simp only [hsL, reduceCtorEq] at * <;> omega)))))
        | (first | (with_reducible refine runR_callO 7 hcl ?_) | (simp only [hlen, hwk]))
        | (dsimp only [run, undef, zipO, runR_ok, runR_t, runR_f, gd, gd2, skipR, ex1, pickR, boxR, loadR, loadO, storeR, storeO, nilR, fieldAR, fieldR, partOf, binR, intBin, unR, boolR, kindEq, shiftOp, onlyIf, orB, convR, extR, lenR, indexSlR, indexArrR, putE, updL, keysOf, lget, lset, evT, evs, Env.get, Env.set, N8.get, N8.set, env0, cellsD, oneD, oneV, andB, allOne, lenB, mapV, dget, ddrop, dtake, splice, xget, xset, partsD, partsOk, partsE, partsEOk, repl, elemsR, elemsS, elemsO, xdrop, xtake, allOnes, appN, appOwn, appNew, appY, cellEq_i, cellEq_b, cellEq_s, consO, cmpAll, allB, negB, eqsO, eqsR, eqbR, minR, evO, bndO, keepB, snapCut, slCut, nilCut, sliceR, isS, isnilL, isnilX, isnilR, strBin, sbinR, slenR, strAtR, substrB, substrR, makeR, clearO, clearR, sliceW1, sliceW2, sliceW3, sliceWR, appWO, appWR, okByte, okBytes, b2sR, indexVR, isnilPR, chunk, sliceAR, s2bR, flat1, arrpR, exnR, mgetR, mgetK, mgetO, mputR, mputK, mputO, mlenR, mlenO, mgetLR, mgetLK, mgetLO, mgetLX, mentLR, mentLK, mentLO, mentLX, estLR, estLO, estLX, keyV, valL, s2bOR, appD, callvR, cond, condK_t, condK_f, argsE, slots0, List.length_cons, List.length_nil, Bool.true_or, Bool.false_or, Bool.or_true, Bool.or_false, bnf, bnt, Nat.add_zero, Nat.zero_add, Nat.reduceAdd, Nat.reduceMul, Int.reduceToNat, endS])
        | (with_reducible refine runR_b (fun h => ?_) (fun h => ?_) <;> first | (exfalso; (simp only [hsL, reduceCtorEq] at * <;> omega); done) | simp only [h, runR_t, runR_f])
        | (with_reducible refine condK_bl ?_ ?_)
        | (with_reducible refine condK_b (fun h => ?_) (fun h => ?_) <;> first | (exfalso; (simp only [hsL, reduceCtorEq] at * <;> omega); done) | skip)
        | (first | (simp only [Int.toNat_natCast, ex]) | (refine runR_n ⟨by trivial, by trivial, by trivial, by trivial, (htl _).symm⟩ ?_) | (refine runR_n ⟨by trivial, by unfold room maxLen; rw [htl]; simp; omega⟩ ?_) | fail))
      (all_goals first | (exfalso; (try simp only [List.length_map] at *); first | omega | (simp only [hsL, reduceCtorEq] at * <;> omega)) | skip)
      simp only [htl, hcat]
      refine nx_loop ⟨(k + 1, gn + 1 + 1 + 1, gn + 1, gn + 4, some ⟨gn + 1, 1, q.sz.map encI⟩), ⟨hlt, by dsimp only; omega, fun h => ?_, fun _ => rfl⟩, Nat.sub_lt_sub_left hlt (Nat.lt_succ_self k), ?_⟩
      · dsimp only at h
        omega
      refine le_mk ?_ ?_ (Nat.le_refl _)
      all_goals dsimp only [leE, leC, leR, leN, leD, leH, leO, writesX, dstsX, appS, havE, setsE, Env.get, Env.set, N8.get, N8.set, updL, lget, lset, env0]
      all_goals (repeat' (first | exact trivial | exact rfl | apply And.intro))
    · have hcl := clonei_spec q.sz false (by omega)
      have hget := ownL_get (k := q0) (q := t0) (n := nb) hq
      rw [if_neg hkq] at hget
      have hcat := take_snoc hget
      repeat' (first
        | (with_reducible first | refine go_seq ?_ | refine go_region ?_ | refine go_regionD mixed_ok ?_ | refine go_cond ?_ | refine go_skip ?_ | refine go_block ?_ | refine nx_code ?_ | refine nx_block ?_ | refine go_ret ?_ | refine nx_nil ?_ | refine go_exit ?_ | refine ex_code ?_ | refine ex_loop ?_ | refine ex_here ?_)
        | ((with_reducible refine ex_past ?_ ?_); (exact by decide))
        | ((with_reducible refine endD_intro ?_ ?_); (exact by kernel_rfl))
        | ((with_reducible refine runR_n ?_ ?_); (solve | ((repeat' (first | exact trivial | exact rfl | apply And.intro)) <;> (first | exact rfl | (intro hq; cases hq; done) | decide | omega | exact keysOk_map (fun _ => rfl) _ | (simp only [List.length_map, List.length_append, List.length_cons, List.length_nil, List.length_replicate]; done) | (simp only [room, maxLen, allOnes, oneV, List.length_map, List.length_append, List.length_cons, List.length_nil, List.length_replicate] at *; omega) | (simp only [hsL, reduceCtorEq] at * <;> omega)))))
        | (first | (with_reducible refine runR_call hcl ?_) | (simp only [hlen, hwk]))
        | (dsimp only [run, undef, zipO, runR_ok, runR_t, runR_f, gd, gd2, skipR, ex1, pickR, boxR, loadR, loadO, storeR, storeO, nilR, fieldAR, fieldR, partOf, binR, intBin, unR, boolR, kindEq, shiftOp, onlyIf, orB, convR, extR, lenR, indexSlR, indexArrR, putE, updL, keysOf, lget, lset, evT, evs, Env.get, Env.set, N8.get, N8.set, env0, cellsD, oneD, oneV, andB, allOne, lenB, mapV, dget, ddrop, dtake, splice, xget, xset, partsD, partsOk, partsE, partsEOk, repl, elemsR, elemsS, elemsO, xdrop, xtake, allOnes, appN, appOwn, appNew, appY, cellEq_i, cellEq_b, cellEq_s, consO, cmpAll, allB, negB, eqsO, eqsR, eqbR, minR, evO, bndO, keepB, snapCut, slCut, nilCut, sliceR, isS, isnilL, isnilX, isnilR, strBin, sbinR, slenR, strAtR, substrB, substrR, makeR, clearO, clearR, sliceW1, sliceW2, sliceW3, sliceWR, appWO, appWR, okByte, okBytes, b2sR, indexVR, isnilPR, chunk, sliceAR, s2bR, flat1, arrpR, exnR, mgetR, mgetK, mgetO, mputR, mputK, mputO, mlenR, mlenO, mgetLR, mgetLK, mgetLO, mgetLX, mentLR, mentLK, mentLO, mentLX, estLR, estLO, estLX, keyV, valL, s2bOR, appD, callvR, cond, condK_t, condK_f, argsE, slots0, List.length_cons, List.length_nil, Bool.true_or, Bool.false_or, Bool.or_true, Bool.or_false, bnf, bnt, Nat.add_zero, Nat.zero_add, Nat.reduceAdd, Nat.reduceMul, Int.reduceToNat, endS])
        | (with_reducible refine runR_b (fun h => ?_) (fun h => ?_) <;> first | (exfalso; (simp only [hsL, reduceCtorEq] at * <;> omega); done) | simp only [h, runR_t, runR_f])
        | (with_reducible refine condK_bl ?_ ?_)
        | (with_reducible refine condK_b (fun h => ?_) (fun h => ?_) <;> first | (exfalso; (simp only [hsL, reduceCtorEq] at * <;> omega); done) | skip)
        | (first | (simp only [Int.toNat_natCast, ex]) | (refine runR_n ⟨by trivial, by trivial, by trivial, by trivial, (htl _).symm⟩ ?_) | (refine runR_n ⟨by trivial, by unfold room maxLen; rw [htl]; simp; omega⟩ ?_) | fail))
      (all_goals first | (exfalso; (try simp only [List.length_map] at *); first | omega | (simp only [hsL, reduceCtorEq] at * <;> omega)) | skip)
      simp only [htl, hcat]
      refine nx_loop ⟨(k + 1, gn + 1 + 1, nb, gn + 3, ob), ⟨hlt, by dsimp only; omega, fun h => ho1 (by dsimp only at h; omega), fun h => ho2 (by dsimp only at h; omega)⟩, Nat.sub_lt_sub_left hlt (Nat.lt_succ_self k), ?_⟩
      refine le_mk ?_ ?_ (Nat.le_refl _)
      all_goals dsimp only [leE, leC, leR, leN, leD, leH, leO, writesX, dstsX, appS, havE, setsE, Env.get, Env.set, N8.get, N8.set, updL, lget, lset, env0]
      all_goals (repeat' (first | exact trivial | exact rfl | apply And.intro))
      cases ob <;> first | trivial | rfl
  obtain rfl : k = s.length := by omega
  have ho := ho2 hq0l
  subst ho
  repeat' (first
    | (with_reducible first | refine go_seq ?_ | refine go_region ?_ | refine go_regionD mixed_ok ?_ | refine go_cond ?_ | refine go_skip ?_ | refine go_block ?_ | refine nx_code ?_ | refine nx_block ?_ | refine go_ret ?_ | refine nx_nil ?_ | refine go_exit ?_ | refine ex_code ?_ | refine ex_loop ?_ | refine ex_here ?_)
    | ((with_reducible refine ex_past ?_ ?_); (exact by decide))
    | ((with_reducible refine endD_intro ?_ ?_); (exact by kernel_rfl))
    | ((with_reducible refine runR_n ?_ ?_); (solve | ((repeat' (first | exact trivial | exact rfl | apply And.intro)) <;> (first | exact rfl | (intro hq; cases hq; done) | decide | omega | exact keysOk_map (fun _ => rfl) _ | (simp only [List.length_map, List.length_append, List.length_cons, List.length_nil, List.length_replicate]; done) | (simp only [room, maxLen, allOnes, oneV, List.length_map, List.length_append, List.length_cons, List.length_nil, List.length_replicate] at *; omega) | (simp only [hsL, reduceCtorEq] at * <;> omega)))))
    | (simp only [hlen])
    | (dsimp only [run, undef, zipO, runR_ok, runR_t, runR_f, gd, gd2, skipR, ex1, pickR, boxR, loadR, loadO, storeR, storeO, nilR, fieldAR, fieldR, partOf, binR, intBin, unR, boolR, kindEq, shiftOp, onlyIf, orB, convR, extR, lenR, indexSlR, indexArrR, putE, updL, keysOf, lget, lset, evT, evs, Env.get, Env.set, N8.get, N8.set, env0, cellsD, oneD, oneV, andB, allOne, lenB, mapV, dget, ddrop, dtake, splice, xget, xset, partsD, partsOk, partsE, partsEOk, repl, elemsR, elemsS, elemsO, xdrop, xtake, allOnes, appN, appOwn, appNew, appY, cellEq_i, cellEq_b, cellEq_s, consO, cmpAll, allB, negB, eqsO, eqsR, eqbR, minR, evO, bndO, keepB, snapCut, slCut, nilCut, sliceR, isS, isnilL, isnilX, isnilR, strBin, sbinR, slenR, strAtR, substrB, substrR, makeR, clearO, clearR, sliceW1, sliceW2, sliceW3, sliceWR, appWO, appWR, okByte, okBytes, b2sR, indexVR, isnilPR, chunk, sliceAR, s2bR, flat1, arrpR, exnR, mgetR, mgetK, mgetO, mputR, mputK, mputO, mlenR, mlenO, mgetLR, mgetLK, mgetLO, mgetLX, mentLR, mentLK, mentLO, mentLX, estLR, estLO, estLX, keyV, valL, s2bOR, appD, callvR, cond, condK_t, condK_f, argsE, slots0, List.length_cons, List.length_nil, Bool.true_or, Bool.false_or, Bool.or_true, Bool.or_false, bnf, bnt, Nat.add_zero, Nat.zero_add, Nat.reduceAdd, Nat.reduceMul, Int.reduceToNat, endS])
    | (with_reducible refine runR_b (fun h => ?_) (fun h => ?_) <;> first | (exfalso; (simp only [hsL, reduceCtorEq] at * <;> omega); done) | simp only [h, runR_t, runR_f])
    | (with_reducible refine condK_bl ?_ ?_)
    | (with_reducible refine condK_b (fun h => ?_) (fun h => ?_) <;> first | (exfalso; (simp only [hsL, reduceCtorEq] at * <;> omega); done) | skip)
    | fail)
  (all_goals first | (exfalso; (try simp only [List.length_map] at *); first | omega | (simp only [hsL, reduceCtorEq] at * <;> omega)) | skip)
  have hL : ∀ m, (ownL s q0 t0 m).take s.length = ownL s q0 t0 m := fun m => List.take_of_length_le (by unfold ownL; rw [xset_len, List.length_map]; exact Nat.le_refl _)
  simp only [hL]
  refine ret_m [0, 7] [nm, nb] trivial (by decide) rfl (fun a ha => ?_) (fun n => ?_) (fun n => ?_)
  · rcases List.mem_cons.1 ha with rfl | ha
    · exact ⟨0, _, rfl, rfl⟩
    · obtain rfl := List.mem_singleton.1 ha
      exact ⟨7, _, rfl, rfl⟩
  · exact ⟨10, n, .inl ⟨0, rfl, rfl⟩, rfl⟩
  · refine ⟨⟨.inl ⟨0, rfl, rfl⟩, rfl, renMLL_set q0 (renMLL_nf _ (nf_qu _ _)) ⟨⟨rfl, trivial⟩, ⟨rfl, trivial⟩, ⟨11, n + 1, .inl ⟨1, rfl, rfl⟩, rfl⟩, rfl⟩⟩, ⟨.inl ⟨1, rfl, rfl⟩, rfl, renMLL_nf _ (nfLL_map (fun x => by simp [nfL, nfD]))⟩, rfl⟩
def putE0 (s : List Qu) (i n : Int) : Int := if tuErr s ≠ 0 then tuErr s else if i < 0 ∨ s.length ≤ i then 7 else if okSz n = false then 1 else match s[i.toNat]? with
  | some q => if q.sz.length = 200 then 6 else 0
  | none => 0
set_option maxRecDepth 8000 in
set_option maxHeartbeats 4000000 in
theorem tput_bad (s : List Qu) (i n : Int) (c : Bool) (hl : s.length ≤ maxLen) (hz : ∀ q ∈ s, q.sz.length ≤ maxLen) (hne : ¬ putE0 s i n = 0) : Spec Try.prog 27 [.snap 3 (s.map Qu.enc) c, .v (.int .i64 i), .v (.int .i64 n)] (.tup [.v (.slice none 0 0), .v (.int .i64 (putE0 s i n))]) := by
  have h1 := tcheck_spec s c hl hz
  have h2 := size_spec n
  have hlen : (s.map Qu.enc).length = s.length := List.length_map _
  have hl' := hl
  unfold maxLen at hl'
  have ex : True := trivial
  unfold putE0 at hne ⊢
  by_cases he : tuErr s = 0
  · rw [if_neg (by simp [he])] at hne ⊢
    rw [he] at h1
    by_cases hi : i < 0 ∨ s.length ≤ i
    · rw [if_pos hi] at hne ⊢
      refine hspec_fn Try.func27 rfl ok_turns_Put okr_turns_Put rfl (by kernel_rfl) ?_
      intro Γ hW0 hN0 hL0
      have hW := hW0 rfl
      clear hW0 hN0 hL0
      unfold x_turns_Put r_turns_Put
      repeat' (first
        | (with_reducible first | refine go_seq ?_ | refine go_region ?_ | refine go_regionD mixed_ok ?_ | refine go_cond ?_ | refine go_skip ?_ | refine go_block ?_ | refine nx_code ?_ | refine nx_block ?_ | refine go_ret ?_ | refine nx_nil ?_ | refine go_exit ?_ | refine ex_code ?_ | refine ex_loop ?_ | refine ex_here ?_)
        | ((with_reducible refine ex_past ?_ ?_); (exact by decide))
        | ((with_reducible refine endD_intro ?_ ?_); (exact by kernel_rfl))
        | ((with_reducible refine runR_n ?_ ?_); (solve | ((repeat' (first | exact trivial | exact rfl | apply And.intro)) <;> (first | exact rfl | (intro hq; cases hq; done) | decide | omega | exact keysOk_map (fun _ => rfl) _ | (simp only [List.length_map, List.length_append, List.length_cons, List.length_nil, List.length_replicate]; done) | (simp only [room, maxLen, allOnes, oneV, List.length_map, List.length_append, List.length_cons, List.length_nil, List.length_replicate] at *; omega) | (simp only [hsL, reduceCtorEq] at * <;> omega)))))
        | (first | (with_reducible refine runR_call h1 ?_) | (with_reducible refine runR_call h2 ?_) | (simp only [hlen]))
        | (dsimp only [run, undef, zipO, runR_ok, runR_t, runR_f, gd, gd2, skipR, ex1, pickR, boxR, loadR, loadO, storeR, storeO, nilR, fieldAR, fieldR, partOf, binR, intBin, unR, boolR, kindEq, shiftOp, onlyIf, orB, convR, extR, lenR, indexSlR, indexArrR, putE, updL, keysOf, lget, lset, evT, evs, Env.get, Env.set, N8.get, N8.set, env0, cellsD, oneD, oneV, andB, allOne, lenB, mapV, dget, ddrop, dtake, splice, xget, xset, partsD, partsOk, partsE, partsEOk, repl, elemsR, elemsS, elemsO, xdrop, xtake, allOnes, appN, appOwn, appNew, appY, cellEq_i, cellEq_b, cellEq_s, consO, cmpAll, allB, negB, eqsO, eqsR, eqbR, minR, evO, bndO, keepB, snapCut, slCut, nilCut, sliceR, isS, isnilL, isnilX, isnilR, strBin, sbinR, slenR, strAtR, substrB, substrR, makeR, clearO, clearR, sliceW1, sliceW2, sliceW3, sliceWR, appWO, appWR, okByte, okBytes, b2sR, indexVR, isnilPR, chunk, sliceAR, s2bR, flat1, arrpR, exnR, mgetR, mgetK, mgetO, mputR, mputK, mputO, mlenR, mlenO, mgetLR, mgetLK, mgetLO, mgetLX, mentLR, mentLK, mentLO, mentLX, estLR, estLO, estLX, keyV, valL, s2bOR, appD, callvR, cond, condK_t, condK_f, argsE, slots0, List.length_cons, List.length_nil, Bool.true_or, Bool.false_or, Bool.or_true, Bool.or_false, bnf, bnt, Nat.add_zero, Nat.zero_add, Nat.reduceAdd, Nat.reduceMul, Int.reduceToNat, endS])
        | (with_reducible refine runR_b (fun h => ?_) (fun h => ?_) <;> first | (exfalso; (simp only [hsL, reduceCtorEq] at * <;> omega); done) | simp only [h, runR_t, runR_f])
        | (with_reducible refine condK_bl ?_ ?_)
        | (with_reducible refine condK_b (fun h => ?_) (fun h => ?_) <;> first | (exfalso; (simp only [hsL, reduceCtorEq] at * <;> omega); done) | skip)
        | (first | (simp only [Int.toNat_natCast, ex]) | fail))
      (all_goals first | (exfalso; (try simp only [List.length_map] at *); first | omega | (simp only [hsL, reduceCtorEq] at * <;> omega)) | skip)
      all_goals first
        | (exfalso; simp at h; done)
        | skip
      all_goals with_reducible refine ret_spec2 (by (try dsimp only [RetOK, resOk, resDs, resD, resV, cellV, cellO, cellP, cellOk, htake, nfD, nfL, nfLL, nfH, lget, partOf, xget, ddrop, dtake, dget, Env.get, N8.get, env0, List.length_cons, List.length_nil, Env.set, N8.set, lset, updL]); (repeat' (first | exact trivial | exact rfl | exact nfLL_map (fun x => by simp [nfL, nfD, nfD]) | decide | apply And.intro))) ?_
      all_goals (try dsimp only [RetOK, resOk, resDs, resD, resV, cellV, cellO, cellP, cellOk, htake, nfD, nfL, nfLL, nfH, lget, partOf, xget, ddrop, dtake, dget, Env.get, N8.get, env0, List.length_cons, List.length_nil, Env.set, N8.set, lset, updL])
      all_goals (try simp only [hsM] at *)
    · rw [if_neg hi] at hne ⊢
      cases hn : okSz n with
      | false =>
        rw [hn] at h2
        rw [if_pos rfl]
        refine hspec_fn Try.func27 rfl ok_turns_Put okr_turns_Put rfl (by kernel_rfl) ?_
        intro Γ hW0 hN0 hL0
        have hW := hW0 rfl
        clear hW0 hN0 hL0
        unfold x_turns_Put r_turns_Put
        repeat' (first
          | (with_reducible first | refine go_seq ?_ | refine go_region ?_ | refine go_regionD mixed_ok ?_ | refine go_cond ?_ | refine go_skip ?_ | refine go_block ?_ | refine nx_code ?_ | refine nx_block ?_ | refine go_ret ?_ | refine nx_nil ?_ | refine go_exit ?_ | refine ex_code ?_ | refine ex_loop ?_ | refine ex_here ?_)
          | ((with_reducible refine ex_past ?_ ?_); (exact by decide))
          | ((with_reducible refine endD_intro ?_ ?_); (exact by kernel_rfl))
          | ((with_reducible refine runR_n ?_ ?_); (solve | ((repeat' (first | exact trivial | exact rfl | apply And.intro)) <;> (first | exact rfl | (intro hq; cases hq; done) | decide | omega | exact keysOk_map (fun _ => rfl) _ | (simp only [List.length_map, List.length_append, List.length_cons, List.length_nil, List.length_replicate]; done) | (simp only [room, maxLen, allOnes, oneV, List.length_map, List.length_append, List.length_cons, List.length_nil, List.length_replicate] at *; omega) | (simp only [hsL, reduceCtorEq] at * <;> omega)))))
          | (first | (with_reducible refine runR_call h1 ?_) | (with_reducible refine runR_call h2 ?_) | (simp only [hlen]))
          | (dsimp only [run, undef, zipO, runR_ok, runR_t, runR_f, gd, gd2, skipR, ex1, pickR, boxR, loadR, loadO, storeR, storeO, nilR, fieldAR, fieldR, partOf, binR, intBin, unR, boolR, kindEq, shiftOp, onlyIf, orB, convR, extR, lenR, indexSlR, indexArrR, putE, updL, keysOf, lget, lset, evT, evs, Env.get, Env.set, N8.get, N8.set, env0, cellsD, oneD, oneV, andB, allOne, lenB, mapV, dget, ddrop, dtake, splice, xget, xset, partsD, partsOk, partsE, partsEOk, repl, elemsR, elemsS, elemsO, xdrop, xtake, allOnes, appN, appOwn, appNew, appY, cellEq_i, cellEq_b, cellEq_s, consO, cmpAll, allB, negB, eqsO, eqsR, eqbR, minR, evO, bndO, keepB, snapCut, slCut, nilCut, sliceR, isS, isnilL, isnilX, isnilR, strBin, sbinR, slenR, strAtR, substrB, substrR, makeR, clearO, clearR, sliceW1, sliceW2, sliceW3, sliceWR, appWO, appWR, okByte, okBytes, b2sR, indexVR, isnilPR, chunk, sliceAR, s2bR, flat1, arrpR, exnR, mgetR, mgetK, mgetO, mputR, mputK, mputO, mlenR, mlenO, mgetLR, mgetLK, mgetLO, mgetLX, mentLR, mentLK, mentLO, mentLX, estLR, estLO, estLX, keyV, valL, s2bOR, appD, callvR, cond, condK_t, condK_f, argsE, slots0, List.length_cons, List.length_nil, Bool.true_or, Bool.false_or, Bool.or_true, Bool.or_false, bnf, bnt, Nat.add_zero, Nat.zero_add, Nat.reduceAdd, Nat.reduceMul, Int.reduceToNat, endS])
          | (with_reducible refine runR_b (fun h => ?_) (fun h => ?_) <;> first | (exfalso; (simp only [hsL, reduceCtorEq] at * <;> omega); done) | simp only [h, runR_t, runR_f])
          | (with_reducible refine condK_bl ?_ ?_)
          | (with_reducible refine condK_b (fun h => ?_) (fun h => ?_) <;> first | (exfalso; (simp only [hsL, reduceCtorEq] at * <;> omega); done) | skip)
          | (first | (simp only [Int.toNat_natCast, ex]) | fail))
        (all_goals first | (exfalso; (try simp only [List.length_map] at *); first | omega | (simp only [hsL, reduceCtorEq] at * <;> omega)) | skip)
        all_goals first
          | (exfalso; simp at h; done)
          | skip
        all_goals with_reducible refine ret_spec2 (by (try dsimp only [RetOK, resOk, resDs, resD, resV, cellV, cellO, cellP, cellOk, htake, nfD, nfL, nfLL, nfH, lget, partOf, xget, ddrop, dtake, dget, Env.get, N8.get, env0, List.length_cons, List.length_nil, Env.set, N8.set, lset, updL]); (repeat' (first | exact trivial | exact rfl | exact nfLL_map (fun x => by simp [nfL, nfD, nfD]) | decide | apply And.intro))) ?_
        all_goals (try dsimp only [RetOK, resOk, resDs, resD, resV, cellV, cellO, cellP, cellOk, htake, nfD, nfL, nfLL, nfH, lget, partOf, xget, ddrop, dtake, dget, Env.get, N8.get, env0, List.length_cons, List.length_nil, Env.set, N8.set, lset, updL])
        all_goals (try simp only [hsM] at *)
      | true =>
        rw [hn] at h2 hne
        rw [if_neg (by decide)] at hne
        rw [if_neg (by decide)]
        obtain ⟨k, rfl⟩ : ∃ k : Nat, i = (k : Int) := ⟨i.toNat, by omega⟩
        rw [Int.toNat_natCast] at hne ⊢
        obtain ⟨q, hq⟩ : ∃ q, s[k]? = some q := ⟨_, List.getElem?_eq_getElem (by omega)⟩
        rw [hq] at hne ⊢
        dsimp only at hne ⊢
        by_cases h200 : q.sz.length = 200
        · rw [if_pos h200]
          clear ex
          have ex := xget_qu hq
          have hzl : (q.sz.map encI).length = 200 := by rw [List.length_map, h200]
          refine hspec_fn Try.func27 rfl ok_turns_Put okr_turns_Put rfl (by kernel_rfl) ?_
          intro Γ hW0 hN0 hL0
          have hW := hW0 rfl
          clear hW0 hN0 hL0
          unfold x_turns_Put r_turns_Put
          repeat' (first
            | (with_reducible first | refine go_seq ?_ | refine go_region ?_ | refine go_regionD mixed_ok ?_ | refine go_cond ?_ | refine go_skip ?_ | refine go_block ?_ | refine nx_code ?_ | refine nx_block ?_ | refine go_ret ?_ | refine nx_nil ?_ | refine go_exit ?_ | refine ex_code ?_ | refine ex_loop ?_ | refine ex_here ?_)
            | ((with_reducible refine ex_past ?_ ?_); (exact by decide))
            | ((with_reducible refine endD_intro ?_ ?_); (exact by kernel_rfl))
            | ((with_reducible refine runR_n ?_ ?_); (solve | ((repeat' (first | exact trivial | exact rfl | apply And.intro)) <;> (first | exact rfl | (intro hq; cases hq; done) | decide | omega | exact keysOk_map (fun _ => rfl) _ | (simp only [List.length_map, List.length_append, List.length_cons, List.length_nil, List.length_replicate]; done) | (simp only [room, maxLen, allOnes, oneV, List.length_map, List.length_append, List.length_cons, List.length_nil, List.length_replicate] at *; omega) | (simp only [hsL, reduceCtorEq] at * <;> omega)))))
            | (first | (with_reducible refine runR_call h1 ?_) | (with_reducible refine runR_call h2 ?_) | (simp only [hlen]))
            | (dsimp only [run, undef, zipO, runR_ok, runR_t, runR_f, gd, gd2, skipR, ex1, pickR, boxR, loadR, loadO, storeR, storeO, nilR, fieldAR, fieldR, partOf, binR, intBin, unR, boolR, kindEq, shiftOp, onlyIf, orB, convR, extR, lenR, indexSlR, indexArrR, putE, updL, keysOf, lget, lset, evT, evs, Env.get, Env.set, N8.get, N8.set, env0, cellsD, oneD, oneV, andB, allOne, lenB, mapV, dget, ddrop, dtake, splice, xget, xset, partsD, partsOk, partsE, partsEOk, repl, elemsR, elemsS, elemsO, xdrop, xtake, allOnes, appN, appOwn, appNew, appY, cellEq_i, cellEq_b, cellEq_s, consO, cmpAll, allB, negB, eqsO, eqsR, eqbR, minR, evO, bndO, keepB, snapCut, slCut, nilCut, sliceR, isS, isnilL, isnilX, isnilR, strBin, sbinR, slenR, strAtR, substrB, substrR, makeR, clearO, clearR, sliceW1, sliceW2, sliceW3, sliceWR, appWO, appWR, okByte, okBytes, b2sR, indexVR, isnilPR, chunk, sliceAR, s2bR, flat1, arrpR, exnR, mgetR, mgetK, mgetO, mputR, mputK, mputO, mlenR, mlenO, mgetLR, mgetLK, mgetLO, mgetLX, mentLR, mentLK, mentLO, mentLX, estLR, estLO, estLX, keyV, valL, s2bOR, appD, callvR, cond, condK_t, condK_f, argsE, slots0, List.length_cons, List.length_nil, Bool.true_or, Bool.false_or, Bool.or_true, Bool.or_false, bnf, bnt, Nat.add_zero, Nat.zero_add, Nat.reduceAdd, Nat.reduceMul, Int.reduceToNat, endS])
            | (with_reducible refine runR_b (fun h => ?_) (fun h => ?_) <;> first | (exfalso; (simp only [hsL, reduceCtorEq] at * <;> omega); done) | simp only [h, runR_t, runR_f])
            | (with_reducible refine condK_bl ?_ ?_)
            | (with_reducible refine condK_b (fun h => ?_) (fun h => ?_) <;> first | (exfalso; (simp only [hsL, reduceCtorEq] at * <;> omega); done) | skip)
            | (first | (simp only [Int.toNat_natCast, ex]) | fail))
          (all_goals first | (exfalso; (try simp only [List.length_map] at *); first | omega | (simp only [hsL, reduceCtorEq] at * <;> omega)) | skip)
          all_goals first
            | (exfalso; simp at h; done)
            | skip
          all_goals with_reducible refine ret_spec2 (by (try dsimp only [RetOK, resOk, resDs, resD, resV, cellV, cellO, cellP, cellOk, htake, nfD, nfL, nfLL, nfH, lget, partOf, xget, ddrop, dtake, dget, Env.get, N8.get, env0, List.length_cons, List.length_nil, Env.set, N8.set, lset, updL]); (repeat' (first | exact trivial | exact rfl | exact nfLL_map (fun x => by simp [nfL, nfD, nfD]) | decide | apply And.intro))) ?_
          all_goals (try dsimp only [RetOK, resOk, resDs, resD, resV, cellV, cellO, cellP, cellOk, htake, nfD, nfL, nfLL, nfH, lget, partOf, xget, ddrop, dtake, dget, Env.get, N8.get, env0, List.length_cons, List.length_nil, Env.set, N8.set, lset, updL])
          all_goals (try simp only [hsM] at *)
        · rw [if_neg h200] at hne
          exact absurd rfl hne
  · rw [if_pos he] at hne ⊢
    generalize tuErr s = e at *
    refine hspec_fn Try.func27 rfl ok_turns_Put okr_turns_Put rfl (by kernel_rfl) ?_
    intro Γ hW0 hN0 hL0
    have hW := hW0 rfl
    clear hW0 hN0 hL0
    unfold x_turns_Put r_turns_Put
    repeat' (first
      | (with_reducible first | refine go_seq ?_ | refine go_region ?_ | refine go_regionD mixed_ok ?_ | refine go_cond ?_ | refine go_skip ?_ | refine go_block ?_ | refine nx_code ?_ | refine nx_block ?_ | refine go_ret ?_ | refine nx_nil ?_ | refine go_exit ?_ | refine ex_code ?_ | refine ex_loop ?_ | refine ex_here ?_)
      | ((with_reducible refine ex_past ?_ ?_); (exact by decide))
      | ((with_reducible refine endD_intro ?_ ?_); (exact by kernel_rfl))
      | ((with_reducible refine runR_n ?_ ?_); (solve | ((repeat' (first | exact trivial | exact rfl | apply And.intro)) <;> (first | exact rfl | (intro hq; cases hq; done) | decide | omega | exact keysOk_map (fun _ => rfl) _ | (simp only [List.length_map, List.length_append, List.length_cons, List.length_nil, List.length_replicate]; done) | (simp only [room, maxLen, allOnes, oneV, List.length_map, List.length_append, List.length_cons, List.length_nil, List.length_replicate] at *; omega) | (simp only [hsL, reduceCtorEq] at * <;> omega)))))
      | (first | (with_reducible refine runR_call h1 ?_) | (with_reducible refine runR_call h2 ?_) | (simp only [hlen]))
      | (dsimp only [run, undef, zipO, runR_ok, runR_t, runR_f, gd, gd2, skipR, ex1, pickR, boxR, loadR, loadO, storeR, storeO, nilR, fieldAR, fieldR, partOf, binR, intBin, unR, boolR, kindEq, shiftOp, onlyIf, orB, convR, extR, lenR, indexSlR, indexArrR, putE, updL, keysOf, lget, lset, evT, evs, Env.get, Env.set, N8.get, N8.set, env0, cellsD, oneD, oneV, andB, allOne, lenB, mapV, dget, ddrop, dtake, splice, xget, xset, partsD, partsOk, partsE, partsEOk, repl, elemsR, elemsS, elemsO, xdrop, xtake, allOnes, appN, appOwn, appNew, appY, cellEq_i, cellEq_b, cellEq_s, consO, cmpAll, allB, negB, eqsO, eqsR, eqbR, minR, evO, bndO, keepB, snapCut, slCut, nilCut, sliceR, isS, isnilL, isnilX, isnilR, strBin, sbinR, slenR, strAtR, substrB, substrR, makeR, clearO, clearR, sliceW1, sliceW2, sliceW3, sliceWR, appWO, appWR, okByte, okBytes, b2sR, indexVR, isnilPR, chunk, sliceAR, s2bR, flat1, arrpR, exnR, mgetR, mgetK, mgetO, mputR, mputK, mputO, mlenR, mlenO, mgetLR, mgetLK, mgetLO, mgetLX, mentLR, mentLK, mentLO, mentLX, estLR, estLO, estLX, keyV, valL, s2bOR, appD, callvR, cond, condK_t, condK_f, argsE, slots0, List.length_cons, List.length_nil, Bool.true_or, Bool.false_or, Bool.or_true, Bool.or_false, bnf, bnt, Nat.add_zero, Nat.zero_add, Nat.reduceAdd, Nat.reduceMul, Int.reduceToNat, endS])
      | (with_reducible refine runR_b (fun h => ?_) (fun h => ?_) <;> first | (exfalso; (simp only [hsL, reduceCtorEq] at * <;> omega); done) | simp only [h, runR_t, runR_f])
      | (with_reducible refine condK_bl ?_ ?_)
      | (with_reducible refine condK_b (fun h => ?_) (fun h => ?_) <;> first | (exfalso; (simp only [hsL, reduceCtorEq] at * <;> omega); done) | skip)
      | (first | (simp only [Int.toNat_natCast, ex]) | fail))
    (all_goals first | (exfalso; (try simp only [List.length_map] at *); first | omega | (simp only [hsL, reduceCtorEq] at * <;> omega)) | skip)
    all_goals first
      | (exfalso; simp at h; done)
      | skip
    all_goals with_reducible refine ret_spec2 (by (try dsimp only [RetOK, resOk, resDs, resD, resV, cellV, cellO, cellP, cellOk, htake, nfD, nfL, nfLL, nfH, lget, partOf, xget, ddrop, dtake, dget, Env.get, N8.get, env0, List.length_cons, List.length_nil, Env.set, N8.set, lset, updL]); (repeat' (first | exact trivial | exact rfl | exact nfLL_map (fun x => by simp [nfL, nfD, nfD]) | decide | apply And.intro))) ?_
    all_goals (try dsimp only [RetOK, resOk, resDs, resD, resV, cellV, cellO, cellP, cellOk, htake, nfD, nfL, nfLL, nfH, lget, partOf, xget, ddrop, dtake, dget, Env.get, N8.get, env0, List.length_cons, List.length_nil, Env.set, N8.set, lset, updL])
    all_goals (try simp only [hsM] at *)
def putQ (n : Int) (q : Qu) : Qu := ⟨q.sh, q.sv, q.sz ++ [n]⟩
set_option maxRecDepth 8000 in
set_option maxHeartbeats 4000000 in
theorem tput_good (s : List Qu) (k : Nat) (n : Int) (c : Bool) (hl : s.length ≤ maxLen) (hz : ∀ q ∈ s, q.sz.length ≤ maxLen) {q : Qu} (hq : s[k]? = some q) (he : tuErr s = 0) (hn : okSz n = true) (h200 : ¬ q.sz.length = 200) : Spec Try.prog 27 [.snap 3 (s.map Qu.enc) c, .v (.int .i64 (k : Nat)), .v (.int .i64 n)] (.tup [.snap 3 ((s.set k (putQ n q)).map Qu.enc) false, .v (.int .i64 0)]) := by
  obtain ⟨hl16, hgood⟩ := good_of he
  have hk : k < s.length := (List.getElem?_eq_some_iff.1 hq).1
  have h1 := tcheck_spec s c hl hz
  rw [he] at h1
  have h2 := size_spec n
  rw [hn] at h2
  have h3 := ownm_spec s c hl16 (fun q hq => (hgood q hq).len) hq
  have hlen : (s.map Qu.enc).length = s.length := List.length_map _
  have hql := (hgood q (List.mem_of_getElem? hq)).len
  have hol : ∀ m, (ownL s k q m).length = s.length := fun m => by unfold ownL; rw [xset_len, List.length_map]
  have ex := xget_qu hq
  have hog : ∀ m, xget (ownL s k q m) k = encOw m q := fun m => by unfold ownL; exact xget_xset _ _ _ (by rw [List.length_map]; exact hk)
  have hos : ∀ m x, xset (ownL s k q m) k x = xset (s.map Qu.enc) k x := fun m x => by unfold ownL; exact xset_set _ _ _ _
  have hzl : (q.sz.map encI).length = q.sz.length := List.length_map _
  refine hspec_fn Try.func27 rfl ok_turns_Put okr_turns_Put rfl (by kernel_rfl) ?_
  intro Γ hW0 hN0 hL0
  have hW := hW0 rfl
  clear hW0 hN0 hL0
  unfold x_turns_Put r_turns_Put
  repeat' (first
    | (with_reducible first | refine go_seq ?_ | refine go_region ?_ | refine go_regionD mixed_ok ?_ | refine go_cond ?_ | refine go_skip ?_ | refine go_block ?_ | refine nx_code ?_ | refine nx_block ?_ | refine go_ret ?_ | refine nx_nil ?_ | refine go_exit ?_ | refine ex_code ?_ | refine ex_loop ?_ | refine ex_here ?_)
    | ((with_reducible refine ex_past ?_ ?_); (exact by decide))
    | ((with_reducible refine endD_intro ?_ ?_); (exact by kernel_rfl))
    | ((with_reducible refine runR_n ?_ ?_); (solve | ((repeat' (first | exact trivial | exact rfl | apply And.intro)) <;> (first | exact rfl | (intro hq; cases hq; done) | decide | omega | exact keysOk_map (fun _ => rfl) _ | (simp only [List.length_map, List.length_append, List.length_cons, List.length_nil, List.length_replicate]; done) | (simp only [room, maxLen, allOnes, oneV, List.length_map, List.length_append, List.length_cons, List.length_nil, List.length_replicate] at *; omega) | (simp only [hsL, reduceCtorEq] at * <;> omega)))))
    | (first | (with_reducible refine runR_call h1 ?_) | (with_reducible refine runR_call h2 ?_) | (simp only [hlen, hzl]) | (refine runR_callM [10, 11] (by decide) rfl h3 ?_))
    | (dsimp only [run, undef, zipO, runR_ok, runR_t, runR_f, gd, gd2, skipR, ex1, pickR, boxR, loadR, loadO, storeR, storeO, nilR, fieldAR, fieldR, partOf, binR, intBin, unR, boolR, kindEq, shiftOp, onlyIf, orB, convR, extR, lenR, indexSlR, indexArrR, putE, updL, keysOf, lget, lset, evT, evs, Env.get, Env.set, N8.get, N8.set, env0, cellsD, oneD, oneV, andB, allOne, lenB, mapV, dget, ddrop, dtake, splice, xget, xset, partsD, partsOk, partsE, partsEOk, repl, elemsR, elemsS, elemsO, xdrop, xtake, allOnes, appN, appOwn, appNew, appY, cellEq_i, cellEq_b, cellEq_s, consO, cmpAll, allB, negB, eqsO, eqsR, eqbR, minR, evO, bndO, keepB, snapCut, slCut, nilCut, sliceR, isS, isnilL, isnilX, isnilR, strBin, sbinR, slenR, strAtR, substrB, substrR, makeR, clearO, clearR, sliceW1, sliceW2, sliceW3, sliceWR, appWO, appWR, okByte, okBytes, b2sR, indexVR, isnilPR, chunk, sliceAR, s2bR, flat1, arrpR, exnR, mgetR, mgetK, mgetO, mputR, mputK, mputO, mlenR, mlenO, mgetLR, mgetLK, mgetLO, mgetLX, mentLR, mentLK, mentLO, mentLX, estLR, estLO, estLX, keyV, valL, s2bOR, appD, callvR, cond, condK_t, condK_f, argsE, slots0, List.length_cons, List.length_nil, Bool.true_or, Bool.false_or, Bool.or_true, Bool.or_false, bnf, bnt, Nat.add_zero, Nat.zero_add, Nat.reduceAdd, Nat.reduceMul, Int.reduceToNat, endS])
    | (with_reducible refine runR_b (fun h => ?_) (fun h => ?_) <;> first | (exfalso; (simp only [hsL, reduceCtorEq] at * <;> omega); done) | simp only [h, runR_t, runR_f])
    | (with_reducible refine condK_bl ?_ ?_)
    | (with_reducible refine condK_b (fun h => ?_) (fun h => ?_) <;> first | (exfalso; (simp only [hsL, reduceCtorEq] at * <;> omega); done) | skip)
    | (first | (simp only [Int.toNat_natCast, Nat.zero_add, ex, hog, hos]) | (refine runR_n ⟨by rw [hol]; omega, by decide⟩ ?_) | (refine runR_n ⟨by rw [hol]; omega, by trivial⟩ ?_) | (refine runR_n ⟨by trivial, by unfold room maxLen; simp; omega⟩ ?_) | fail))
  (all_goals first | (exfalso; (try simp only [List.length_map] at *); first | omega | (simp only [hsL, reduceCtorEq] at * <;> omega)) | skip)
  all_goals first
    | (exfalso; simp at h; done)
    | skip
  have hcat : q.sz.map encI ++ [[.v (.int .i64 n)]] = (q.sz ++ [n]).map encI := by simp
  simp only [hcat]
  refine retq_le (leG_freezeO hW 10 1 (by decide) (ys := xset (s.map Qu.enc) k (putQ n q).enc) rfl rfl (frzLL_set k (frzLL_refl _ _) ⟨rfl, rfl, .inl ⟨rfl, rfl, by simp, by rw [xall (by simp)]; rfl⟩, rfl⟩)) ?_
  refine retq_le (leG_freeze hW ⟨.d0, .d0, .d6⟩ rfl rfl ⟨rfl, rfl, by rw [xset_len]; simp⟩) ?_
  rw [xset_map, xall (by simp)]
  have hnf1 := nf_qu Γ.g0 (s.set k (putQ n q))
  have nfi : ∀ l : List Int, nfLL Γ.g0 (l.map encI) := fun l => nfLL_map (fun x => by simp [nfL, nfD])
  all_goals with_reducible refine ret_spec2 (by (try dsimp only [RetOK, resOk, resDs, resD, resV, cellV, cellO, cellP, cellOk, htake, nfD, nfL, nfLL, nfH, lget, partOf, xget, ddrop, dtake, dget, Env.get, N8.get, env0, List.length_cons, List.length_nil, Env.set, N8.set, lset, updL]); (repeat' (first | exact trivial | exact rfl | exact nfLL_map (fun x => by simp [nfL, nfD, nfD, nfL, nfi]) | decide | apply And.intro))) ?_
  all_goals (try dsimp only [RetOK, resOk, resDs, resD, resV, cellV, cellO, cellP, cellOk, htake, nfD, nfL, nfLL, nfH, lget, partOf, xget, ddrop, dtake, dget, Env.get, N8.get, env0, List.length_cons, List.length_nil, Env.set, N8.set, lset, updL])
  all_goals (try simp only [hsM] at *)
end Go.Proofs.Ytkpechddgjbfkaa
