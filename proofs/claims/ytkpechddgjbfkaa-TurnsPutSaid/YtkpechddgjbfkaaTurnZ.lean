/-
  Turns of queues: a round, plain; the library's functions over rows of sizes.
-/
import Derived.Test.YtkpechddgjbfkaaTurnY
namespace Go.Proofs.Ytkpechddgjbfkaa
set_option linter.unusedVariables false
set_option linter.unusedSimpArgs false
/-! Plain. -/
def sumI (l : List Int) : Int := l.foldl (· + ·) 0
theorem sumI_snoc (l : List Int) (x : Int) : sumI (l ++ [x]) = sumI l + x := by unfold sumI; rw [List.foldl_append]; rfl
def fitN (r : Int) : List Int → Nat
  | [] => 0
  | x :: t => if x ≤ r then fitN (r - x) t + 1 else 0
theorem fitN_le : ∀ (l : List Int) (r : Int), fitN r l ≤ l.length
  | [], r => Nat.le_refl _
  | x :: t, r => by
    have := fitN_le t (r - x)
    unfold fitN
    split
    · simp; exact this
    · exact Nat.zero_le _
def roomQ (q : Qu) : Int := q.sv + q.sh
def nQ (q : Qu) : Nat := fitN (roomQ q) q.sz
def rndQ (q : Qu) : Qu := ⟨q.sh, if nQ q < q.sz.length then roomQ q - sumI (q.sz.take (nQ q)) else 0, q.sz.drop (nQ q)⟩
def sentQ (i : Nat) (q : Qu) : List (Int × Int) := (q.sz.take (nQ q)).map (fun x => ((i : Int), x))
def sentL : Nat → List Qu → List (Int × Int)
  | _, [] => []
  | i, q :: r => sentQ i q ++ sentL (i + 1) r
theorem sentL_snoc (q : Qu) : ∀ (l : List Qu) (i : Nat), sentL i (l ++ [q]) = sentL i l ++ sentQ (i + l.length) q
  | [], i => by simp [sentL]
  | y :: r, i => by
    rw [List.cons_append, sentL, sentL_snoc q r (i + 1), sentL, List.append_assoc, List.length_cons, show i + 1 + r.length = i + (r.length + 1) by omega]
theorem sentL_take {s : List Qu} {k : Nat} {q : Qu} (h : s[k]? = some q) : sentL 0 (s.take (k + 1)) = sentL 0 (s.take k) ++ sentQ k q := by
  have hk : k < s.length := (List.getElem?_eq_some_iff.1 h).1
  rw [List.take_add_one, h]
  show sentL 0 (s.take k ++ [q]) = _
  rw [sentL_snoc, Nat.zero_add, List.length_take, Nat.min_eq_left (by omega)]
def mixN (f : Qu → Qu) (s : List Qu) (k : Nat) : List Qu := (s.take k).map f ++ s.drop k
theorem mix_get {f : Qu → Qu} {s : List Qu} {k : Nat} {q : Qu} (h : s[k]? = some q) : (mixN f s k)[k]? = some q := by
  have hk : k < s.length := (List.getElem?_eq_some_iff.1 h).1
  unfold mixN
  have hl : ((s.take k).map f).length = k := by simp; omega
  rw [List.getElem?_append_right (by omega), hl, Nat.sub_self, List.getElem?_drop, Nat.add_zero, h]
theorem mix_set {f : Qu → Qu} {s : List Qu} {k : Nat} {q : Qu} (h : s[k]? = some q) : (mixN f s k).set k (f q) = mixN f s (k + 1) := by
  have hk : k < s.length := (List.getElem?_eq_some_iff.1 h).1
  unfold mixN
  have hl : ((s.take k).map f).length = k := by simp; omega
  rw [List.set_append_right _ _ (by omega), hl, Nat.sub_self, List.drop_eq_getElem_cons hk, List.set_cons_zero, List.take_add_one, h, List.map_append]
  simp
theorem mix_len (f : Qu → Qu) (s : List Qu) (k : Nat) (hk : k ≤ s.length) : (mixN f s k).length = s.length := by unfold mixN; simp; omega
theorem xset_qu (l : List Qu) (i : Nat) (a b : Int) (z : List Int) : xset (l.map Qu.enc) i [.v (.int .i64 a), .v (.int .i64 b), .snap 1 (z.map encI) false] = (l.set i ⟨a, b, z⟩).map Qu.enc := by
  induction l generalizing i with
  | nil => cases i <;> rfl
  | cons y r ih =>
    cases i with
    | zero => rfl
    | succ i =>
      have := ih i
      simp only [List.map_cons, List.set_cons_succ, xset] at this ⊢
      rw [this]
theorem cut_from (l : List Int) (n : Nat) (hn : n ≤ l.length) : xtake (xdrop (l.map encI) n) (l.length - n) = (l.drop n).map encI := by
  rw [xtake_eq, xdrop_eq, ← List.map_drop, List.take_of_length_le (by simp)]
structure GoodQ (q : Qu) : Prop where
  sh : 1 ≤ q.sh ∧ q.sh ≤ 1000000
  sz : ∀ x ∈ q.sz, 1 ≤ x ∧ x ≤ 1000000
  sv : 0 ≤ q.sv ∧ q.sv < limQ q
  len : q.sz.length ≤ 200
theorem good_of {s : List Qu} (h : tuErr s = 0) : s.length ≤ 16 ∧ ∀ q ∈ s, GoodQ q := by
  unfold tuErr at h
  cases h1 : (decide (16 < s.length) || s.any lgQ) with
  | true => rw [h1] at h; simp at h
  | false =>
    cases h2 : s.any bdQ with
    | true => rw [h1, h2] at h; simp at h
    | false =>
      cases h3 : s.any fmQ with
      | true => rw [h1, h2, h3] at h; simp at h
      | false =>
        rw [Bool.or_eq_false_iff, decide_eq_false_iff_not] at h1
        refine ⟨by omega, fun q hq => ?_⟩
        have a1 := List.any_eq_false.1 h1.2 q hq
        have a2 := List.any_eq_false.1 h2 q hq
        have a3 := List.any_eq_false.1 h3 q hq
        unfold lgQ at a1
        unfold bdQ at a2
        unfold fmQ at a3
        simp only [Bool.not_eq_true, Bool.or_eq_false_iff, Bool.not_eq_false', decide_eq_false_iff_not] at a1 a2 a3
        have a4 := List.any_eq_false.1 a2.2
        refine ⟨?_, fun x hx => ?_, by omega, by omega⟩
        · have := a2.1
          unfold okSz at this
          exact of_decide_eq_true this
        · have := a4 x hx
          unfold okSz at this
          simpa using this
theorem lim_le {q : Qu} (h : GoodQ q) : limQ q ≤ 1000000 := by
  unfold limQ
  split
  · decide
  · rename_i x t e
    exact (h.sz x (by rw [e]; simp)).2
theorem room_bd {q : Qu} (h : GoodQ q) : 1 ≤ roomQ q ∧ roomQ q ≤ 2000000 := by
  have := lim_le h
  have := h.sh
  have := h.sv
  unfold roomQ
  omega
/-- The fit, step by step. -/
theorem fit_step {r : Int} {l : List Int} {n : Nat} {x : Int} (hx : l[n]? = some x) (h : fitN r l = n + fitN (r - sumI (l.take n)) (l.drop n)) :
    (x ≤ r - sumI (l.take n) → fitN r l = n + 1 + fitN (r - sumI (l.take (n + 1))) (l.drop (n + 1))) ∧ (¬ x ≤ r - sumI (l.take n) → fitN r l = n) := by
  have hn : n < l.length := (List.getElem?_eq_some_iff.1 hx).1
  have e : l.drop n = x :: l.drop (n + 1) := by
    rw [List.drop_eq_getElem_cons hn, show l[n] = x from Option.some.inj ((List.getElem?_eq_getElem hn).symm.trans hx)]
  have et : l.take (n + 1) = l.take n ++ [x] := by rw [List.take_add_one, hx]; rfl
  rw [e, fitN] at h
  refine ⟨fun hle => ?_, fun hle => ?_⟩
  · rw [if_pos hle] at h
    rw [h, et, sumI_snoc, Int.sub_sub]
    omega
  · rw [if_neg hle] at h
    exact h
theorem nf_qu (g : Nat) (l : List Qu) : nfLL g (l.map Qu.enc) := nfLL_map (fun q => ⟨trivial, trivial, (nfLL_map (fun x => by simp [nfL, nfD]) : nfLL g (q.sz.map encI)), trivial⟩)
/-! Rows of sizes. -/
set_option maxHeartbeats 1000000 in
theorem clonei_spec (l : List Int) (c : Bool) (hl : l.length ≤ 1000) : Spec Try.prog 29 [.snap 1 (l.map encI) c] (.snap 1 (l.map encI) false) := by
  have hones : ∀ r : List Int, allOnes (r.map encI) = true := allOnes_map (fun x => rfl)
  have hnf : ∀ g, nfLL g (l.map encI) := fun g => nfLL_map (fun x => by simp [nfL, nfD])
  cases l with
  | nil =>
    refine hspec_fn Try.func29 rfl ok_slices_Clone_int okr_slices_Clone_int rfl (by kernel_rfl) ?_
    intro Γ hW0 hN0 hL0
    have hW := hW0 rfl
    clear hW0 hN0 hL0
    unfold x_slices_Clone_int r_slices_Clone_int
    dsimp only [List.map]
    repeat' (first
      | (with_reducible first | refine go_seq ?_ | refine go_region ?_ | refine go_regionD mixed_ok ?_ | refine go_cond ?_ | refine go_skip ?_ | refine go_block ?_ | refine nx_code ?_ | refine nx_block ?_ | refine go_ret ?_ | refine nx_nil ?_ | refine go_exit ?_ | refine ex_code ?_ | refine ex_loop ?_ | refine ex_here ?_)
      | ((with_reducible refine ex_past ?_ ?_); (exact by decide))
      | ((with_reducible refine endD_intro ?_ ?_); (exact by kernel_rfl))
      | ((with_reducible refine runR_n ?_ ?_); (solve | ((repeat' (first | exact trivial | exact rfl | apply And.intro)) <;> (first | exact rfl | (intro hq; cases hq; done) | decide | omega | exact keysOk_map (fun _ => rfl) _ | (simp only [List.length_map, List.length_append, List.length_cons, List.length_nil, List.length_replicate]; done) | (simp only [room, maxLen, allOnes, oneV, List.length_map, List.length_append, List.length_cons, List.length_nil, List.length_replicate] at *; omega) | (simp only [hsL, reduceCtorEq] at * <;> omega)))))
      | (with_reducible refine runR_l ?_)
      | (dsimp only [run, undef, runR_ok, runR_t, runR_f, gd, gd2, skipR, ex1, pickR, boxR, loadR, loadO, storeR, storeO, nilR, fieldAR, fieldR, partOf, binR, intBin, unR, boolR, kindEq, shiftOp, onlyIf, orB, convR, extR, lenR, indexSlR, indexArrR, putE, updL, keysOf, lget, lset, evT, evs, Env.get, Env.set, N8.get, N8.set, env0, cellsD, oneD, oneV, andB, allOne, lenB, mapV, dget, ddrop, dtake, splice, xget, xset, partsD, partsOk, partsE, partsEOk, repl, elemsR, elemsS, elemsO, xdrop, xtake, allOnes, appN, appOwn, appNew, appY, cellEq_i, cellEq_b, cellEq_s, consO, cmpAll, allB, negB, eqsO, eqsR, eqbR, minR, evO, bndO, keepB, snapCut, slCut, nilCut, sliceR, isS, isnilL, isnilX, isnilR, strBin, sbinR, slenR, strAtR, substrB, substrR, makeR, clearO, clearR, sliceW1, sliceW2, sliceW3, sliceWR, appWO, appWR, okByte, okBytes, b2sR, indexVR, isnilPR, chunk, sliceAR, s2bR, flat1, arrpR, exnR, mgetR, mgetK, mgetO, mputR, mputK, mputO, mlenR, mlenO, mgetLR, mgetLK, mgetLO, mgetLX, mentLR, mentLK, mentLO, mentLX, estLR, estLO, estLX, keyV, valL, s2bOR, appD, callvR, cond, condK_t, condK_f, argsE, slots0, List.length_cons, List.length_nil, Bool.true_or, Bool.false_or, Bool.or_true, Bool.or_false, bnf, bnt, Nat.add_zero, Nat.zero_add, Nat.reduceAdd, Nat.reduceMul, Int.reduceToNat, endS])
      | (with_reducible refine runR_b (fun h => ?_) (fun h => ?_) <;> first | (exfalso; (simp only [hsL, reduceCtorEq] at * <;> omega); done) | simp only [h, runR_t, runR_f])
      | (with_reducible refine condK_bl ?_ ?_)
      | (with_reducible refine condK_b (fun h => ?_) (fun h => ?_) <;> first | (exfalso; (simp only [hsL, reduceCtorEq] at * <;> omega); done) | skip)
      | fail)
    · refine retq_le (le_leG (le_row ⟨.d0, .d0, .d2⟩ 1 1 rfl rfl)) (retq_le (leG_freeze hW ⟨.d0, .d0, .d2⟩ rfl rfl ⟨rfl, rfl, by exact Nat.le_refl _⟩) ?_)
      dsimp only [xtake, xdrop]
      all_goals with_reducible refine ret_spec2 (by (try dsimp only [RetOK, resOk, resDs, resD, resV, cellV, cellO, cellP, cellOk, htake, nfD, nfL, nfLL, nfH, lget, partOf, xget, ddrop, dtake, dget, Env.get, N8.get, env0, List.length_cons, List.length_nil, Env.set, N8.set, lset, updL]); (repeat' (first | exact trivial | exact rfl | exact nfLL_map (fun x => by simp [nfL, nfD, nfD, nfL]) | decide | apply And.intro))) ?_
      all_goals (try dsimp only [RetOK, resOk, resDs, resD, resV, cellV, cellO, cellP, cellOk, htake, nfD, nfL, nfLL, nfH, lget, partOf, xget, ddrop, dtake, dget, Env.get, N8.get, env0, List.length_cons, List.length_nil, Env.set, N8.set, lset, updL])
      all_goals (try simp only [hsM] at *)
    · refine retq_le (leG_freeze hW ⟨.d0, .d0, .d2⟩ rfl rfl ⟨rfl, rfl, by exact Nat.le_refl _⟩) ?_
      rw [show xtake (xdrop (([] : List (List DV)) ++ []) 0) 0 = [] from rfl]
      all_goals with_reducible refine ret_spec2 (by (try dsimp only [RetOK, resOk, resDs, resD, resV, cellV, cellO, cellP, cellOk, htake, nfD, nfL, nfLL, nfH, lget, partOf, xget, ddrop, dtake, dget, Env.get, N8.get, env0, List.length_cons, List.length_nil, Env.set, N8.set, lset, updL]); (repeat' (first | exact trivial | exact rfl | exact nfLL_map (fun x => by simp [nfL, nfD, nfD, nfL]) | decide | apply And.intro))) ?_
      all_goals (try dsimp only [RetOK, resOk, resDs, resD, resV, cellV, cellO, cellP, cellOk, htake, nfD, nfL, nfLL, nfH, lget, partOf, xget, ddrop, dtake, dget, Env.get, N8.get, env0, List.length_cons, List.length_nil, Env.set, N8.set, lset, updL])
      all_goals (try simp only [hsM] at *)
  | cons x r =>
    have hnf' := fun g => hnf g
    refine hspec_fn Try.func29 rfl ok_slices_Clone_int okr_slices_Clone_int rfl (by kernel_rfl) ?_
    intro Γ hW0 hN0 hL0
    have hW := hW0 rfl
    clear hW0 hN0 hL0
    unfold x_slices_Clone_int r_slices_Clone_int
    dsimp only [List.map]
    repeat' (first
      | (with_reducible first | refine go_seq ?_ | refine go_region ?_ | refine go_regionD mixed_ok ?_ | refine go_cond ?_ | refine go_skip ?_ | refine go_block ?_ | refine nx_code ?_ | refine nx_block ?_ | refine go_ret ?_ | refine nx_nil ?_ | refine go_exit ?_ | refine ex_code ?_ | refine ex_loop ?_ | refine ex_here ?_)
      | ((with_reducible refine ex_past ?_ ?_); (exact by decide))
      | ((with_reducible refine endD_intro ?_ ?_); (exact by kernel_rfl))
      | ((with_reducible refine runR_n ?_ ?_); (solve | ((repeat' (first | exact trivial | exact rfl | apply And.intro)) <;> (first | exact rfl | (intro hq; cases hq; done) | decide | omega | exact keysOk_map (fun _ => rfl) _ | (simp only [List.length_map, List.length_append, List.length_cons, List.length_nil, List.length_replicate]; done) | (simp only [room, maxLen, allOnes, oneV, List.length_map, List.length_append, List.length_cons, List.length_nil, List.length_replicate] at *; omega) | (simp only [hsL, reduceCtorEq] at * <;> omega)))))
      | (with_reducible refine runR_l ?_)
      | (dsimp only [run, undef, runR_ok, runR_t, runR_f, gd, gd2, skipR, ex1, pickR, boxR, loadR, loadO, storeR, storeO, nilR, fieldAR, fieldR, partOf, binR, intBin, unR, boolR, kindEq, shiftOp, onlyIf, orB, convR, extR, lenR, indexSlR, indexArrR, putE, updL, keysOf, lget, lset, evT, evs, Env.get, Env.set, N8.get, N8.set, env0, cellsD, oneD, oneV, andB, allOne, lenB, mapV, dget, ddrop, dtake, splice, xget, xset, partsD, partsOk, partsE, partsEOk, repl, elemsR, elemsS, elemsO, xdrop, xtake, allOnes, appN, appOwn, appNew, appY, cellEq_i, cellEq_b, cellEq_s, consO, cmpAll, allB, negB, eqsO, eqsR, eqbR, minR, evO, bndO, keepB, snapCut, slCut, nilCut, sliceR, isS, isnilL, isnilX, isnilR, strBin, sbinR, slenR, strAtR, substrB, substrR, makeR, clearO, clearR, sliceW1, sliceW2, sliceW3, sliceWR, appWO, appWR, okByte, okBytes, b2sR, indexVR, isnilPR, chunk, sliceAR, s2bR, flat1, arrpR, exnR, mgetR, mgetK, mgetO, mputR, mputK, mputO, mlenR, mlenO, mgetLR, mgetLK, mgetLO, mgetLX, mentLR, mentLK, mentLO, mentLX, estLR, estLO, estLX, keyV, valL, s2bOR, appD, callvR, cond, condK_t, condK_f, argsE, slots0, List.length_cons, List.length_nil, Bool.true_or, Bool.false_or, Bool.or_true, Bool.or_false, bnf, bnt, Nat.add_zero, Nat.zero_add, Nat.reduceAdd, Nat.reduceMul, Int.reduceToNat, endS])
      | (with_reducible refine runR_b (fun h => ?_) (fun h => ?_) <;> first | (exfalso; (simp only [hsL, reduceCtorEq] at * <;> omega); done) | simp only [h, runR_t, runR_f])
      | (with_reducible refine condK_bl ?_ ?_)
      | (with_reducible refine condK_b (fun h => ?_) (fun h => ?_) <;> first | (exfalso; (simp only [hsL, reduceCtorEq] at * <;> omega); done) | skip)
      | (refine runR_n ⟨Or.inl (by omega), rfl, hones _, by simp only [room, maxLen, List.length_map, List.length_cons] at hl ⊢; omega⟩ ?_))
    refine retq_le (leG_freeze hW ⟨.d0, .d0, .d2⟩ rfl rfl ⟨rfl, rfl, by simp⟩) ?_
    rw [show xtake (xdrop ([] ++ encI x :: r.map encI) 0) (0 + ((r.map encI).length + 1)) = (x :: r).map encI from xall (by simp)]
    have hnf1 := hnf Γ.g0
    all_goals with_reducible refine ret_spec2 (by (try dsimp only [RetOK, resOk, resDs, resD, resV, cellV, cellO, cellP, cellOk, htake, nfD, nfL, nfLL, nfH, lget, partOf, xget, ddrop, dtake, dget, Env.get, N8.get, env0, List.length_cons, List.length_nil, Env.set, N8.set, lset, updL]); (repeat' (first | exact trivial | exact rfl | exact nfLL_map (fun x => by simp [nfL, nfD, nfD, nfL]) | decide | apply And.intro))) ?_
    all_goals (try dsimp only [RetOK, resOk, resDs, resD, resV, cellV, cellO, cellP, cellOk, htake, nfD, nfL, nfLL, nfH, lget, partOf, xget, ddrop, dtake, dget, Env.get, N8.get, env0, List.length_cons, List.length_nil, Env.set, N8.set, lset, updL])
    all_goals (try simp only [hsM] at *)
    all_goals rfl
end Go.Proofs.Ytkpechddgjbfkaa
