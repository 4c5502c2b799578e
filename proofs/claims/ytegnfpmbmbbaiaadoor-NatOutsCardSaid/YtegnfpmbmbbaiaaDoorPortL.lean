/-
  Ports that are let: the lowest bit, and which port is let, in the program and in the reference.
-/
import Derived.Test.YtegnfpmbmbbaiaaDoorPortX
namespace Go.Proofs.YtegnfpmbmbbaiaaDoor
set_option linter.unusedVariables false
set_option linter.unusedSimpArgs false
/-! Plain. -/
def IsLow (x k : Nat) : Prop := x.testBit k = true ∧ ∀ j, j < k → x.testBit j = false
theorem low_odd {x k : Nat} (h : IsLow x k) : ∃ m, x = 2 ^ k * (2 * m + 1) := by
  have h0 : x % 2 ^ k = 0 := by
    refine Nat.eq_of_testBit_eq fun i => ?_
    rw [Nat.testBit_mod_two_pow, Nat.zero_testBit]
    by_cases hi : i < k
    · rw [h.2 i hi, Bool.and_false]
    · rw [decide_eq_false hi, Bool.false_and]
  have h1 : x / 2 ^ k % 2 = 1 := by
    have := h.1
    rw [Nat.testBit_eq_decide_div_mod_eq] at this
    exact of_decide_eq_true this
  refine ⟨x / 2 ^ k / 2, ?_⟩
  have h2 := Nat.div_add_mod x (2 ^ k)
  have h3 : x / 2 ^ k = 2 * (x / 2 ^ k / 2) + 1 := by omega
  rw [← h3]
  omega
theorem low_lt {x k : Nat} (hx : x < 18446744073709551616) (h : IsLow x k) : k < 64 := by
  obtain ⟨m, rfl⟩ := low_odd h
  rcases Nat.lt_or_ge k 64 with hk | hk
  · exact hk
  · have h1 : 2 ^ 64 ≤ 2 ^ k := Nat.pow_le_pow_right (by decide) hk
    have h2 : 2 ^ k * 1 ≤ 2 ^ k * (2 * m + 1) := Nat.mul_le_mul_left _ (by omega)
    omega
theorem low_and {x k : Nat} (hx : x < 18446744073709551616) (h : IsLow x k) : x &&& (18446744073709551616 - x) = 2 ^ k := by
  have hk := low_lt hx h
  obtain ⟨m, e⟩ := low_odd h
  have hp : 0 < 2 ^ k := Nat.two_pow_pos k
  have hx0 : 0 < x := by rw [e]; exact Nat.mul_pos hp (by omega)
  have e1 : 18446744073709551616 - x = 2 ^ 64 - ((x - 1) + 1) := by rw [Nat.sub_add_cancel hx0]
  have e2 : x - 1 = 2 ^ k * (2 * m) + (2 ^ k - 1) := by
    rw [e, Nat.mul_add, Nat.mul_one]
    omega
  refine Nat.eq_of_testBit_eq fun i => ?_
  rw [Nat.testBit_and, e1, Nat.testBit_two_pow_sub_succ (by omega : x - 1 < 2 ^ 64), e2, Nat.testBit_two_pow_mul_add _ (by omega), Nat.testBit_two_pow]
  by_cases hi : i < k
  · rw [h.2 i hi, Bool.false_and, decide_eq_false (by omega)]
  · rw [if_neg hi]
    by_cases hik : i = k
    · subst hik
      rw [h.1, Nat.sub_self, decide_eq_true hk]
      simp
    · have h1 : x.testBit i = (2 * m + 1).testBit (i - k) := by
        have := Nat.testBit_two_pow_mul_add (2 * m + 1) (b := 0) hp i
        rw [Nat.add_zero, ← e, if_neg hi] at this
        exact this
      obtain ⟨s, hs⟩ : ∃ s, i - k = s + 1 := ⟨i - k - 1, by omega⟩
      rw [h1, hs, Nat.testBit_succ, Nat.testBit_succ, show (2 * m + 1) / 2 = m by omega, show 2 * m / 2 = m by omega, show decide (k = i) = false from decide_eq_false (fun q => hik q.symm)]
      cases m.testBit s <;> simp
theorem add_bit {t k : Nat} (h : t.testBit k = false) : t + 2 ^ k = t ||| 2 ^ k := by
  have h1 : ¬ t / 2 ^ k % 2 = 1 := by
    rw [Nat.testBit_eq_decide_div_mod_eq] at h
    exact of_decide_eq_false h
  have hp : 0 < 2 ^ k := Nat.two_pow_pos k
  have h2 := Nat.div_add_mod t (2 ^ k)
  have h3 : t / 2 ^ k = 2 * (t / 2 ^ k / 2) := by omega
  have hr : t % 2 ^ k < 2 ^ k := Nat.mod_lt _ hp
  have e : t = 2 ^ (k + 1) * (t / 2 ^ k / 2) + t % 2 ^ k := by
    rw [Nat.pow_succ, Nat.mul_assoc, ← h3]
    exact h2.symm
  generalize t / 2 ^ k / 2 = q at e
  generalize t % 2 ^ k = r at e hr
  have hlt : r < 2 ^ (k + 1) := by rw [Nat.pow_succ]; omega
  have hlt2 : 2 ^ k + r < 2 ^ (k + 1) := by rw [Nat.pow_succ]; omega
  rw [e, Nat.add_assoc, Nat.add_comm r, Nat.two_pow_add_eq_or_of_lt hlt2, Nat.two_pow_add_eq_or_of_lt hlt]
  have := Nat.two_pow_add_eq_or_of_lt hr 1
  rw [Nat.mul_one] at this
  rw [this, Nat.or_assoc, Nat.or_comm (2 ^ k) r]
theorem add_lt {t k : Nat} (ht : t < 18446744073709551616) (hk : k < 64) (h : t.testBit k = false) : t + 2 ^ k < 18446744073709551616 := by
  rw [add_bit h]
  exact Nat.or_lt_two_pow (n := 64) ht (Nat.pow_lt_pow_right (by decide) hk)
theorem deBr_at : ∀ k : Fin 64, deBrN[2 ^ k.val * 285870213051353865 % 18446744073709551616 / 2 ^ 58]? = some k.val ∧ 2 ^ k.val * 285870213051353865 % 18446744073709551616 / 2 ^ 58 < 64 := by decide +kernel
theorem gf_deBr : gfind gtab 0 = some deBrL := rfl
theorem ddrop_one {l : List DV} {i : Nat} {d : DV} (h : l[i]? = some d) : ∃ r, ddrop l i = d :: r := by
  rw [ddrop_eq]
  have hi : i < l.length := (List.getElem?_eq_some_iff.1 h).1
  exact ⟨l.drop (i + 1), by rw [List.drop_eq_getElem_cons hi, show l[i] = d from Option.some.inj ((List.getElem?_eq_getElem hi).symm.trans h)]⟩
theorem wrap_u64 (n : Int) : IntKind.u64.wrap n = n % 18446744073709551616 := by simp [IntKind.wrap, IntKind.signed, IntKind.bits]
theorem wrapN (n : Nat) : IntKind.u64.wrap (n : Int) = ((n % 18446744073709551616 : Nat) : Int) := by rw [wrap_u64, Int.natCast_emod]; rfl
theorem tz_plain (x k : Nat) (hx : x < 18446744073709551616) (h : IsLow x k) : ∃ (M Q Y Z : Int), IntKind.u64.wrap (0 - (x : Int)) = M ∧ bits .and .u64 (x : Int) M = Q ∧ IntKind.u64.wrap (Q * 285870213051353865) = Y ∧ Y.fdiv (2 ^ (min 58 IntKind.u64.bits)) = Z ∧ 0 ≤ Z ∧ Z < 64 ∧ (mapV deBrL)[Z.toNat]? = some (.v (.int .u8 (k : Int))) := by
  have hk := low_lt hx h
  have hx0 : 0 < x := by
    rcases Nat.eq_zero_or_pos x with e | e
    · subst e; simp [IsLow] at h
    · exact e
  obtain ⟨hdb, hdl⟩ := deBr_at ⟨k, hk⟩
  dsimp only at hdb hdl
  have hneg : IntKind.u64.wrap (0 - (x : Int)) = ((18446744073709551616 - x : Nat) : Int) := by rw [wrap_u64]; omega
  refine ⟨((18446744073709551616 - x : Nat) : Int), ((2 ^ k : Nat) : Int), ((2 ^ k * 285870213051353865 % 18446744073709551616 : Nat) : Int), ((2 ^ k * 285870213051353865 % 18446744073709551616 / 2 ^ 58 : Nat) : Int), hneg, (Go.u64_and_nat x _ hx (by omega)).trans (by rw [low_and hx h]), ?_, ?_, Int.natCast_nonneg _, Int.ofNat_lt.2 hdl, ?_⟩
  · generalize 2 ^ k = p
    rw [wrap_u64]
    omega
  · rw [show ((2 : Int) ^ (min 58 IntKind.u64.bits)) = ((2 ^ 58 : Nat) : Int) from rfl, Int.fdiv_eq_ediv_of_nonneg _ (Int.natCast_nonneg _), Int.natCast_ediv]
  · rw [Int.toNat_natCast, mapV_get]
    unfold deBrL
    rw [List.getElem?_map, hdb]
    rfl
set_option maxHeartbeats 1000000 in
theorem tz_spec (x k : Nat) (hx : x < 18446744073709551616) (h : IsLow x k) : Spec Tryd.prog 35 [.v (.int .u64 (x : Int))] (.v (.int .i64 (k : Nat))) := by
  have hk := low_lt hx h
  have hx0 : ¬ (x : Int) = 0 := fun e => by
    obtain rfl : x = 0 := by omega
    simp [IsLow] at h
  obtain ⟨M, Q, Y, Z, hneg, hand, hmul, hshr, hz0, hz1, hget⟩ := tz_plain x k hx h
  obtain ⟨r, hr⟩ := ddrop_one hget
  have gf := gf_deBr
  have hwk : IntKind.i64.wrap (k : Int) = (k : Int) := IntWalk.i64_in _ (by omega)
  generalize (x : Int) = X at *
  generalize deBrL = L at *
  clear hget
  refine hspec_fn Tryd.func35 rfl ok_bits_TrailingZeros64 okr_bits_TrailingZeros64 rfl (by kernel_rfl) ?_
  intro Γ hW0 hN0 hL0
  have hW := hW0 rfl
  clear hW0 hN0 hL0
  unfold x_bits_TrailingZeros64 r_bits_TrailingZeros64
  repeat' (first
    | (with_reducible first | refine go_seq ?_ | refine go_region ?_ | refine go_regionD mixed_ok ?_ | refine go_cond ?_ | refine go_skip ?_ | refine go_block ?_ | refine nx_code ?_ | refine nx_block ?_ | refine go_ret ?_ | refine nx_nil ?_ | refine go_exit ?_ | refine ex_code ?_ | refine ex_loop ?_ | refine ex_here ?_)
    | ((with_reducible refine ex_past ?_ ?_); (exact by decide))
    | ((with_reducible refine endD_intro ?_ ?_); (exact by kernel_rfl))
    | ((with_reducible refine runR_n ?_ ?_); exact auN)
    | (simp only [hneg, hand, hmul, hshr, hwk])
    | (dsimp only [run, undef, zipO, runR_ok, runR_t, runR_f, gd, gd2, skipR, ex1, pickR, boxR, loadR, loadO, storeR, storeO, nilR, fieldAR, fieldR, partOf, binR, intBin, unR, boolR, kindEq, shiftOp, onlyIf, orB, convR, extR, lenR, indexSlR, gidxR, putE, updL, keysOf, lget, lset, evT, evs, Env.get, Env.set, N8.get, N8.set, env0, cellsD, oneD, oneV, andB, allOne, lenB, mapV, dget, ddrop, dtake, splice, xget, xset, partsD, partsOk, partsE, partsEOk, repl, elemsR, elemsS, elemsO, xdrop, xtake, allOnes, appN, appOwn, appNew, appY, cellEq_i, consO, cmpAll, allB, negB, eqsO, eqsR, minR, evO, bndO, keepB, snapCut, slCut, nilCut, sliceR, isS, isnilL, isnilX, isnilR, makeR, clearO, clearR, sliceW1, sliceW2, sliceW3, sliceWR, appWO, appWR, isnilPR, appD, callvR, cond, condK_t, condK_f, argsE, slots0, List.length_cons, List.length_nil, Bool.true_or, Bool.false_or, Bool.or_true, Bool.or_false, bnf, bnt, Nat.add_zero, Nat.zero_add, Nat.reduceAdd, Nat.reduceMul, Int.reduceToNat, endS])
    | (with_reducible refine runR_b (fun h => ?_) (fun h => ?_) <;> first | exact auH | simp only [h, runR_t, runR_f])
    | (with_reducible refine condK_bl ?_ ?_)
    | (with_reducible refine condK_b (fun h => ?_) (fun h => ?_) <;> first | exact auH | skip)
    | (first | (simp only [gf]) | (simp only [Int.toNat_natCast, Nat.mul_one, hr])))
  (all_goals first | exact auP | skip)
  all_goals with_reducible refine ret_spec2 (by (try dsimp only [RetOK, resOk, resDs, resD, resV, cellV, cellO, cellP, cellOk, htake, nfD, nfL, nfLL, nfH, lget, partOf, xget, ddrop, dtake, dget, Env.get, N8.get, env0, List.length_cons, List.length_nil, Env.set, N8.set, lset, updL]); (repeat' (first | exact trivial | exact rfl | exact nfLL_map (fun x => by simp [nfL, nfD, nfD]) | decide | apply And.intro))) ?_
  all_goals (try dsimp only [RetOK, resOk, resDs, resD, resV, cellV, cellO, cellP, cellOk, htake, nfD, nfL, nfLL, nfH, lget, partOf, xget, ddrop, dtake, dget, Env.get, N8.get, env0, List.length_cons, List.length_nil, Env.set, N8.set, lset, updL])
  all_goals (try simp only [hsM] at *)
end Go.Proofs.YtegnfpmbmbbaiaaDoor
