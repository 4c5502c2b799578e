/-
  Ports that are let: which port is let, in the program and in the reference.
-/
import Derived.Test.YtegnfpmbmbbaiaaDoorPortL
import Derived.Laws.Bits128
namespace Go.Proofs.YtegnfpmbmbbaiaaDoor
set_option linter.unusedVariables false
set_option linter.unusedSimpArgs false
/-! Plain. -/
def frB (t k : Nat) : Bool := !t.testBit k
def parB (want : Int) (k : Nat) : Bool := decide ((k : Int) % 2 = want % 2)
def bestK (t : Nat) (want : Int) : Nat :=
  match (List.range 64).find? (fun k => decide (frB t k = true ∧ parB want k = true)) with
  | some k => k
  | none => match (List.range 64).find? (frB t) with
    | some k => k
    | none => 0
def letK (b : Int) (t : Nat) (want : Int) : Nat := if tkd b t want = false ∧ b ≤ want ∧ want ≤ b + 63 then (want - b).toNat else bestK t want
def letE (b : Int) (t : Nat) (want : Int) : Int := if pOk b then (if 0 ≤ want ∧ want ≤ 65535 then (if t = 18446744073709551615 then 6 else 0) else 1) else 1
theorem full_bits {t : Nat} (ht : t < 18446744073709551616) : t = 18446744073709551615 ↔ ∀ k, k < 64 → t.testBit k = true := by
  constructor
  · rintro rfl k hk
    have := Nat.testBit_two_pow_sub_one 64 k
    rw [show (18446744073709551615 : Nat) = 2 ^ 64 - 1 from rfl, this, decide_eq_true hk]
  · intro h
    refine Nat.eq_of_testBit_eq fun k => ?_
    rw [show (18446744073709551615 : Nat) = 2 ^ 64 - 1 from rfl, Nat.testBit_two_pow_sub_one]
    rcases Nat.lt_or_ge k 64 with hk | hk
    · rw [h k hk, decide_eq_true hk]
    · rw [Nat.testBit_lt_two_pow (Nat.lt_of_lt_of_le ht (Nat.pow_le_pow_right (n := 2) (by decide) hk)), decide_eq_false (by omega)]
theorem some_free {t : Nat} (ht : t < 18446744073709551616) (h : ¬ t = 18446744073709551615) : ∃ k, k < 64 ∧ (List.range 64).find? (frB t) = some k ∧ frB t k = true := by
  cases hf : (List.range 64).find? (frB t) with
  | some k =>
    obtain ⟨h1, h2, _⟩ := List.find?_range_eq_some.1 hf
    exact ⟨k, List.mem_range.1 h2, rfl, h1⟩
  | none =>
    refine absurd ((full_bits ht).2 fun k hk => ?_) h
    have := List.find?_range_eq_none.1 hf k hk
    simpa [frB] using this
theorem best_free {t : Nat} (ht : t < 18446744073709551616) (h : ¬ t = 18446744073709551615) (want : Int) : bestK t want < 64 ∧ t.testBit (bestK t want) = false := by
  unfold bestK
  split
  · rename_i k hk
    obtain ⟨h1, h2, _⟩ := List.find?_range_eq_some.1 hk
    have h3 := (of_decide_eq_true h1).1
    exact ⟨List.mem_range.1 h2, by simpa [frB] using h3⟩
  · obtain ⟨k, h1, h2, h3⟩ := some_free ht h
    rw [h2]
    exact ⟨h1, by simpa [frB] using h3⟩
theorem letK_free {b : Int} {t : Nat} (ht : t < 18446744073709551616) (h : ¬ t = 18446744073709551615) (want : Int) : letK b t want < 64 ∧ t.testBit (letK b t want) = false := by
  unfold letK
  split
  · rename_i hc
    obtain ⟨h1, h2, h3⟩ := hc
    unfold tkd at h1
    rw [decide_eq_true ⟨h2, h3⟩, Bool.true_and] at h1
    exact ⟨by omega, h1⟩
  · exact best_free ht h want
/-- The free ports as bits. -/
def freeW (t : Nat) : Nat := 18446744073709551615 ^^^ t
theorem freeW_lt {t : Nat} (ht : t < 18446744073709551616) : freeW t < 18446744073709551616 := Nat.xor_lt_two_pow (n := 64) (by decide) ht
theorem freeW_bit {t : Nat} (ht : t < 18446744073709551616) {k : Nat} (hk : k < 64) : (freeW t).testBit k = frB t k := by
  unfold freeW frB
  rw [Nat.testBit_xor, show (18446744073709551615 : Nat) = 2 ^ 64 - 1 from rfl, Nat.testBit_two_pow_sub_one, decide_eq_true hk, Bool.true_xor]
def maskW (w : Nat) : Nat := if w = 0 then 6148914691236517205 else 12297829382473034410
theorem mask_bit : ∀ k : Fin 64, (maskW 0).testBit k.val = decide (k.val % 2 = 0) ∧ (maskW 1).testBit k.val = decide (k.val % 2 = 1) := by decide +kernel
theorem mask_lt (w : Nat) : maskW w < 18446744073709551616 := by unfold maskW; split <;> decide
def kindW (t w : Nat) : Nat := freeW t &&& maskW w
theorem kind_lt {t w : Nat} (ht : t < 18446744073709551616) : kindW t w < 18446744073709551616 := Nat.and_lt_two_pow (n := 64) _ (mask_lt w)
theorem kind_bit {t w : Nat} (hw : w = 0 ∨ w = 1) (ht : t < 18446744073709551616) {k : Nat} (hk : k < 64) : (kindW t w).testBit k = decide (frB t k = true ∧ k % 2 = w) := by
  unfold kindW
  rw [Nat.testBit_and, freeW_bit ht hk]
  have := mask_bit ⟨k, hk⟩
  rcases hw with rfl | rfl
  · rw [this.1]
    cases frB t k <;> simp
  · rw [this.2]
    cases frB t k <;> simp
/-- The kind of ports that is asked first: is there one, and which is the lowest. -/
theorem kind_best {t : Nat} (ht : t < 18446744073709551616) (h : ¬ t = 18446744073709551615) {want : Int} {w : Nat} (hw : w = 0 ∨ w = 1) (hwant : want % 2 = (w : Int)) :
    (kindW t w = 0 ∧ IsLow (freeW t) (bestK t want)) ∨ (¬ kindW t w = 0 ∧ IsLow (kindW t w) (bestK t want)) := by
  have hp : ∀ k, parB want k = decide (k % 2 = w) := fun k => by
    unfold parB
    rw [hwant]
    exact decide_eq_decide.2 (by omega)
  unfold bestK
  cases hf : (List.range 64).find? (fun k => decide (frB t k = true ∧ parB want k = true)) with
  | some k =>
    obtain ⟨h1, h2, h3⟩ := List.find?_range_eq_some.1 hf
    have hk := List.mem_range.1 h2
    have hbit : ∀ j, j < 64 → (kindW t w).testBit j = decide (frB t j = true ∧ parB want j = true) := fun j hj => by
      rw [kind_bit hw ht hj]
      exact decide_eq_decide.2 (by rw [hp j]; simp)
    refine .inr ⟨fun e => ?_, by rw [hbit k hk]; exact h1, fun j hj => ?_⟩
    · have := hbit k hk
      rw [e, Nat.zero_testBit] at this
      rw [← this] at h1
      exact absurd h1 (by decide)
    · have hj' : j < k := hj
      have := h3 j hj'
      rw [hbit j (by omega)]
      generalize decide (frB t j = true ∧ parB want j = true) = q at *
      cases q <;> simp_all
  | none =>
    have hn := List.find?_range_eq_none.1 hf
    refine .inl ⟨?_, ?_⟩
    · refine Nat.eq_of_testBit_eq fun j => ?_
      rw [Nat.zero_testBit]
      rcases Nat.lt_or_ge j 64 with hj | hj
      · rw [kind_bit hw ht hj]
        have := hn j hj
        rw [hp j, Bool.not_eq_true', decide_eq_false_iff_not, decide_eq_true_eq] at this
        exact decide_eq_false this
      · exact Nat.testBit_lt_two_pow (Nat.lt_of_lt_of_le (kind_lt ht) (Nat.pow_le_pow_right (n := 2) (by decide) hj))
    · obtain ⟨k, h1, h2, h3⟩ := some_free ht h
      rw [h2]
      obtain ⟨_, _, g3⟩ := List.find?_range_eq_some.1 h2
      refine ⟨by rw [freeW_bit ht h1]; exact h3, fun j hj => ?_⟩
      have hj' : j < k := hj
      have := g3 j hj'
      rw [freeW_bit ht (by omega)]
      simpa using this
theorem i64_and1 (n : Int) : bits .and .i64 n 1 = n % 2 := by
  have h1 : (BitVec.ofInt 64 1).toNat = 2 ^ 1 - 1 := by decide
  have key : (BitVec.ofInt 64 n &&& BitVec.ofInt 64 1).toNat = (n % ((2 ^ 64 : Nat) : Int)).toNat % 2 ^ 1 := by
    rw [BitVec.toNat_and, BitVec.toNat_ofInt, h1, Nat.and_two_pow_sub_one_eq_mod]
  show IntKind.i64.wrap ((BitVec.ofInt 64 n &&& BitVec.ofInt 64 1).toNat : Nat) = n % 2
  rw [key, IntKind.wrap_i64]
  omega
theorem or_bit {S : Nat} (hS : S < 18446744073709551616) {r : Int} (h0 : 0 ≤ r) (h1 : r < 64) : bits .or .u64 (S : Int) (IntKind.u64.wrap (1 * 2 ^ (min r.toNat IntKind.u64.bits))) = ((S ||| 2 ^ r.toNat : Nat) : Int) := by
  have hm : min r.toNat IntKind.u64.bits = r.toNat := Nat.min_eq_left (by show r.toNat ≤ 64; omega)
  have h2 : ((2 : Int) ^ r.toNat) = ((2 ^ r.toNat : Nat) : Int) := by simp
  have h3 : 2 ^ r.toNat < 2 ^ 64 := Nat.pow_lt_pow_right (by decide) (by omega)
  have h4 : 2 ^ r.toNat < 18446744073709551616 := h3
  rw [hm, Int.one_mul, h2, IntWalk.u64_in _ ⟨Int.natCast_nonneg _, Int.ofNat_le.2 (Nat.le_of_lt_succ h4)⟩]
  exact u64_or_nat S (2 ^ r.toNat) hS h4
theorem add_wrap {S k : Nat} (hS : S < 18446744073709551616) (hk : k < 64) (hb : S.testBit k = false) : IntKind.u64.wrap ((S : Int) + IntKind.u64.wrap (1 * 2 ^ (min k IntKind.u64.bits))) = ((S + 2 ^ k : Nat) : Int) := by
  have hm : min k IntKind.u64.bits = k := Nat.min_eq_left (by show k ≤ 64; omega)
  have h2 : ((2 : Int) ^ k) = ((2 ^ k : Nat) : Int) := by simp
  have h3 : 2 ^ k < 2 ^ 64 := Nat.pow_lt_pow_right (by decide) hk
  have h4 : 2 ^ k < 18446744073709551616 := h3
  have h5 := add_lt hS hk hb
  rw [hm, Int.one_mul, h2, IntWalk.u64_in _ ⟨Int.natCast_nonneg _, Int.ofNat_le.2 (Nat.le_of_lt_succ h4)⟩, ← Int.natCast_add, IntWalk.u64_in _ ⟨Int.natCast_nonneg _, Int.ofNat_le.2 (Nat.le_of_lt_succ h5)⟩]
abbrev dLet (b : Int) (t : Nat) (p e : Int) : DV := .tup [.agg [.v (.int .i64 b), .v (.int .u64 (t : Int))], .v (.int .i64 p), .v (.int .i64 e)]
/-! The program. -/
set_option maxHeartbeats 2000000 in
theorem plet_bad (b : Int) (t : Nat) (want : Int) (hne : ¬ letE b t want = 0) : Spec Tryd.prog 20 [.agg [.v (.int .i64 b), .v (.int .u64 (t : Int))], .v (.int .i64 want)] (dLet 0 0 0 (letE b t want)) := by
  have h1 := pcheck_spec b t
  unfold letE at hne ⊢
  unfold pE at h1
  cases hb : pOk b with
  | false =>
    rw [hb] at h1
    rw [if_neg (by decide)] at h1 ⊢
    refine hspec_fn Tryd.func20 rfl ok_ports_Let okr_ports_Let rfl (by kernel_rfl) ?_
    intro Γ hW0 hN0 hL0
    have hW := hW0 rfl
    clear hW0 hN0 hL0
    unfold x_ports_Let r_ports_Let
    repeat' (first
      | (with_reducible first | refine go_seq ?_ | refine go_region ?_ | refine go_regionD mixed_ok ?_ | refine go_cond ?_ | refine go_skip ?_ | refine go_block ?_ | refine nx_code ?_ | refine nx_block ?_ | refine go_ret ?_ | refine nx_nil ?_ | refine go_exit ?_ | refine ex_code ?_ | refine ex_loop ?_ | refine ex_here ?_)
      | ((with_reducible refine ex_past ?_ ?_); (exact by decide))
      | ((with_reducible refine endD_intro ?_ ?_); (exact by kernel_rfl))
      | ((with_reducible refine runR_n ?_ ?_); exact auN)
      | (first | (with_reducible refine runR_call h1 ?_))
      | (dsimp only [run, undef, zipO, runR_ok, runR_t, runR_f, gd, gd2, skipR, ex1, pickR, boxR, loadR, loadO, storeR, storeO, nilR, fieldAR, fieldR, partOf, binR, intBin, unR, boolR, kindEq, shiftOp, onlyIf, orB, convR, extR, lenR, indexSlR, gidxR, putE, updL, keysOf, lget, lset, evT, evs, Env.get, Env.set, N8.get, N8.set, env0, cellsD, oneD, oneV, andB, allOne, lenB, mapV, dget, ddrop, dtake, splice, xget, xset, partsD, partsOk, partsE, partsEOk, repl, elemsR, elemsS, elemsO, xdrop, xtake, allOnes, appN, appOwn, appNew, appY, cellEq_i, consO, cmpAll, allB, negB, eqsO, eqsR, minR, evO, bndO, keepB, snapCut, slCut, nilCut, sliceR, isS, isnilL, isnilX, isnilR, makeR, clearO, clearR, sliceW1, sliceW2, sliceW3, sliceWR, appWO, appWR, isnilPR, appD, callvR, cond, condK_t, condK_f, argsE, slots0, List.length_cons, List.length_nil, Bool.true_or, Bool.false_or, Bool.or_true, Bool.or_false, bnf, bnt, Nat.add_zero, Nat.zero_add, Nat.reduceAdd, Nat.reduceMul, Int.reduceToNat, endS])
      | (with_reducible refine runR_b (fun h => ?_) (fun h => ?_) <;> first | exact auH | simp only [h, runR_t, runR_f])
      | (with_reducible refine condK_bl ?_ ?_)
      | (with_reducible refine condK_b (fun h => ?_) (fun h => ?_) <;> first | exact auH | skip)
      | fail)
    (all_goals first | exact auP | skip)
    all_goals first
      | (exfalso; simp at h; done)
      | skip
    all_goals with_reducible refine ret_spec2 (by (try dsimp only [RetOK, resOk, resDs, resD, resV, cellV, cellO, cellP, cellOk, htake, nfD, nfL, nfLL, nfH, lget, partOf, xget, ddrop, dtake, dget, Env.get, N8.get, env0, List.length_cons, List.length_nil, Env.set, N8.set, lset, updL]); (repeat' (first | exact trivial | exact rfl | exact nfLL_map (fun x => by simp [nfL, nfD, nfD]) | decide | apply And.intro))) ?_
    all_goals (try dsimp only [RetOK, resOk, resDs, resD, resV, cellV, cellO, cellP, cellOk, htake, nfD, nfL, nfLL, nfH, lget, partOf, xget, ddrop, dtake, dget, Env.get, N8.get, env0, List.length_cons, List.length_nil, Env.set, N8.set, lset, updL])
    all_goals (try simp only [hsM] at *)
    all_goals rfl
  | true =>
    rw [hb] at h1 hne
    rw [if_pos rfl] at h1 hne ⊢
    by_cases hw : 0 ≤ want ∧ want ≤ 65535
    · rw [if_pos hw] at hne ⊢
      by_cases hf : t = 18446744073709551615
      · rw [if_pos hf]
        have hf' : (t : Int) = 18446744073709551615 := by omega
        clear hne
        generalize (t : Int) = T at *
        refine hspec_fn Tryd.func20 rfl ok_ports_Let okr_ports_Let rfl (by kernel_rfl) ?_
        intro Γ hW0 hN0 hL0
        have hW := hW0 rfl
        clear hW0 hN0 hL0
        unfold x_ports_Let r_ports_Let
        repeat' (first
          | (with_reducible first | refine go_seq ?_ | refine go_region ?_ | refine go_regionD mixed_ok ?_ | refine go_cond ?_ | refine go_skip ?_ | refine go_block ?_ | refine nx_code ?_ | refine nx_block ?_ | refine go_ret ?_ | refine nx_nil ?_ | refine go_exit ?_ | refine ex_code ?_ | refine ex_loop ?_ | refine ex_here ?_)
          | ((with_reducible refine ex_past ?_ ?_); (exact by decide))
          | ((with_reducible refine endD_intro ?_ ?_); (exact by kernel_rfl))
          | ((with_reducible refine runR_n ?_ ?_); exact auN)
          | (first | (with_reducible refine runR_call h1 ?_))
          | (dsimp only [run, undef, zipO, runR_ok, runR_t, runR_f, gd, gd2, skipR, ex1, pickR, boxR, loadR, loadO, storeR, storeO, nilR, fieldAR, fieldR, partOf, binR, intBin, unR, boolR, kindEq, shiftOp, onlyIf, orB, convR, extR, lenR, indexSlR, gidxR, putE, updL, keysOf, lget, lset, evT, evs, Env.get, Env.set, N8.get, N8.set, env0, cellsD, oneD, oneV, andB, allOne, lenB, mapV, dget, ddrop, dtake, splice, xget, xset, partsD, partsOk, partsE, partsEOk, repl, elemsR, elemsS, elemsO, xdrop, xtake, allOnes, appN, appOwn, appNew, appY, cellEq_i, consO, cmpAll, allB, negB, eqsO, eqsR, minR, evO, bndO, keepB, snapCut, slCut, nilCut, sliceR, isS, isnilL, isnilX, isnilR, makeR, clearO, clearR, sliceW1, sliceW2, sliceW3, sliceWR, appWO, appWR, isnilPR, appD, callvR, cond, condK_t, condK_f, argsE, slots0, List.length_cons, List.length_nil, Bool.true_or, Bool.false_or, Bool.or_true, Bool.or_false, bnf, bnt, Nat.add_zero, Nat.zero_add, Nat.reduceAdd, Nat.reduceMul, Int.reduceToNat, endS])
          | (with_reducible refine runR_b (fun h => ?_) (fun h => ?_) <;> first | exact auH | simp only [h, runR_t, runR_f])
          | (with_reducible refine condK_bl ?_ ?_)
          | (with_reducible refine condK_b (fun h => ?_) (fun h => ?_) <;> first | exact auH | skip)
          | fail)
        (all_goals first | exact auP | skip)
        all_goals first
          | (exfalso; simp at h; done)
          | skip
        all_goals with_reducible refine ret_spec2 (by (try dsimp only [RetOK, resOk, resDs, resD, resV, cellV, cellO, cellP, cellOk, htake, nfD, nfL, nfLL, nfH, lget, partOf, xget, ddrop, dtake, dget, Env.get, N8.get, env0, List.length_cons, List.length_nil, Env.set, N8.set, lset, updL]); (repeat' (first | exact trivial | exact rfl | exact nfLL_map (fun x => by simp [nfL, nfD, nfD]) | decide | apply And.intro))) ?_
        all_goals (try dsimp only [RetOK, resOk, resDs, resD, resV, cellV, cellO, cellP, cellOk, htake, nfD, nfL, nfLL, nfH, lget, partOf, xget, ddrop, dtake, dget, Env.get, N8.get, env0, List.length_cons, List.length_nil, Env.set, N8.set, lset, updL])
        all_goals (try simp only [hsM] at *)
        all_goals rfl
      · rw [if_neg hf] at hne
        exact absurd rfl hne
    · rw [if_neg hw]
      refine hspec_fn Tryd.func20 rfl ok_ports_Let okr_ports_Let rfl (by kernel_rfl) ?_
      intro Γ hW0 hN0 hL0
      have hW := hW0 rfl
      clear hW0 hN0 hL0
      unfold x_ports_Let r_ports_Let
      repeat' (first
        | (with_reducible first | refine go_seq ?_ | refine go_region ?_ | refine go_regionD mixed_ok ?_ | refine go_cond ?_ | refine go_skip ?_ | refine go_block ?_ | refine nx_code ?_ | refine nx_block ?_ | refine go_ret ?_ | refine nx_nil ?_ | refine go_exit ?_ | refine ex_code ?_ | refine ex_loop ?_ | refine ex_here ?_)
        | ((with_reducible refine ex_past ?_ ?_); (exact by decide))
        | ((with_reducible refine endD_intro ?_ ?_); (exact by kernel_rfl))
        | ((with_reducible refine runR_n ?_ ?_); exact auN)
        | (first | (with_reducible refine runR_call h1 ?_))
        | (dsimp only [run, undef, zipO, runR_ok, runR_t, runR_f, gd, gd2, skipR, ex1, pickR, boxR, loadR, loadO, storeR, storeO, nilR, fieldAR, fieldR, partOf, binR, intBin, unR, boolR, kindEq, shiftOp, onlyIf, orB, convR, extR, lenR, indexSlR, gidxR, putE, updL, keysOf, lget, lset, evT, evs, Env.get, Env.set, N8.get, N8.set, env0, cellsD, oneD, oneV, andB, allOne, lenB, mapV, dget, ddrop, dtake, splice, xget, xset, partsD, partsOk, partsE, partsEOk, repl, elemsR, elemsS, elemsO, xdrop, xtake, allOnes, appN, appOwn, appNew, appY, cellEq_i, consO, cmpAll, allB, negB, eqsO, eqsR, minR, evO, bndO, keepB, snapCut, slCut, nilCut, sliceR, isS, isnilL, isnilX, isnilR, makeR, clearO, clearR, sliceW1, sliceW2, sliceW3, sliceWR, appWO, appWR, isnilPR, appD, callvR, cond, condK_t, condK_f, argsE, slots0, List.length_cons, List.length_nil, Bool.true_or, Bool.false_or, Bool.or_true, Bool.or_false, bnf, bnt, Nat.add_zero, Nat.zero_add, Nat.reduceAdd, Nat.reduceMul, Int.reduceToNat, endS])
        | (with_reducible refine runR_b (fun h => ?_) (fun h => ?_) <;> first | exact auH | simp only [h, runR_t, runR_f])
        | (with_reducible refine condK_bl ?_ ?_)
        | (with_reducible refine condK_b (fun h => ?_) (fun h => ?_) <;> first | exact auH | skip)
        | fail)
      (all_goals first | exact auP | skip)
      all_goals first
        | (exfalso; simp at h; done)
        | skip
      all_goals with_reducible refine ret_spec2 (by (try dsimp only [RetOK, resOk, resDs, resD, resV, cellV, cellO, cellP, cellOk, htake, nfD, nfL, nfLL, nfH, lget, partOf, xget, ddrop, dtake, dget, Env.get, N8.get, env0, List.length_cons, List.length_nil, Env.set, N8.set, lset, updL]); (repeat' (first | exact trivial | exact rfl | exact nfLL_map (fun x => by simp [nfL, nfD, nfD]) | decide | apply And.intro))) ?_
      all_goals (try dsimp only [RetOK, resOk, resDs, resD, resV, cellV, cellO, cellP, cellOk, htake, nfD, nfL, nfLL, nfH, lget, partOf, xget, ddrop, dtake, dget, Env.get, N8.get, env0, List.length_cons, List.length_nil, Env.set, N8.set, lset, updL])
      all_goals (try simp only [hsM] at *)
      all_goals rfl
theorem letE_zero {b : Int} {t : Nat} {want : Int} (h : letE b t want = 0) : pOk b = true ∧ (0 ≤ want ∧ want ≤ 65535) ∧ ¬ t = 18446744073709551615 := by
  unfold letE at h
  split at h
  · rename_i h1
    split at h
    · rename_i h2
      split at h
      · exact absurd h (by decide)
      · rename_i h3
        exact ⟨h1, h2, h3⟩
    · exact absurd h (by decide)
  · exact absurd h (by decide)
theorem pOk_rng' {b : Int} (h : pOk b = true) : (64 ≤ b ∧ b ≤ 65472) ∧ b % 64 = 0 := by
  unfold pOk at h
  have := of_decide_eq_true h
  rw [Int.tmod_eq_emod_of_nonneg (by omega)] at this
  omega
theorem sgu : IntKind.u64.signed = false := rfl
theorem xor_all (t : Nat) (ht : t < 18446744073709551616) : bits .xor .u64 IntKind.u64.max (t : Int) = (freeW t : Int) := Go.u64_xor_nat 18446744073709551615 t (by decide) ht
set_option maxHeartbeats 2000000 in
theorem plet_good1 (b : Int) (t : Nat) (want : Int) (ht : t < 18446744073709551616) (h0 : letE b t want = 0) (hc : tkd b t want = false ∧ b ≤ want ∧ want ≤ b + 63) : Spec Tryd.prog 20 [.agg [.v (.int .i64 b), .v (.int .u64 (t : Int))], .v (.int .i64 want)] (dLet b (t + 2 ^ letK b t want) (b + letK b t want) 0) := by
  obtain ⟨hb, hw, hne⟩ := letE_zero h0
  obtain ⟨hbr, hbm⟩ := pOk_rng' hb
  have h1 := pcheck_spec b t
  unfold pE at h1
  rw [if_pos hb] at h1
  have hlk := letK_free (b := b) ht hne want
  have hK : letK b t want = (want - b).toNat := by unfold letK; rw [if_pos hc]
  rw [hK] at hlk ⊢
  unfold dLet
  obtain ⟨c1, c2, c3⟩ := hc
  have hne' : ¬ (t : Int) = 18446744073709551615 := by omega
  have hsb := shr_bit (freeW_lt ht) (r := want - b) (by omega) (by omega)
  rw [freeW_bit ht hlk.1, if_pos (by unfold frB; rw [hlk.2]; rfl)] at hsb
  have hfr := xor_all t ht
  have hwr : IntKind.i64.wrap (want - b) = want - b := IntWalk.i64_in _ (by omega)
  have hor := or_bit ht (r := want - b) (by omega) (by omega)
  rw [← add_bit hlk.2] at hor
  have hwadd : IntKind.i64.wrap (b + (want - b)) = b + ((want - b).toNat : Nat) := (IntWalk.i64_in _ (by omega)).trans (by omega)
  have hand1 : True := trivial
  have hmk : True := trivial
  have hkd : True := trivial
  have h2 := h1
  generalize ((freeW t : Nat) : Int) = F at *
  generalize ((t + 2 ^ (want - b).toNat : Nat) : Int) = T2 at *
  generalize (t : Int) = T at *
  refine hspec_fn Tryd.func20 rfl ok_ports_Let okr_ports_Let rfl (by kernel_rfl) ?_
  intro Γ hW0 hN0 hL0
  have hW := hW0 rfl
  clear hW0 hN0 hL0
  unfold x_ports_Let r_ports_Let
  repeat' (first
    | (with_reducible first | refine go_seq ?_ | refine go_region ?_ | refine go_regionD mixed_ok ?_ | refine go_cond ?_ | refine go_skip ?_ | refine go_block ?_ | refine nx_code ?_ | refine nx_block ?_ | refine go_ret ?_ | refine nx_nil ?_ | refine go_exit ?_ | refine ex_code ?_ | refine ex_loop ?_ | refine ex_here ?_)
    | ((with_reducible refine ex_past ?_ ?_); (exact by decide))
    | ((with_reducible refine endD_intro ?_ ?_); (exact by kernel_rfl))
    | ((with_reducible refine runR_n ?_ ?_); exact auN)
    | (first | (with_reducible refine runR_call h1 ?_) | (with_reducible refine runR_call h2 ?_) | (simp only [sgu]) | (simp only [hfr, hwr, hand1, hmk, hkd, hor, hwadd, hsb]))
    | (dsimp only [run, undef, zipO, runR_ok, runR_t, runR_f, gd, gd2, skipR, ex1, pickR, boxR, loadR, loadO, storeR, storeO, nilR, fieldAR, fieldR, partOf, binR, intBin, unR, boolR, kindEq, shiftOp, onlyIf, orB, convR, extR, lenR, indexSlR, gidxR, putE, updL, keysOf, lget, lset, evT, evs, Env.get, Env.set, N8.get, N8.set, env0, cellsD, oneD, oneV, andB, allOne, lenB, mapV, dget, ddrop, dtake, splice, xget, xset, partsD, partsOk, partsE, partsEOk, repl, elemsR, elemsS, elemsO, xdrop, xtake, allOnes, appN, appOwn, appNew, appY, cellEq_i, consO, cmpAll, allB, negB, eqsO, eqsR, minR, evO, bndO, keepB, snapCut, slCut, nilCut, sliceR, isS, isnilL, isnilX, isnilR, makeR, clearO, clearR, sliceW1, sliceW2, sliceW3, sliceWR, appWO, appWR, isnilPR, appD, callvR, cond, condK_t, condK_f, argsE, slots0, List.length_cons, List.length_nil, Bool.true_or, Bool.false_or, Bool.or_true, Bool.or_false, bnf, bnt, Nat.add_zero, Nat.zero_add, Nat.reduceAdd, Nat.reduceMul, Int.reduceToNat, endS])
    | (with_reducible refine runR_b (fun h => ?_) (fun h => ?_) <;> first | exact auH | simp only [h, runR_t, runR_f])
    | (with_reducible refine condK_bl ?_ ?_)
    | (with_reducible refine condK_b (fun h => ?_) (fun h => ?_) <;> first | exact auH | skip)
    | (first | (simp only [Int.toNat_natCast]) | fail))
  (all_goals first | exact auP | skip)
  all_goals first
    | (exfalso; simp at h; done)
    | skip
  all_goals with_reducible refine ret_spec2 (by (try dsimp only [RetOK, resOk, resDs, resD, resV, cellV, cellO, cellP, cellOk, htake, nfD, nfL, nfLL, nfH, lget, partOf, xget, ddrop, dtake, dget, Env.get, N8.get, env0, List.length_cons, List.length_nil, Env.set, N8.set, lset, updL]); (repeat' (first | exact trivial | exact rfl | exact nfLL_map (fun x => by simp [nfL, nfD, nfD]) | decide | apply And.intro))) ?_
  all_goals (try dsimp only [RetOK, resOk, resDs, resD, resV, cellV, cellO, cellP, cellOk, htake, nfD, nfL, nfLL, nfH, lget, partOf, xget, ddrop, dtake, dget, Env.get, N8.get, env0, List.length_cons, List.length_nil, Env.set, N8.set, lset, updL])
  all_goals (try simp only [hsM] at *)
theorem mask0 : IntKind.u64.wrap (6148914691236517205 * 2 ^ (min 0 IntKind.u64.bits)) = ((maskW 0 : Nat) : Int) := by decide +kernel
theorem mask1 : IntKind.u64.wrap (6148914691236517205 * 2 ^ (min 1 IntKind.u64.bits)) = ((maskW 1 : Nat) : Int) := by decide +kernel
theorem cast_ne {n : Nat} (h : ¬ n = 0) : ¬ (n : Int) = 0 := by omega
set_option maxHeartbeats 4000000 in
theorem plet_good2 (b : Int) (t : Nat) (want : Int) (ht : t < 18446744073709551616) (h0 : letE b t want = 0) (hc : ¬ (tkd b t want = false ∧ b ≤ want ∧ want ≤ b + 63)) : Spec Tryd.prog 20 [.agg [.v (.int .i64 b), .v (.int .u64 (t : Int))], .v (.int .i64 want)] (dLet b (t + 2 ^ letK b t want) (b + letK b t want) 0) := by
  obtain ⟨hb, hw, hne⟩ := letE_zero h0
  obtain ⟨hbr, hbm⟩ := pOk_rng' hb
  have h1 := pcheck_spec b t
  unfold pE at h1
  rw [if_pos hb] at h1
  have hlk := letK_free (b := b) ht hne want
  have hK : letK b t want = bestK t want := by unfold letK; rw [if_neg hc]
  rw [hK] at hlk ⊢
  unfold dLet
  have hne' : ¬ (t : Int) = 18446744073709551615 := by omega
  have hsb0 : b ≤ want ∧ want ≤ b + 63 → bits .and .u64 (((freeW t : Nat) : Int).fdiv (2 ^ (min (want - b).toNat IntKind.u64.bits))) 1 = 0 := fun hr => by
    have hs := shr_bit (freeW_lt ht) (r := want - b) (by omega) (by omega)
    rw [freeW_bit ht (by omega)] at hs
    have htk : tkd b t want = true := by
      cases hq : tkd b t want with
      | true => rfl
      | false => exact absurd ⟨hq, hr⟩ hc
    unfold tkd at htk
    rw [decide_eq_true hr, Bool.true_and] at htk
    rw [hs, if_neg (by unfold frB; rw [htk]; decide)]
  have hfr := xor_all t ht
  have hwr : IntKind.i64.wrap (want - b) = want - b := IntWalk.i64_in _ (by omega)
  have hor := or_bit ht (r := ((bestK t want : Nat) : Int)) (by omega) (by omega)
  rw [Int.toNat_natCast, ← add_bit hlk.2] at hor
  have hwadd : IntKind.i64.wrap (b + (bestK t want : Nat)) = b + (bestK t want : Nat) := IntWalk.i64_in _ (by omega)
  by_cases hr : b ≤ want ∧ want ≤ b + 63
  · have hsb := hsb0 hr
    rcases Int.emod_two_eq want with hpar | hpar
    · skip
      have hkd : bits .and .u64 ((freeW t : Nat) : Int) ((maskW 0 : Nat) : Int) = ((kindW t 0 : Nat) : Int) := Go.u64_and_nat _ _ (freeW_lt ht) (mask_lt _)
      have hmk := mask0
      have hand1 : bits .and .i64 want 1 = 0 := by rw [i64_and1]; exact hpar
      rcases kind_best ht hne (w := 0) (by decide) hpar with ⟨k1, k2⟩ | ⟨k1, k2⟩
      · have h2 := tz_spec _ _ (freeW_lt ht) k2
        have k1' : ((kindW t 0 : Nat) : Int) = 0 := by rw [k1]; rfl
        clear hsb0
        generalize ((kindW t 0 : Nat) : Int) = Kd at *
        generalize ((freeW t : Nat) : Int) = F at *
        generalize ((maskW 0 : Nat) : Int) = M at *
        generalize ((t + 2 ^ bestK t want : Nat) : Int) = T2 at *
        generalize bestK t want = K at *
        generalize (t : Int) = T at *
        refine hspec_fn Tryd.func20 rfl ok_ports_Let okr_ports_Let rfl (by kernel_rfl) ?_
        intro Γ hW0 hN0 hL0
        have hW := hW0 rfl
        clear hW0 hN0 hL0
        unfold x_ports_Let r_ports_Let
        repeat' (first
          | (with_reducible first | refine go_seq ?_ | refine go_region ?_ | refine go_regionD mixed_ok ?_ | refine go_cond ?_ | refine go_skip ?_ | refine go_block ?_ | refine nx_code ?_ | refine nx_block ?_ | refine go_ret ?_ | refine nx_nil ?_ | refine go_exit ?_ | refine ex_code ?_ | refine ex_loop ?_ | refine ex_here ?_)
          | ((with_reducible refine ex_past ?_ ?_); (exact by decide))
          | ((with_reducible refine endD_intro ?_ ?_); (exact by kernel_rfl))
          | ((with_reducible refine runR_n ?_ ?_); exact auN)
          | (first | (with_reducible refine runR_call h1 ?_) | (with_reducible refine runR_call h2 ?_) | (simp only [sgu]) | (simp only [hfr, hwr, hand1, hmk, hkd, hor, hwadd, hsb]))
          | (dsimp only [run, undef, zipO, runR_ok, runR_t, runR_f, gd, gd2, skipR, ex1, pickR, boxR, loadR, loadO, storeR, storeO, nilR, fieldAR, fieldR, partOf, binR, intBin, unR, boolR, kindEq, shiftOp, onlyIf, orB, convR, extR, lenR, indexSlR, gidxR, putE, updL, keysOf, lget, lset, evT, evs, Env.get, Env.set, N8.get, N8.set, env0, cellsD, oneD, oneV, andB, allOne, lenB, mapV, dget, ddrop, dtake, splice, xget, xset, partsD, partsOk, partsE, partsEOk, repl, elemsR, elemsS, elemsO, xdrop, xtake, allOnes, appN, appOwn, appNew, appY, cellEq_i, consO, cmpAll, allB, negB, eqsO, eqsR, minR, evO, bndO, keepB, snapCut, slCut, nilCut, sliceR, isS, isnilL, isnilX, isnilR, makeR, clearO, clearR, sliceW1, sliceW2, sliceW3, sliceWR, appWO, appWR, isnilPR, appD, callvR, cond, condK_t, condK_f, argsE, slots0, List.length_cons, List.length_nil, Bool.true_or, Bool.false_or, Bool.or_true, Bool.or_false, bnf, bnt, Nat.add_zero, Nat.zero_add, Nat.reduceAdd, Nat.reduceMul, Int.reduceToNat, endS])
          | (with_reducible refine runR_b (fun h => ?_) (fun h => ?_) <;> first | exact auH | simp only [h, runR_t, runR_f])
          | (with_reducible refine condK_bl ?_ ?_)
          | (with_reducible refine condK_b (fun h => ?_) (fun h => ?_) <;> first | exact auH | skip)
          | (first | (simp only [Int.toNat_natCast]) | fail))
        (all_goals first | exact auP | skip)
        all_goals first
          | (exfalso; simp at h; done)
          | skip
        all_goals with_reducible refine ret_spec2 (by (try dsimp only [RetOK, resOk, resDs, resD, resV, cellV, cellO, cellP, cellOk, htake, nfD, nfL, nfLL, nfH, lget, partOf, xget, ddrop, dtake, dget, Env.get, N8.get, env0, List.length_cons, List.length_nil, Env.set, N8.set, lset, updL]); (repeat' (first | exact trivial | exact rfl | exact nfLL_map (fun x => by simp [nfL, nfD, nfD]) | decide | apply And.intro))) ?_
        all_goals (try dsimp only [RetOK, resOk, resDs, resD, resV, cellV, cellO, cellP, cellOk, htake, nfD, nfL, nfLL, nfH, lget, partOf, xget, ddrop, dtake, dget, Env.get, N8.get, env0, List.length_cons, List.length_nil, Env.set, N8.set, lset, updL])
        all_goals (try simp only [hsM] at *)
      · have h2 := tz_spec _ _ (kind_lt ht) k2
        have k1' := cast_ne k1
        clear hsb0
        generalize ((kindW t 0 : Nat) : Int) = Kd at *
        generalize ((freeW t : Nat) : Int) = F at *
        generalize ((maskW 0 : Nat) : Int) = M at *
        generalize ((t + 2 ^ bestK t want : Nat) : Int) = T2 at *
        generalize bestK t want = K at *
        generalize (t : Int) = T at *
        refine hspec_fn Tryd.func20 rfl ok_ports_Let okr_ports_Let rfl (by kernel_rfl) ?_
        intro Γ hW0 hN0 hL0
        have hW := hW0 rfl
        clear hW0 hN0 hL0
        unfold x_ports_Let r_ports_Let
        repeat' (first
          | (with_reducible first | refine go_seq ?_ | refine go_region ?_ | refine go_regionD mixed_ok ?_ | refine go_cond ?_ | refine go_skip ?_ | refine go_block ?_ | refine nx_code ?_ | refine nx_block ?_ | refine go_ret ?_ | refine nx_nil ?_ | refine go_exit ?_ | refine ex_code ?_ | refine ex_loop ?_ | refine ex_here ?_)
          | ((with_reducible refine ex_past ?_ ?_); (exact by decide))
          | ((with_reducible refine endD_intro ?_ ?_); (exact by kernel_rfl))
          | ((with_reducible refine runR_n ?_ ?_); exact auN)
          | (first | (with_reducible refine runR_call h1 ?_) | (with_reducible refine runR_call h2 ?_) | (simp only [sgu]) | (simp only [hfr, hwr, hand1, hmk, hkd, hor, hwadd, hsb]))
          | (dsimp only [run, undef, zipO, runR_ok, runR_t, runR_f, gd, gd2, skipR, ex1, pickR, boxR, loadR, loadO, storeR, storeO, nilR, fieldAR, fieldR, partOf, binR, intBin, unR, boolR, kindEq, shiftOp, onlyIf, orB, convR, extR, lenR, indexSlR, gidxR, putE, updL, keysOf, lget, lset, evT, evs, Env.get, Env.set, N8.get, N8.set, env0, cellsD, oneD, oneV, andB, allOne, lenB, mapV, dget, ddrop, dtake, splice, xget, xset, partsD, partsOk, partsE, partsEOk, repl, elemsR, elemsS, elemsO, xdrop, xtake, allOnes, appN, appOwn, appNew, appY, cellEq_i, consO, cmpAll, allB, negB, eqsO, eqsR, minR, evO, bndO, keepB, snapCut, slCut, nilCut, sliceR, isS, isnilL, isnilX, isnilR, makeR, clearO, clearR, sliceW1, sliceW2, sliceW3, sliceWR, appWO, appWR, isnilPR, appD, callvR, cond, condK_t, condK_f, argsE, slots0, List.length_cons, List.length_nil, Bool.true_or, Bool.false_or, Bool.or_true, Bool.or_false, bnf, bnt, Nat.add_zero, Nat.zero_add, Nat.reduceAdd, Nat.reduceMul, Int.reduceToNat, endS])
          | (with_reducible refine runR_b (fun h => ?_) (fun h => ?_) <;> first | exact auH | simp only [h, runR_t, runR_f])
          | (with_reducible refine condK_bl ?_ ?_)
          | (with_reducible refine condK_b (fun h => ?_) (fun h => ?_) <;> first | exact auH | skip)
          | (first | (simp only [Int.toNat_natCast]) | fail))
        (all_goals first | exact auP | skip)
        all_goals first
          | (exfalso; simp at h; done)
          | skip
        all_goals with_reducible refine ret_spec2 (by (try dsimp only [RetOK, resOk, resDs, resD, resV, cellV, cellO, cellP, cellOk, htake, nfD, nfL, nfLL, nfH, lget, partOf, xget, ddrop, dtake, dget, Env.get, N8.get, env0, List.length_cons, List.length_nil, Env.set, N8.set, lset, updL]); (repeat' (first | exact trivial | exact rfl | exact nfLL_map (fun x => by simp [nfL, nfD, nfD]) | decide | apply And.intro))) ?_
        all_goals (try dsimp only [RetOK, resOk, resDs, resD, resV, cellV, cellO, cellP, cellOk, htake, nfD, nfL, nfLL, nfH, lget, partOf, xget, ddrop, dtake, dget, Env.get, N8.get, env0, List.length_cons, List.length_nil, Env.set, N8.set, lset, updL])
        all_goals (try simp only [hsM] at *)
    · skip
      have hkd : bits .and .u64 ((freeW t : Nat) : Int) ((maskW 1 : Nat) : Int) = ((kindW t 1 : Nat) : Int) := Go.u64_and_nat _ _ (freeW_lt ht) (mask_lt _)
      have hmk := mask1
      have hand1 : bits .and .i64 want 1 = 1 := by rw [i64_and1]; exact hpar
      rcases kind_best ht hne (w := 1) (by decide) hpar with ⟨k1, k2⟩ | ⟨k1, k2⟩
      · have h2 := tz_spec _ _ (freeW_lt ht) k2
        have k1' : ((kindW t 1 : Nat) : Int) = 0 := by rw [k1]; rfl
        clear hsb0
        generalize ((kindW t 1 : Nat) : Int) = Kd at *
        generalize ((freeW t : Nat) : Int) = F at *
        generalize ((maskW 1 : Nat) : Int) = M at *
        generalize ((t + 2 ^ bestK t want : Nat) : Int) = T2 at *
        generalize bestK t want = K at *
        generalize (t : Int) = T at *
        refine hspec_fn Tryd.func20 rfl ok_ports_Let okr_ports_Let rfl (by kernel_rfl) ?_
        intro Γ hW0 hN0 hL0
        have hW := hW0 rfl
        clear hW0 hN0 hL0
        unfold x_ports_Let r_ports_Let
        repeat' (first
          | (with_reducible first | refine go_seq ?_ | refine go_region ?_ | refine go_regionD mixed_ok ?_ | refine go_cond ?_ | refine go_skip ?_ | refine go_block ?_ | refine nx_code ?_ | refine nx_block ?_ | refine go_ret ?_ | refine nx_nil ?_ | refine go_exit ?_ | refine ex_code ?_ | refine ex_loop ?_ | refine ex_here ?_)
          | ((with_reducible refine ex_past ?_ ?_); (exact by decide))
          | ((with_reducible refine endD_intro ?_ ?_); (exact by kernel_rfl))
          | ((with_reducible refine runR_n ?_ ?_); exact auN)
          | (first | (with_reducible refine runR_call h1 ?_) | (with_reducible refine runR_call h2 ?_) | (simp only [sgu]) | (simp only [hfr, hwr, hand1, hmk, hkd, hor, hwadd, hsb]))
          | (dsimp only [run, undef, zipO, runR_ok, runR_t, runR_f, gd, gd2, skipR, ex1, pickR, boxR, loadR, loadO, storeR, storeO, nilR, fieldAR, fieldR, partOf, binR, intBin, unR, boolR, kindEq, shiftOp, onlyIf, orB, convR, extR, lenR, indexSlR, gidxR, putE, updL, keysOf, lget, lset, evT, evs, Env.get, Env.set, N8.get, N8.set, env0, cellsD, oneD, oneV, andB, allOne, lenB, mapV, dget, ddrop, dtake, splice, xget, xset, partsD, partsOk, partsE, partsEOk, repl, elemsR, elemsS, elemsO, xdrop, xtake, allOnes, appN, appOwn, appNew, appY, cellEq_i, consO, cmpAll, allB, negB, eqsO, eqsR, minR, evO, bndO, keepB, snapCut, slCut, nilCut, sliceR, isS, isnilL, isnilX, isnilR, makeR, clearO, clearR, sliceW1, sliceW2, sliceW3, sliceWR, appWO, appWR, isnilPR, appD, callvR, cond, condK_t, condK_f, argsE, slots0, List.length_cons, List.length_nil, Bool.true_or, Bool.false_or, Bool.or_true, Bool.or_false, bnf, bnt, Nat.add_zero, Nat.zero_add, Nat.reduceAdd, Nat.reduceMul, Int.reduceToNat, endS])
          | (with_reducible refine runR_b (fun h => ?_) (fun h => ?_) <;> first | exact auH | simp only [h, runR_t, runR_f])
          | (with_reducible refine condK_bl ?_ ?_)
          | (with_reducible refine condK_b (fun h => ?_) (fun h => ?_) <;> first | exact auH | skip)
          | (first | (simp only [Int.toNat_natCast]) | fail))
        (all_goals first | exact auP | skip)
        all_goals first
          | (exfalso; simp at h; done)
          | skip
        all_goals with_reducible refine ret_spec2 (by (try dsimp only [RetOK, resOk, resDs, resD, resV, cellV, cellO, cellP, cellOk, htake, nfD, nfL, nfLL, nfH, lget, partOf, xget, ddrop, dtake, dget, Env.get, N8.get, env0, List.length_cons, List.length_nil, Env.set, N8.set, lset, updL]); (repeat' (first | exact trivial | exact rfl | exact nfLL_map (fun x => by simp [nfL, nfD, nfD]) | decide | apply And.intro))) ?_
        all_goals (try dsimp only [RetOK, resOk, resDs, resD, resV, cellV, cellO, cellP, cellOk, htake, nfD, nfL, nfLL, nfH, lget, partOf, xget, ddrop, dtake, dget, Env.get, N8.get, env0, List.length_cons, List.length_nil, Env.set, N8.set, lset, updL])
        all_goals (try simp only [hsM] at *)
      · have h2 := tz_spec _ _ (kind_lt ht) k2
        have k1' := cast_ne k1
        clear hsb0
        generalize ((kindW t 1 : Nat) : Int) = Kd at *
        generalize ((freeW t : Nat) : Int) = F at *
        generalize ((maskW 1 : Nat) : Int) = M at *
        generalize ((t + 2 ^ bestK t want : Nat) : Int) = T2 at *
        generalize bestK t want = K at *
        generalize (t : Int) = T at *
        refine hspec_fn Tryd.func20 rfl ok_ports_Let okr_ports_Let rfl (by kernel_rfl) ?_
        intro Γ hW0 hN0 hL0
        have hW := hW0 rfl
        clear hW0 hN0 hL0
        unfold x_ports_Let r_ports_Let
        repeat' (first
          | (with_reducible first | refine go_seq ?_ | refine go_region ?_ | refine go_regionD mixed_ok ?_ | refine go_cond ?_ | refine go_skip ?_ | refine go_block ?_ | refine nx_code ?_ | refine nx_block ?_ | refine go_ret ?_ | refine nx_nil ?_ | refine go_exit ?_ | refine ex_code ?_ | refine ex_loop ?_ | refine ex_here ?_)
          | ((with_reducible refine ex_past ?_ ?_); (exact by decide))
          | ((with_reducible refine endD_intro ?_ ?_); (exact by kernel_rfl))
          | ((with_reducible refine runR_n ?_ ?_); exact auN)
          | (first | (with_reducible refine runR_call h1 ?_) | (with_reducible refine runR_call h2 ?_) | (simp only [sgu]) | (simp only [hfr, hwr, hand1, hmk, hkd, hor, hwadd, hsb]))
          | (dsimp only [run, undef, zipO, runR_ok, runR_t, runR_f, gd, gd2, skipR, ex1, pickR, boxR, loadR, loadO, storeR, storeO, nilR, fieldAR, fieldR, partOf, binR, intBin, unR, boolR, kindEq, shiftOp, onlyIf, orB, convR, extR, lenR, indexSlR, gidxR, putE, updL, keysOf, lget, lset, evT, evs, Env.get, Env.set, N8.get, N8.set, env0, cellsD, oneD, oneV, andB, allOne, lenB, mapV, dget, ddrop, dtake, splice, xget, xset, partsD, partsOk, partsE, partsEOk, repl, elemsR, elemsS, elemsO, xdrop, xtake, allOnes, appN, appOwn, appNew, appY, cellEq_i, consO, cmpAll, allB, negB, eqsO, eqsR, minR, evO, bndO, keepB, snapCut, slCut, nilCut, sliceR, isS, isnilL, isnilX, isnilR, makeR, clearO, clearR, sliceW1, sliceW2, sliceW3, sliceWR, appWO, appWR, isnilPR, appD, callvR, cond, condK_t, condK_f, argsE, slots0, List.length_cons, List.length_nil, Bool.true_or, Bool.false_or, Bool.or_true, Bool.or_false, bnf, bnt, Nat.add_zero, Nat.zero_add, Nat.reduceAdd, Nat.reduceMul, Int.reduceToNat, endS])
          | (with_reducible refine runR_b (fun h => ?_) (fun h => ?_) <;> first | exact auH | simp only [h, runR_t, runR_f])
          | (with_reducible refine condK_bl ?_ ?_)
          | (with_reducible refine condK_b (fun h => ?_) (fun h => ?_) <;> first | exact auH | skip)
          | (first | (simp only [Int.toNat_natCast]) | fail))
        (all_goals first | exact auP | skip)
        all_goals first
          | (exfalso; simp at h; done)
          | skip
        all_goals with_reducible refine ret_spec2 (by (try dsimp only [RetOK, resOk, resDs, resD, resV, cellV, cellO, cellP, cellOk, htake, nfD, nfL, nfLL, nfH, lget, partOf, xget, ddrop, dtake, dget, Env.get, N8.get, env0, List.length_cons, List.length_nil, Env.set, N8.set, lset, updL]); (repeat' (first | exact trivial | exact rfl | exact nfLL_map (fun x => by simp [nfL, nfD, nfD]) | decide | apply And.intro))) ?_
        all_goals (try dsimp only [RetOK, resOk, resDs, resD, resV, cellV, cellO, cellP, cellOk, htake, nfD, nfL, nfLL, nfH, lget, partOf, xget, ddrop, dtake, dget, Env.get, N8.get, env0, List.length_cons, List.length_nil, Env.set, N8.set, lset, updL])
        all_goals (try simp only [hsM] at *)
  · have hsb : True := trivial
    rcases Int.emod_two_eq want with hpar | hpar
    · skip
      have hkd : bits .and .u64 ((freeW t : Nat) : Int) ((maskW 0 : Nat) : Int) = ((kindW t 0 : Nat) : Int) := Go.u64_and_nat _ _ (freeW_lt ht) (mask_lt _)
      have hmk := mask0
      have hand1 : bits .and .i64 want 1 = 0 := by rw [i64_and1]; exact hpar
      rcases kind_best ht hne (w := 0) (by decide) hpar with ⟨k1, k2⟩ | ⟨k1, k2⟩
      · have h2 := tz_spec _ _ (freeW_lt ht) k2
        have k1' : ((kindW t 0 : Nat) : Int) = 0 := by rw [k1]; rfl
        clear hsb0
        generalize ((kindW t 0 : Nat) : Int) = Kd at *
        generalize ((freeW t : Nat) : Int) = F at *
        generalize ((maskW 0 : Nat) : Int) = M at *
        generalize ((t + 2 ^ bestK t want : Nat) : Int) = T2 at *
        generalize bestK t want = K at *
        generalize (t : Int) = T at *
        refine hspec_fn Tryd.func20 rfl ok_ports_Let okr_ports_Let rfl (by kernel_rfl) ?_
        intro Γ hW0 hN0 hL0
        have hW := hW0 rfl
        clear hW0 hN0 hL0
        unfold x_ports_Let r_ports_Let
        repeat' (first
          | (with_reducible first | refine go_seq ?_ | refine go_region ?_ | refine go_regionD mixed_ok ?_ | refine go_cond ?_ | refine go_skip ?_ | refine go_block ?_ | refine nx_code ?_ | refine nx_block ?_ | refine go_ret ?_ | refine nx_nil ?_ | refine go_exit ?_ | refine ex_code ?_ | refine ex_loop ?_ | refine ex_here ?_)
          | ((with_reducible refine ex_past ?_ ?_); (exact by decide))
          | ((with_reducible refine endD_intro ?_ ?_); (exact by kernel_rfl))
          | ((with_reducible refine runR_n ?_ ?_); exact auN)
          | (first | (with_reducible refine runR_call h1 ?_) | (with_reducible refine runR_call h2 ?_) | (simp only [sgu]) | (simp only [hfr, hwr, hand1, hmk, hkd, hor, hwadd, hsb]))
          | (dsimp only [run, undef, zipO, runR_ok, runR_t, runR_f, gd, gd2, skipR, ex1, pickR, boxR, loadR, loadO, storeR, storeO, nilR, fieldAR, fieldR, partOf, binR, intBin, unR, boolR, kindEq, shiftOp, onlyIf, orB, convR, extR, lenR, indexSlR, gidxR, putE, updL, keysOf, lget, lset, evT, evs, Env.get, Env.set, N8.get, N8.set, env0, cellsD, oneD, oneV, andB, allOne, lenB, mapV, dget, ddrop, dtake, splice, xget, xset, partsD, partsOk, partsE, partsEOk, repl, elemsR, elemsS, elemsO, xdrop, xtake, allOnes, appN, appOwn, appNew, appY, cellEq_i, consO, cmpAll, allB, negB, eqsO, eqsR, minR, evO, bndO, keepB, snapCut, slCut, nilCut, sliceR, isS, isnilL, isnilX, isnilR, makeR, clearO, clearR, sliceW1, sliceW2, sliceW3, sliceWR, appWO, appWR, isnilPR, appD, callvR, cond, condK_t, condK_f, argsE, slots0, List.length_cons, List.length_nil, Bool.true_or, Bool.false_or, Bool.or_true, Bool.or_false, bnf, bnt, Nat.add_zero, Nat.zero_add, Nat.reduceAdd, Nat.reduceMul, Int.reduceToNat, endS])
          | (with_reducible refine runR_b (fun h => ?_) (fun h => ?_) <;> first | exact auH | simp only [h, runR_t, runR_f])
          | (with_reducible refine condK_bl ?_ ?_)
          | (with_reducible refine condK_b (fun h => ?_) (fun h => ?_) <;> first | exact auH | skip)
          | (first | (simp only [Int.toNat_natCast]) | fail))
        (all_goals first | exact auP | skip)
        all_goals first
          | (exfalso; simp at h; done)
          | skip
        all_goals with_reducible refine ret_spec2 (by (try dsimp only [RetOK, resOk, resDs, resD, resV, cellV, cellO, cellP, cellOk, htake, nfD, nfL, nfLL, nfH, lget, partOf, xget, ddrop, dtake, dget, Env.get, N8.get, env0, List.length_cons, List.length_nil, Env.set, N8.set, lset, updL]); (repeat' (first | exact trivial | exact rfl | exact nfLL_map (fun x => by simp [nfL, nfD, nfD]) | decide | apply And.intro))) ?_
        all_goals (try dsimp only [RetOK, resOk, resDs, resD, resV, cellV, cellO, cellP, cellOk, htake, nfD, nfL, nfLL, nfH, lget, partOf, xget, ddrop, dtake, dget, Env.get, N8.get, env0, List.length_cons, List.length_nil, Env.set, N8.set, lset, updL])
        all_goals (try simp only [hsM] at *)
      · have h2 := tz_spec _ _ (kind_lt ht) k2
        have k1' := cast_ne k1
        clear hsb0
        generalize ((kindW t 0 : Nat) : Int) = Kd at *
        generalize ((freeW t : Nat) : Int) = F at *
        generalize ((maskW 0 : Nat) : Int) = M at *
        generalize ((t + 2 ^ bestK t want : Nat) : Int) = T2 at *
        generalize bestK t want = K at *
        generalize (t : Int) = T at *
        refine hspec_fn Tryd.func20 rfl ok_ports_Let okr_ports_Let rfl (by kernel_rfl) ?_
        intro Γ hW0 hN0 hL0
        have hW := hW0 rfl
        clear hW0 hN0 hL0
        unfold x_ports_Let r_ports_Let
        repeat' (first
          | (with_reducible first | refine go_seq ?_ | refine go_region ?_ | refine go_regionD mixed_ok ?_ | refine go_cond ?_ | refine go_skip ?_ | refine go_block ?_ | refine nx_code ?_ | refine nx_block ?_ | refine go_ret ?_ | refine nx_nil ?_ | refine go_exit ?_ | refine ex_code ?_ | refine ex_loop ?_ | refine ex_here ?_)
          | ((with_reducible refine ex_past ?_ ?_); (exact by decide))
          | ((with_reducible refine endD_intro ?_ ?_); (exact by kernel_rfl))
          | ((with_reducible refine runR_n ?_ ?_); exact auN)
          | (first | (with_reducible refine runR_call h1 ?_) | (with_reducible refine runR_call h2 ?_) | (simp only [sgu]) | (simp only [hfr, hwr, hand1, hmk, hkd, hor, hwadd, hsb]))
          | (dsimp only [run, undef, zipO, runR_ok, runR_t, runR_f, gd, gd2, skipR, ex1, pickR, boxR, loadR, loadO, storeR, storeO, nilR, fieldAR, fieldR, partOf, binR, intBin, unR, boolR, kindEq, shiftOp, onlyIf, orB, convR, extR, lenR, indexSlR, gidxR, putE, updL, keysOf, lget, lset, evT, evs, Env.get, Env.set, N8.get, N8.set, env0, cellsD, oneD, oneV, andB, allOne, lenB, mapV, dget, ddrop, dtake, splice, xget, xset, partsD, partsOk, partsE, partsEOk, repl, elemsR, elemsS, elemsO, xdrop, xtake, allOnes, appN, appOwn, appNew, appY, cellEq_i, consO, cmpAll, allB, negB, eqsO, eqsR, minR, evO, bndO, keepB, snapCut, slCut, nilCut, sliceR, isS, isnilL, isnilX, isnilR, makeR, clearO, clearR, sliceW1, sliceW2, sliceW3, sliceWR, appWO, appWR, isnilPR, appD, callvR, cond, condK_t, condK_f, argsE, slots0, List.length_cons, List.length_nil, Bool.true_or, Bool.false_or, Bool.or_true, Bool.or_false, bnf, bnt, Nat.add_zero, Nat.zero_add, Nat.reduceAdd, Nat.reduceMul, Int.reduceToNat, endS])
          | (with_reducible refine runR_b (fun h => ?_) (fun h => ?_) <;> first | exact auH | simp only [h, runR_t, runR_f])
          | (with_reducible refine condK_bl ?_ ?_)
          | (with_reducible refine condK_b (fun h => ?_) (fun h => ?_) <;> first | exact auH | skip)
          | (first | (simp only [Int.toNat_natCast]) | fail))
        (all_goals first | exact auP | skip)
        all_goals first
          | (exfalso; simp at h; done)
          | skip
        all_goals with_reducible refine ret_spec2 (by (try dsimp only [RetOK, resOk, resDs, resD, resV, cellV, cellO, cellP, cellOk, htake, nfD, nfL, nfLL, nfH, lget, partOf, xget, ddrop, dtake, dget, Env.get, N8.get, env0, List.length_cons, List.length_nil, Env.set, N8.set, lset, updL]); (repeat' (first | exact trivial | exact rfl | exact nfLL_map (fun x => by simp [nfL, nfD, nfD]) | decide | apply And.intro))) ?_
        all_goals (try dsimp only [RetOK, resOk, resDs, resD, resV, cellV, cellO, cellP, cellOk, htake, nfD, nfL, nfLL, nfH, lget, partOf, xget, ddrop, dtake, dget, Env.get, N8.get, env0, List.length_cons, List.length_nil, Env.set, N8.set, lset, updL])
        all_goals (try simp only [hsM] at *)
    · skip
      have hkd : bits .and .u64 ((freeW t : Nat) : Int) ((maskW 1 : Nat) : Int) = ((kindW t 1 : Nat) : Int) := Go.u64_and_nat _ _ (freeW_lt ht) (mask_lt _)
      have hmk := mask1
      have hand1 : bits .and .i64 want 1 = 1 := by rw [i64_and1]; exact hpar
      rcases kind_best ht hne (w := 1) (by decide) hpar with ⟨k1, k2⟩ | ⟨k1, k2⟩
      · have h2 := tz_spec _ _ (freeW_lt ht) k2
        have k1' : ((kindW t 1 : Nat) : Int) = 0 := by rw [k1]; rfl
        clear hsb0
        generalize ((kindW t 1 : Nat) : Int) = Kd at *
        generalize ((freeW t : Nat) : Int) = F at *
        generalize ((maskW 1 : Nat) : Int) = M at *
        generalize ((t + 2 ^ bestK t want : Nat) : Int) = T2 at *
        generalize bestK t want = K at *
        generalize (t : Int) = T at *
        refine hspec_fn Tryd.func20 rfl ok_ports_Let okr_ports_Let rfl (by kernel_rfl) ?_
        intro Γ hW0 hN0 hL0
        have hW := hW0 rfl
        clear hW0 hN0 hL0
        unfold x_ports_Let r_ports_Let
        repeat' (first
          | (with_reducible first | refine go_seq ?_ | refine go_region ?_ | refine go_regionD mixed_ok ?_ | refine go_cond ?_ | refine go_skip ?_ | refine go_block ?_ | refine nx_code ?_ | refine nx_block ?_ | refine go_ret ?_ | refine nx_nil ?_ | refine go_exit ?_ | refine ex_code ?_ | refine ex_loop ?_ | refine ex_here ?_)
          | ((with_reducible refine ex_past ?_ ?_); (exact by decide))
          | ((with_reducible refine endD_intro ?_ ?_); (exact by kernel_rfl))
          | ((with_reducible refine runR_n ?_ ?_); exact auN)
          | (first | (with_reducible refine runR_call h1 ?_) | (with_reducible refine runR_call h2 ?_) | (simp only [sgu]) | (simp only [hfr, hwr, hand1, hmk, hkd, hor, hwadd, hsb]))
          | (dsimp only [run, undef, zipO, runR_ok, runR_t, runR_f, gd, gd2, skipR, ex1, pickR, boxR, loadR, loadO, storeR, storeO, nilR, fieldAR, fieldR, partOf, binR, intBin, unR, boolR, kindEq, shiftOp, onlyIf, orB, convR, extR, lenR, indexSlR, gidxR, putE, updL, keysOf, lget, lset, evT, evs, Env.get, Env.set, N8.get, N8.set, env0, cellsD, oneD, oneV, andB, allOne, lenB, mapV, dget, ddrop, dtake, splice, xget, xset, partsD, partsOk, partsE, partsEOk, repl, elemsR, elemsS, elemsO, xdrop, xtake, allOnes, appN, appOwn, appNew, appY, cellEq_i, consO, cmpAll, allB, negB, eqsO, eqsR, minR, evO, bndO, keepB, snapCut, slCut, nilCut, sliceR, isS, isnilL, isnilX, isnilR, makeR, clearO, clearR, sliceW1, sliceW2, sliceW3, sliceWR, appWO, appWR, isnilPR, appD, callvR, cond, condK_t, condK_f, argsE, slots0, List.length_cons, List.length_nil, Bool.true_or, Bool.false_or, Bool.or_true, Bool.or_false, bnf, bnt, Nat.add_zero, Nat.zero_add, Nat.reduceAdd, Nat.reduceMul, Int.reduceToNat, endS])
          | (with_reducible refine runR_b (fun h => ?_) (fun h => ?_) <;> first | exact auH | simp only [h, runR_t, runR_f])
          | (with_reducible refine condK_bl ?_ ?_)
          | (with_reducible refine condK_b (fun h => ?_) (fun h => ?_) <;> first | exact auH | skip)
          | (first | (simp only [Int.toNat_natCast]) | fail))
        (all_goals first | exact auP | skip)
        all_goals first
          | (exfalso; simp at h; done)
          | skip
        all_goals with_reducible refine ret_spec2 (by (try dsimp only [RetOK, resOk, resDs, resD, resV, cellV, cellO, cellP, cellOk, htake, nfD, nfL, nfLL, nfH, lget, partOf, xget, ddrop, dtake, dget, Env.get, N8.get, env0, List.length_cons, List.length_nil, Env.set, N8.set, lset, updL]); (repeat' (first | exact trivial | exact rfl | exact nfLL_map (fun x => by simp [nfL, nfD, nfD]) | decide | apply And.intro))) ?_
        all_goals (try dsimp only [RetOK, resOk, resDs, resD, resV, cellV, cellO, cellP, cellOk, htake, nfD, nfL, nfLL, nfH, lget, partOf, xget, ddrop, dtake, dget, Env.get, N8.get, env0, List.length_cons, List.length_nil, Env.set, N8.set, lset, updL])
        all_goals (try simp only [hsM] at *)
      · have h2 := tz_spec _ _ (kind_lt ht) k2
        have k1' := cast_ne k1
        clear hsb0
        generalize ((kindW t 1 : Nat) : Int) = Kd at *
        generalize ((freeW t : Nat) : Int) = F at *
        generalize ((maskW 1 : Nat) : Int) = M at *
        generalize ((t + 2 ^ bestK t want : Nat) : Int) = T2 at *
        generalize bestK t want = K at *
        generalize (t : Int) = T at *
        refine hspec_fn Tryd.func20 rfl ok_ports_Let okr_ports_Let rfl (by kernel_rfl) ?_
        intro Γ hW0 hN0 hL0
        have hW := hW0 rfl
        clear hW0 hN0 hL0
        unfold x_ports_Let r_ports_Let
        repeat' (first
          | (with_reducible first | refine go_seq ?_ | refine go_region ?_ | refine go_regionD mixed_ok ?_ | refine go_cond ?_ | refine go_skip ?_ | refine go_block ?_ | refine nx_code ?_ | refine nx_block ?_ | refine go_ret ?_ | refine nx_nil ?_ | refine go_exit ?_ | refine ex_code ?_ | refine ex_loop ?_ | refine ex_here ?_)
          | ((with_reducible refine ex_past ?_ ?_); (exact by decide))
          | ((with_reducible refine endD_intro ?_ ?_); (exact by kernel_rfl))
          | ((with_reducible refine runR_n ?_ ?_); exact auN)
          | (first | (with_reducible refine runR_call h1 ?_) | (with_reducible refine runR_call h2 ?_) | (simp only [sgu]) | (simp only [hfr, hwr, hand1, hmk, hkd, hor, hwadd, hsb]))
          | (dsimp only [run, undef, zipO, runR_ok, runR_t, runR_f, gd, gd2, skipR, ex1, pickR, boxR, loadR, loadO, storeR, storeO, nilR, fieldAR, fieldR, partOf, binR, intBin, unR, boolR, kindEq, shiftOp, onlyIf, orB, convR, extR, lenR, indexSlR, gidxR, putE, updL, keysOf, lget, lset, evT, evs, Env.get, Env.set, N8.get, N8.set, env0, cellsD, oneD, oneV, andB, allOne, lenB, mapV, dget, ddrop, dtake, splice, xget, xset, partsD, partsOk, partsE, partsEOk, repl, elemsR, elemsS, elemsO, xdrop, xtake, allOnes, appN, appOwn, appNew, appY, cellEq_i, consO, cmpAll, allB, negB, eqsO, eqsR, minR, evO, bndO, keepB, snapCut, slCut, nilCut, sliceR, isS, isnilL, isnilX, isnilR, makeR, clearO, clearR, sliceW1, sliceW2, sliceW3, sliceWR, appWO, appWR, isnilPR, appD, callvR, cond, condK_t, condK_f, argsE, slots0, List.length_cons, List.length_nil, Bool.true_or, Bool.false_or, Bool.or_true, Bool.or_false, bnf, bnt, Nat.add_zero, Nat.zero_add, Nat.reduceAdd, Nat.reduceMul, Int.reduceToNat, endS])
          | (with_reducible refine runR_b (fun h => ?_) (fun h => ?_) <;> first | exact auH | simp only [h, runR_t, runR_f])
          | (with_reducible refine condK_bl ?_ ?_)
          | (with_reducible refine condK_b (fun h => ?_) (fun h => ?_) <;> first | exact auH | skip)
          | (first | (simp only [Int.toNat_natCast]) | fail))
        (all_goals first | exact auP | skip)
        all_goals first
          | (exfalso; simp at h; done)
          | skip
        all_goals with_reducible refine ret_spec2 (by (try dsimp only [RetOK, resOk, resDs, resD, resV, cellV, cellO, cellP, cellOk, htake, nfD, nfL, nfLL, nfH, lget, partOf, xget, ddrop, dtake, dget, Env.get, N8.get, env0, List.length_cons, List.length_nil, Env.set, N8.set, lset, updL]); (repeat' (first | exact trivial | exact rfl | exact nfLL_map (fun x => by simp [nfL, nfD, nfD]) | decide | apply And.intro))) ?_
        all_goals (try dsimp only [RetOK, resOk, resDs, resD, resV, cellV, cellO, cellP, cellOk, htake, nfD, nfL, nfLL, nfH, lget, partOf, xget, ddrop, dtake, dget, Env.get, N8.get, env0, List.length_cons, List.length_nil, Env.set, N8.set, lset, updL])
        all_goals (try simp only [hsM] at *)
end Go.Proofs.YtegnfpmbmbbaiaaDoor
