/-
  PrefixPuts: whatever is handed in, the law's function returns true. No condition.
-/
import Derived.Test.YtlfbjdafnappdaaPutJ
import Derived.Test.YtlfbjdafnappdaaLawFw
import Derived.Test.YtlfbjdafnappdaaRows
namespace Go.Proofs.Ytlfbjdafnappdaa
open Go.ChangeShapes Go.WideShapes Go.ChangeAt Go.RowKit
set_option linter.unusedVariables false
set_option linter.unusedSimpArgs false

def shsPrefixPuts : List Sh := [.cons (.slice 32 4 (.cons (.cons (.int .i64) (.cons (.int .i64) (.nil))) (.cons (.bool) (.cons (.int .i64) (.nil))))) (.nil), .cons (.int .u32) (.cons (.int .i64) (.nil)), .int .i64]
theorem net_in {a l : Int} (h : isNet a l = true) : 0 ≤ l ∧ l ≤ 32 := by
  unfold isNet at h
  simp only [Bool.and_eq_true, decide_eq_true_eq] at h
  exact h.1
theorem put_both (L : List Nd) (c : Bool) (a l v : Int) (ha : 0 ≤ a ∧ a < 4294967296) : ∃ (Y : List Nd) (e : Int), Y.length ≤ 2000 ∧ Spec Try.prog 13 [dTrie L c, dNi a l, .v (.int .i64 v)] (dRes Y e) ∧ Spec Try.prog 14 [dTrie L c, dNi a l, .v (.int .i64 v)] (dRes Y e) := by
  obtain ⟨h1, h2⟩ := right_read L
  by_cases he : (readG L).2 = 0
  · obtain ⟨z1, z2, z3, z4, z5⟩ := h2 he
    have hr0 : rightG L = 0 := h1.trans he
    cases hn : isNet a l with
    | false => exact ⟨[], 1, Nat.zero_le _, put_net L c a l v ha he hn, tput_net L c a l v ha hr0 hn⟩
    | true =>
      obtain ⟨A, rfl⟩ := Int.eq_ofNat_of_zero_le ha.1
      obtain ⟨Lg, rfl⟩ := Int.eq_ofNat_of_zero_le (net_in hn).1
      have hL : Lg ≤ 32 := by have := (net_in hn).2; omega
      have hs : (readG L).1.size ≤ 500 := by
        have := congrArg List.length z5
        rw [lay_len] at this
        omega
      have hp := put_good L c A Lg v (by omega) hL he (by omega) hn
      have ht := tput_good L c A Lg v (by omega) hL hr0 z1 z4 hn
      have hpl := put_law (v := v) z2 (rowsR_ok z4) (bin_bits A Lg) (by rw [bitsL_len]; exact hL)
      rw [bitsF_L] at hp
      rw [show putR (bitsL A Lg) v (rowsT (readG L).1 []) = dropR (bitsL A Lg) (rowsT (readG L).1 []) ++ [(bitsL A Lg, v)] from rfl, hpl] at ht
      have hlen := putT_size (readG L).1 (bitsL A Lg) v
      rw [bitsL_len, ← lay_len _ 0] at hlen
      generalize lay (putT (readG L).1 (bitsL A Lg) v) 0 = Y at *
      by_cases h5 : 500 < Y.length
      · rw [if_pos h5] at hp ht
        exact ⟨[], 2, Nat.zero_le _, hp, ht⟩
      · rw [if_neg h5] at hp ht
        exact ⟨Y, 0, by omega, hp, ht⟩
  · have ht := tput_bad L c a l v (by rw [h1]; exact he)
    rw [h1] at ht
    exact ⟨[], _, Nat.zero_le _, put_bad L c a l v he, ht⟩
theorem rem_both (L : List Nd) (c : Bool) (a l : Int) (ha : 0 ≤ a ∧ a < 4294967296) : ∃ (Y : List Nd) (e : Int), Y.length ≤ 2000 ∧ Spec Try.prog 15 [dTrie L c, dNi a l] (dRes Y e) ∧ Spec Try.prog 16 [dTrie L c, dNi a l] (dRes Y e) := by
  obtain ⟨h1, h2⟩ := right_read L
  by_cases he : (readG L).2 = 0
  · obtain ⟨z1, z2, z3, z4, z5⟩ := h2 he
    have hr0 : rightG L = 0 := h1.trans he
    cases hn : isNet a l with
    | false => exact ⟨[], 7, Nat.zero_le _, rem_net L c a l ha he hn, trem_net L c a l ha hr0 z1 z4 hn⟩
    | true =>
      obtain ⟨A, rfl⟩ := Int.eq_ofNat_of_zero_le ha.1
      obtain ⟨Lg, rfl⟩ := Int.eq_ofNat_of_zero_le (net_in hn).1
      have hL : Lg ≤ 32 := by have := (net_in hn).2; omega
      have hs : (readG L).1.size ≤ 500 := by
        have := congrArg List.length z5
        rw [lay_len] at this
        omega
      have hp := rem_good L c A Lg (by omega) hL he (by omega) hn
      have ht := trem_good L c A Lg (by omega) hL hr0 z1 z4 hn
      have hpl := rem_law z2 (rowsR_ok z4) (bin_bits A Lg)
      have hlt := rem_lt (T := (readG L).1) (bin_bits A Lg)
      rw [bitsF_L] at hp
      rw [hpl] at ht
      have hlen := remT_size (readG L).1 (bitsL A Lg)
      rw [← lay_len _ 0] at hlen
      generalize lay (remT (readG L).1 (bitsL A Lg)).1 0 = Y at *
      by_cases h5 : (remT (readG L).1 (bitsL A Lg)).2 = true
      · rw [if_pos h5] at hp
        rw [if_pos (hlt.2 h5)] at ht
        exact ⟨Y, 0, by omega, hp, ht⟩
      · rw [if_neg h5] at hp
        rw [if_neg (fun q => h5 (hlt.1 q))] at ht
        exact ⟨[], 7, Nat.zero_le _, hp, ht⟩
  · have ht := trem_bad L c a l (by rw [h1]; exact he)
    rw [h1] at ht
    exact ⟨[], _, Nat.zero_le _, rem_bad L c a l he, ht⟩

set_option maxHeartbeats 8000000 in
theorem puts_spec (L : List Nd) (a l v : Int) (ha : 0 ≤ a ∧ a < 4294967296) : Spec Try.prog 4 [dTrie L false, dNi a l, .v (.int .i64 v)] (.v (.bool true)) := by
  obtain ⟨Y, e, hY, p1, p2⟩ := put_both L false a l v ha
  obtain ⟨Z, f, hZ, q1, q2⟩ := rem_both L false a l ha
  obtain ⟨h1, -⟩ := right_read L
  have hck := check_spec L false
  have hri := right_spec L false
  rw [h1] at hri
  have s1 := same_spec Y Y false false (by unfold maxLen; omega) (by unfold maxLen; omega)
  rw [decide_eq_true rfl] at s1
  have s2 := same_spec Z Z false false (by unfold maxLen; omega) (by unfold maxLen; omega)
  rw [decide_eq_true rfl] at s2
  generalize (readG L).2 = r at *
  have d1 : ∀ x : Int, decide (x = x) = true := fun x => decide_eq_true rfl
  have y1 := ndX_nf Y
  have y2 := ndX_nf Z
  refine hspec_fn Try.func4 rfl ok_custlaw_PrefixPuts okr_custlaw_PrefixPuts rfl (by kernel_rfl) ?_
  intro Γ hW0 hN0 hL0
  have hW := hW0 rfl
  clear hW0 hN0 hL0
  unfold x_custlaw_PrefixPuts r_custlaw_PrefixPuts
  with_reducible refine auC ?_
  repeat' (first
    | (with_reducible refine auS ?_)
    | (first | (simp only [d1]) | (with_reducible refine runR_call p1 ?_) | (with_reducible refine runR_call p2 ?_) | (with_reducible refine runR_call q1 ?_) | (with_reducible refine runR_call q2 ?_) | (with_reducible refine runR_call hck ?_) | (with_reducible refine runR_call hri ?_) | (with_reducible refine runR_call s1 ?_) | (with_reducible refine runR_call s2 ?_))
    | (with_reducible refine auD ?_)
    | ((with_reducible refine auB ?_ ?_); all_goals first | ((with_reducible intro h); first | exact auH | simp only [h, runR_t, runR_f] | skip) | skip)
    | fail)
  (all_goals first | exact auP | skip)
  all_goals first
    | (exfalso; simp at h; done)
    | skip
  all_goals with_reducible refine auF ?_
  all_goals (try first | with_reducible refine auR ?_ | exact auR0)
  all_goals (try simp only [hsM] at *)
  all_goals first
    | rfl
    | (refine dbool ?_; simp)
theorem u32_wf {x : Int} (h : (Lit.int .u32 x).wf = true) : 0 ≤ x ∧ x < 4294967296 := by
  have h2 : IntKind.u32.min ≤ x ∧ x ≤ IntKind.u32.max := by simpa [Lit.wf] using h
  have e1 : IntKind.u32.min = 0 := by decide
  have e2 : IntKind.u32.max = 4294967295 := by decide
  rw [e1, e2] at h2
  omega
abbrev ndT := (Int × Int × Unit) × Bool × Int × Unit
abbrev ndOf (t : ndT) : Nd := ⟨t.1.1, t.1.2.1, t.2.1, t.2.2.1⟩
theorem sv_PrefixPuts (l : List ndT) (a b v : Int) (u1 u2 u3 : Unit) : valSs shsPrefixPuts ((l, u1), (a, b, u2), v, u3) = [dTrie (l.map ndOf) false, dNi a b, .v (.int .i64 v)] := by
  rw [dTrie, List.map_map]
  rfl
theorem corePrefixPuts (W : World) (args : Array Value) (h : opnAll W W.heap.size shsPrefixPuts args.toList) :
    Calls Try.prog 4 args W fun e W' => e = .returned (.bool true) ∧ Below W.heap.size W W' := by
  refine law_core rfl h (fun x hx => ?_)
  obtain ⟨⟨l, u1⟩, ⟨a, b, u2⟩, v, u3⟩ := x
  obtain ⟨-, ⟨ha, -⟩, -⟩ := hx
  exact Eq.mpr (congrArg (fun l => Spec Try.prog 4 l (.v (.bool true))) (sv_PrefixPuts l a b v u1 u2 u3)) (puts_spec _ a b v (u32_wf ha))
/-! THE ROW: the frame round 'core' -/
theorem ownPrefixPuts : ownKnob Try.prog.godebug = none := by kernel_rfl
theorem fitPrefixPuts : (List.range shsPrefixPuts.length).all (fun i => match shsPrefixPuts[i]?, Try.f4.params.toList[i]? with | some s, some t => s.fit Try.prog none t | _, _ => false) = true := by kernel_rfl
theorem laidPrefixPuts : laidOutB Try.prog = true := by kernel_rfl
theorem readPrefixPuts : Try.f4.params.toList.all (fun t => Try.prog.readableRec t && decide (t < Try.prog.types.size)) = true := by kernel_rfl
set_option maxRecDepth 100000 in
theorem liftedPrefixPuts (os : Os) (started : os.Started) (H : Type) (enc : TypeId × Value → H) :
    ReturnsInHanded {} Try.checked os 4 .any (Rows.prefixPutsSpec.pre6 enc Try.prog Try.f4 Rows.prefixPutsRow.domain false) (Rows.prefixPutsSpec.post enc Try.prog Try.f4 false true false false) :=
  law_lifted (C := Try.checked) (enc := enc) ownPrefixPuts started (by kernel_rfl) Try.func4
    (ChangeSpec.witness6 (enc := enc) (C := Try.checked) false ⟨#[], #[.agg #[.slice none 0 0], .agg #[.int .u32 0, .int .i64 0], .int .i64 0], []⟩ 8 (by kernel_rfl) (by kernel_rfl) (by kernel_rfl) (by kernel_rfl))
    shsPrefixPuts (by kernel_rfl) fitPrefixPuts rfl (fun ds h => by
      match ds, h with
      | [d0, d1, d2], _ => exact ⟨rfl, rfl, rfl⟩) 4 (by kernel_rfl) Try.underlying4 laidPrefixPuts readPrefixPuts corePrefixPuts
theorem overPrefixPuts : Rows.prefixPutsRow.holds Try.pinned (OpenSpec.ofChange Rows.prefixPutsSpec) :=
  OpenClaim.holds_of_wide 4 Try.f4 rfl rfl rfl rfl rfl rfl rfl ⟨rfl, rfl, rfl, rfl, rfl⟩ rfl rfl rfl rfl rfl (by kernel_rfl) Try.func4 (by kernel_rfl)
    (of_decide_eq_true (by kernel_rfl)) (by unfold Func.isWrapper; rw [if_neg (of_decide_eq_false (by kernel_rfl))]; exact ⟨rfl, rfl⟩)
    (fun os started H enc _ => liftedPrefixPuts os started H enc)
/-- THE STATEMENT -/
theorem provedPrefixPuts : Rows.PrefixPutsSaid := overPrefixPuts
#print axioms provedPrefixPuts
end Go.Proofs.Ytlfbjdafnappdaa
