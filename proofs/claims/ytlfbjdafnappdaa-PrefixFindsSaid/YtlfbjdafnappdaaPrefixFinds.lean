/-
  PrefixFinds: whatever is handed in, the law's function returns true. No condition.
-/
import Derived.Test.YtlfbjdafnappdaaTriL
import Derived.Test.YtlfbjdafnappdaaLawFw
import Derived.Test.YtlfbjdafnappdaaRows
namespace Go.Proofs.Ytlfbjdafnappdaa
open Go.ChangeShapes Go.WideShapes Go.ChangeAt Go.RowKit
set_option linter.unusedVariables false
set_option linter.unusedSimpArgs false

def shsPrefixFinds : List Sh := [.cons (.slice 32 4 (.cons (.cons (.int .i64) (.cons (.int .i64) (.nil))) (.cons (.bool) (.cons (.int .i64) (.nil))))) (.nil), .int .u32]
structure TpS where
  (k nA nB g : Nat)

set_option maxHeartbeats 4000000 in
theorem finds_bad (L : List Nd) (a : Nat) (ha : a < 4294967296) (he : (readG L).2 ≠ 0) : Spec Try.prog 3 [dTrie L false, .v (.int .u32 (a : Nat))] (.v (.bool true)) := by
  obtain ⟨p, q, r, s, hf, ht⟩ := find_both L false a ha
  obtain ⟨h1, -⟩ := right_read L
  have hrd := read_spec L false
  unfold dRd at hrd
  have ha := all_bad L false _ _ he hrd
  have hri := right_spec L false
  rw [h1] at hri
  generalize (readG L).2 = e at *
  have d1 : ∀ x : Int, decide (x = x) = true := fun x => decide_eq_true rfl
  have d2 : decide (e = 0) = false := decide_eq_false he
  refine hspec_fn Try.func3 rfl ok_custlaw_PrefixFinds okr_custlaw_PrefixFinds rfl (by kernel_rfl) ?_
  intro Γ hW0 hN0 hL0
  have hW := hW0 rfl
  clear hW0 hN0 hL0
  unfold x_custlaw_PrefixFinds r_custlaw_PrefixFinds
  with_reducible refine auC ?_
  repeat' (first
    | (with_reducible refine auS ?_)
    | (first | (simp only [d1, d2]) | (with_reducible refine runR_call hf ?_) | (with_reducible refine runR_call ht ?_) | (with_reducible refine runR_call ha ?_) | (with_reducible refine runR_call hri ?_) | (with_reducible refine runR_call nt_nil ?_) | (with_reducible refine runR_call vl_nil ?_))
    | (with_reducible refine auD ?_)
    | ((with_reducible refine auB ?_ ?_); all_goals first | (intro h; first | exact auH | simp only [h, runR_t, runR_f] | skip) | skip)
    | fail)
  (all_goals first | exact auP | skip)
  all_goals first
    | (exfalso; simp at h; done)
    | skip
  all_goals with_reducible refine auF ?_
  all_goals (try first | with_reducible refine auR ?_ | exact auR0)
  all_goals (try simp only [hsM] at *)
  all_goals first
    | rfl
    | (refine dbool ?_; simp)
set_option maxHeartbeats 8000000 in
theorem finds_good (L : List Nd) (a : Nat) (ha : a < 4294967296) (he : (readG L).2 = 0) : Spec Try.prog 3 [dTrie L false, .v (.int .u32 (a : Nat))] (.v (.bool true)) := by
  obtain ⟨p, q, r, s, hf, ht⟩ := find_both L false a ha
  obtain ⟨h1, h2⟩ := right_read L
  obtain ⟨z1, z2, z3, z4, z5⟩ := h2 he
  have hrd := read_spec L false
  unfold dRd at hrd
  rw [he] at hrd h1
  have ha := all_good L false _ z3 (lay_len' z5 z1) hrd
  have hri := right_spec L false
  rw [h1] at hri
  have hrow : Spec Try.prog 9 [dTrie L false] (.tup [.snap 2 (rwR (rowsT (readG L).1 [])) false, .v (.bool true)]) := by
    have := rows_spec L false z1
    rw [z4] at this
    exact this
  have hlX : (rowsT (readG L).1 []).length ≤ 510 := by have := rowsR_len z4; omega
  have hwX := rowsR_ok z4
  clear h2 z2 z3 z4 z5 hrd
  generalize rowsT (readG L).1 [] = X at *
  have d1 : ∀ x : Int, decide (x = x) = true := fun x => decide_eq_true rfl
  have hlx := rwR_len X
  have hnt : Spec Try.prog 11 [.snap 2 (ntR X) false, .snap 2 (ntR X) false] (.v (.bool true)) := nteq_same X false false (by unfold maxLen; omega)
  have hvl : Spec Try.prog 12 [.snap 1 (vlR X) false, .snap 1 (vlR X) false] (.v (.bool true)) := vleq_same X false false (by unfold maxLen; omega)
  refine hspec_fn Try.func3 rfl ok_custlaw_PrefixFinds okr_custlaw_PrefixFinds rfl (by kernel_rfl) ?_
  intro Γ hW0 hN0 hL0
  have hW := hW0 rfl
  clear hW0 hN0 hL0
  unfold x_custlaw_PrefixFinds r_custlaw_PrefixFinds
  with_reducible refine auC ?_
  repeat' (first
    | (with_reducible refine auS ?_)
    | (first | (simp only [d1, hlx]) | (with_reducible refine runR_call hf ?_) | (with_reducible refine runR_call ht ?_) | (with_reducible refine runR_call ha ?_) | (with_reducible refine runR_call hri ?_) | (with_reducible refine runR_call hrow ?_))
    | (with_reducible refine auD ?_)
    | ((with_reducible refine auB ?_ ?_); all_goals first | (intro h; first | exact auH | simp only [h, runR_t, runR_f] | skip) | skip)
    | fail)
  (all_goals first | exact auP | skip)
  all_goals first
    | (exfalso; simp at h; done)
    | skip
  apply go_le
  · exact le_row ⟨.d0, .d1, .d6⟩ 5 2 rfl rfl
  apply go_le
  · exact le_row ⟨.d0, .d1, .d7⟩ 7 1 rfl rfl
  with_reducible refine auL ?_
  refine go_loopH (α := TpS) (fun y => [(⟨.d0, .d1, .d6⟩, .sl 5 y.nA 2 0 y.k false), (⟨.d0, .d1, .d7⟩, .sl 7 y.nB 1 0 y.k false), (⟨.d0, .d6, .d2⟩, .v (.int .i64 (y.k : Nat)))])
    (fun y => [(3, none), (4, none), (5, some ⟨y.nA, 2, ntR (X.take y.k)⟩), (6, none), (7, some ⟨y.nB, 1, vlR (X.take y.k)⟩)]) (fun y => y.g) (fun y => X.length - y.k)
    (fun y => y.k ≤ X.length) ⟨0, Γ.g0 + 3, Γ.g0 + 4, Γ.g0 + 5⟩ (Nat.zero_le _) ?_ ?_
  · skip
    refine le_mk ?_ ?_ (Nat.le_refl _)
    all_goals first | with_reducible refine auE ?_ | exact auE0
    all_goals (repeat' (first | exact trivial | exact rfl | apply And.intro))
  rintro ⟨k, nA, nB, g⟩ hk
  dsimp only at hk ⊢
  with_reducible refine auL ?_
  by_cases hlt : k < X.length
  · obtain ⟨⟨b, v⟩, hx⟩ : ∃ t, X[k]? = some t := ⟨_, List.getElem?_eq_getElem hlt⟩
    have ex := xget_map rwE X k (b, v) hx
    have hbl := (hwX (b, v) (List.mem_of_getElem? hx)).2
    dsimp only at hbl
    have hno := netOf_spec b (by omega)
    have hts := take_snoc hx
    have sA : ntR (X.take k) ++ [ntC (netA b) b.length] = ntR (X.take (k + 1)) := by rw [hts]; exact ntR_snoc _ _ _
    have sB : vlR (X.take k) ++ [[.v (.int .i64 v)]] = vlR (X.take (k + 1)) := by rw [hts]; exact vlR_snoc _ _ _
    have lA : (ntR (X.take k)).length = k := by simp; omega
    have lB : (vlR (X.take k)).length = k := by simp; omega
    have wk : IntKind.i64.wrap ((k : Int) + 1) = ((k + 1 : Nat) : Int) := (IntWalk.i64_in _ (by omega)).trans (by omega)
    repeat' (first
      | (with_reducible refine auS ?_)
      | (first | (simp only [hlx, Int.toNat_natCast, ex, sA, sB, lA, lB]) | (with_reducible refine runR_call hno ?_))
      | (with_reducible refine auD ?_)
      | ((with_reducible refine auB ?_ ?_); all_goals first | (intro h; first | exact auH | simp only [h, runR_t, runR_f] | skip) | skip)
      | (first | ((with_reducible refine atN ?_); first | (refine runR_n ⟨by trivial, by trivial, by trivial, by trivial, lA.symm⟩ ?_) | (refine runR_n ⟨by trivial, by trivial, by trivial, by trivial, lB.symm⟩ ?_) | (refine runR_n ⟨by trivial, by (try rw [lA]); (try rw [lB]); unfold room maxLen; (try simp only [List.length_cons, List.length_nil]); omega⟩ ?_)) | fail))
    (all_goals first | exact auP | skip)
    refine nx_loop ⟨⟨k + 1, g + 2, g + 4, g + 5⟩, hlt, (show X.length - (k + 1) < X.length - k by omega), ?_⟩
    refine le_mk ?_ ?_ (Nat.le_refl _)
    all_goals first | with_reducible refine auE ?_ | exact auE0
    all_goals (repeat' (first | exact trivial | exact rfl | apply And.intro))
    all_goals exact dint wk
  · obtain rfl : k = X.length := by omega
    simp only [List.take_length]
    refine go_leG (leG_freeze hW ⟨.d0, .d1, .d6⟩ rfl rfl ⟨rfl, rfl, by simp⟩) ?_
    refine go_leG (leG_freeze hW ⟨.d0, .d1, .d7⟩ rfl rfl ⟨rfl, rfl, by simp⟩) ?_
    have eA : xtake (xdrop (ntR X) 0) X.length = ntR X := by rw [xdrop_eq, xtake_eq, List.drop_zero, List.take_of_length_le (Nat.le_of_eq (ntR_len X))]
    have eB : xtake (xdrop (vlR X) 0) X.length = vlR X := by rw [xdrop_eq, xtake_eq, List.drop_zero, List.take_of_length_le (Nat.le_of_eq (vlR_len X))]
    simp only [eA, eB]
    with_reducible refine auL ?_
    repeat' (first
      | (with_reducible refine auS ?_)
      | (first | (simp only [d1, hlx]) | (with_reducible refine runR_call hri ?_) | (with_reducible refine runR_call hnt ?_) | (with_reducible refine runR_call hvl ?_))
      | (with_reducible refine auD ?_)
      | ((with_reducible refine auB ?_ ?_); all_goals first | (intro h; first | exact auH | simp only [h, runR_t, runR_f] | skip) | skip)
      | fail)
    (all_goals first | exact auP | skip)
    all_goals first
      | (exfalso; simp at h; done)
      | skip
    all_goals with_reducible refine auF ?_
    all_goals (try first | with_reducible refine auR ?_ | exact auR0)
    all_goals (try simp only [hsM] at *)
    all_goals first
      | rfl
      | (refine dbool ?_; simp)
theorem finds_spec (L : List Nd) (a : Nat) (ha : a < 4294967296) : Spec Try.prog 3 [dTrie L false, .v (.int .u32 (a : Nat))] (.v (.bool true)) := by
  by_cases he : (readG L).2 = 0
  · exact finds_good L a ha he
  · exact finds_bad L a ha he
theorem u32_wf {x : Int} (h : (Lit.int .u32 x).wf = true) : 0 ≤ x ∧ x < 4294967296 := by
  have h2 : IntKind.u32.min ≤ x ∧ x ≤ IntKind.u32.max := by simpa [Lit.wf] using h
  have e1 : IntKind.u32.min = 0 := by decide
  have e2 : IntKind.u32.max = 4294967295 := by decide
  rw [e1, e2] at h2
  omega
abbrev ndT := (Int × Int × Unit) × Bool × Int × Unit
abbrev ndOf (t : ndT) : Nd := ⟨t.1.1, t.1.2.1, t.2.1, t.2.2.1⟩
theorem sv_PrefixFinds (l : List ndT) (a : Int) (u1 u2 : Unit) : valSs shsPrefixFinds ((l, u1), a, u2) = [dTrie (l.map ndOf) false, .v (.int .u32 a)] := by
  rw [dTrie, List.map_map]
  rfl
theorem corePrefixFinds (W : World) (args : Array Value) (h : opnAll W W.heap.size shsPrefixFinds args.toList) :
    Calls Try.prog 3 args W fun e W' => e = .returned (.bool true) ∧ Below W.heap.size W W' := by
  refine law_core rfl h (fun x hx => ?_)
  obtain ⟨⟨l, u1⟩, a, u2⟩ := x
  obtain ⟨-, ha, -⟩ := hx
  obtain ⟨h0, h1⟩ := u32_wf ha
  obtain ⟨A, rfl⟩ := Int.eq_ofNat_of_zero_le h0
  exact Eq.mpr (congrArg (fun l => Spec Try.prog 3 l (.v (.bool true))) (sv_PrefixFinds l A u1 u2)) (finds_spec _ A (by omega))
/-! THE ROW: the frame round 'core' -/
theorem ownPrefixFinds : ownKnob Try.prog.godebug = none := by kernel_rfl
theorem fitPrefixFinds : (List.range shsPrefixFinds.length).all (fun i => match shsPrefixFinds[i]?, Try.f3.params.toList[i]? with | some s, some t => s.fit Try.prog none t | _, _ => false) = true := by kernel_rfl
theorem laidPrefixFinds : laidOutB Try.prog = true := by kernel_rfl
theorem readPrefixFinds : Try.f3.params.toList.all (fun t => Try.prog.readableRec t && decide (t < Try.prog.types.size)) = true := by kernel_rfl
set_option maxRecDepth 100000 in
theorem liftedPrefixFinds (os : Os) (started : os.Started) (H : Type) (enc : TypeId × Value → H) :
    ReturnsInHanded {} Try.checked os 3 .any (Rows.prefixFindsSpec.pre6 enc Try.prog Try.f3 Rows.prefixFindsRow.domain false) (Rows.prefixFindsSpec.post enc Try.prog Try.f3 false true false false) :=
  law_lifted (C := Try.checked) (enc := enc) ownPrefixFinds started (by kernel_rfl) Try.func3
    (ChangeSpec.witness6 (enc := enc) (C := Try.checked) false ⟨#[], #[.agg #[.slice none 0 0], .int .u32 0], []⟩ 8 (by kernel_rfl) (by kernel_rfl) (by kernel_rfl) (by kernel_rfl))
    shsPrefixFinds (by kernel_rfl) fitPrefixFinds rfl (fun ds h => by
      match ds, h with
      | [d0, d1], _ => exact ⟨rfl, rfl, rfl⟩) 4 (by kernel_rfl) Try.underlying4 laidPrefixFinds readPrefixFinds corePrefixFinds
theorem overPrefixFinds : Rows.prefixFindsRow.holds Try.pinned (OpenSpec.ofChange Rows.prefixFindsSpec) :=
  OpenClaim.holds_of_wide 3 Try.f3 rfl rfl rfl rfl rfl rfl rfl ⟨rfl, rfl, rfl, rfl, rfl⟩ rfl rfl rfl rfl rfl (by kernel_rfl) Try.func3 (by kernel_rfl)
    (of_decide_eq_true (by kernel_rfl)) (by unfold Func.isWrapper; rw [if_neg (of_decide_eq_false (by kernel_rfl))]; exact ⟨rfl, rfl⟩)
    (fun os started H enc _ => liftedPrefixFinds os started H enc)
/-- THE STATEMENT -/
theorem provedPrefixFinds : Rows.PrefixFindsSaid := overPrefixFinds
#print axioms provedPrefixFinds
end Go.Proofs.Ytlfbjdafnappdaa
