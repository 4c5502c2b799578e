/-
  SwapSays: whatever is handed in, the law's function returns true. No condition.
-/
import Derived.Test.YthdghenfidkdcaaSwapZ
import Derived.Test.YthdghenfidkdcaaSwapV
import Derived.Test.YthdghenfidkdcaaLawFw
import Derived.Test.YthdghenfidkdcaaRows
namespace Go.Proofs.Ythdghenfidkdcaa
open Go.ChangeShapes Go.WideShapes Go.ChangeAt Go.RowKit
set_option linter.unusedVariables false
set_option linter.unusedSimpArgs false

def shsSwapSays : List Sh := [.str, .int .u32, .int .i64]

abbrev dSw (s : List UInt8) (a port : Int) (at' off : Nat) : DV := .tup [.v (.string (mkS (rnR s a port at' off).1)), .v (.int .i64 (rnR s a port at' off).2)]
theorem swapped_spec (s : List UInt8) (a port : Int) (hs : s.length ≤ 140737488351232) (hab : 0 ≤ a ∧ a < 4294967296) (at' off : Nat) (hao : (at' = 12 ∧ off = 0) ∨ (at' = 16 ∧ off = 2)) : Spec Try.prog 16 [.v (.string (mkS s)), .v (.int .u32 a), .v (.int .i64 port), .v (.int .i64 (at' : Nat)), .v (.int .i64 (off : Nat))] (dSw s a port at' off) := by
  by_cases h : (edR s).2 = 0 ∧ (0 ≤ port ∧ port ≤ 65535)
  · exact swapped_ok s a port hs h.1 h.2 hab at' off hao
  · exact swapped_bad s a port hs (by by_cases q : (edR s).2 = 0; exact .inr (fun r => h ⟨q, r⟩); exact .inl q) at' off
theorem from_spec (s : List UInt8) (a port : Int) (hs : s.length ≤ 140737488351232) (hab : 0 ≤ a ∧ a < 4294967296) : Spec Try.prog 6 [.v (.string (mkS s)), .v (.int .u32 a), .v (.int .i64 port)] (dSw s a port 12 0) := by
  have h1 : Spec Try.prog 16 [.v (.string (mkS s)), .v (.int .u32 a), .v (.int .i64 port), .v (.int .i64 12), .v (.int .i64 0)] (dSw s a port 12 0) := swapped_spec s a port hs hab 12 0 (.inl ⟨rfl, rfl⟩)
  refine hspec_fn Try.func6 rfl ok_swap_From okr_swap_From rfl (by kernel_rfl) ?_
  intro Γ hW0 hN0 hL0
  have hW := hW0 rfl
  clear hW0 hN0 hL0
  unfold x_swap_From r_swap_From
  repeat' (first
    | (with_reducible first | refine go_seq ?_ | refine go_region ?_ | refine go_regionD mixed_ok ?_ | refine go_cond ?_ | refine go_skip ?_ | refine go_block ?_ | refine nx_code ?_ | refine nx_block ?_ | refine go_ret ?_ | refine nx_nil ?_ | refine go_exit ?_ | refine ex_code ?_ | refine ex_loop ?_ | refine ex_here ?_)
    | ((with_reducible refine ex_past ?_ ?_); (exact by decide))
    | ((with_reducible refine endD_intro ?_ ?_); (exact by kernel_rfl))
    | ((with_reducible refine runR_n ?_ ?_); exact auN)
    | (with_reducible refine runR_call h1 ?_)
    | (refine auD ?_)
    | (with_reducible refine runR_b (fun h => ?_) (fun h => ?_) <;> first | exact auH | simp only [h, runR_t, runR_f])
    | (with_reducible refine condK_bl ?_ ?_)
    | (with_reducible refine condK_b (fun h => ?_) (fun h => ?_) <;> first | exact auH | skip)
    | fail)
  (all_goals first | exact auP | skip)
  all_goals with_reducible refine ret_spec2 (by (try dsimp only [RetOK, resOk, resDs, resD, resV, cellV, cellO, cellP, cellOk, htake, nfD, nfL, nfLL, nfH, lget, partOf, xget, ddrop, dtake, dget, Env.get, N8.get, env0, List.length_cons, List.length_nil, Env.set, N8.set, lset, updL]); (repeat' (first | exact trivial | exact rfl | exact nfLL_map (fun x => by simp [nfL, nfD, nfD, nfL]) | decide | apply And.intro))) ?_
  all_goals (try dsimp only [RetOK, resOk, resDs, resD, resV, cellV, cellO, cellP, cellOk, htake, nfD, nfL, nfLL, nfH, lget, partOf, xget, ddrop, dtake, dget, Env.get, N8.get, env0, List.length_cons, List.length_nil, Env.set, N8.set, lset, updL])
  all_goals (try simp only [hsM] at *)
  all_goals rfl
theorem to_spec (s : List UInt8) (a port : Int) (hs : s.length ≤ 140737488351232) (hab : 0 ≤ a ∧ a < 4294967296) : Spec Try.prog 8 [.v (.string (mkS s)), .v (.int .u32 a), .v (.int .i64 port)] (dSw s a port 16 2) := by
  have h1 : Spec Try.prog 16 [.v (.string (mkS s)), .v (.int .u32 a), .v (.int .i64 port), .v (.int .i64 16), .v (.int .i64 2)] (dSw s a port 16 2) := swapped_spec s a port hs hab 16 2 (.inr ⟨rfl, rfl⟩)
  refine hspec_fn Try.func8 rfl ok_swap_To okr_swap_To rfl (by kernel_rfl) ?_
  intro Γ hW0 hN0 hL0
  have hW := hW0 rfl
  clear hW0 hN0 hL0
  unfold x_swap_To r_swap_To
  repeat' (first
    | (with_reducible first | refine go_seq ?_ | refine go_region ?_ | refine go_regionD mixed_ok ?_ | refine go_cond ?_ | refine go_skip ?_ | refine go_block ?_ | refine nx_code ?_ | refine nx_block ?_ | refine go_ret ?_ | refine nx_nil ?_ | refine go_exit ?_ | refine ex_code ?_ | refine ex_loop ?_ | refine ex_here ?_)
    | ((with_reducible refine ex_past ?_ ?_); (exact by decide))
    | ((with_reducible refine endD_intro ?_ ?_); (exact by kernel_rfl))
    | ((with_reducible refine runR_n ?_ ?_); exact auN)
    | (with_reducible refine runR_call h1 ?_)
    | (refine auD ?_)
    | (with_reducible refine runR_b (fun h => ?_) (fun h => ?_) <;> first | exact auH | simp only [h, runR_t, runR_f])
    | (with_reducible refine condK_bl ?_ ?_)
    | (with_reducible refine condK_b (fun h => ?_) (fun h => ?_) <;> first | exact auH | skip)
    | fail)
  (all_goals first | exact auP | skip)
  all_goals with_reducible refine ret_spec2 (by (try dsimp only [RetOK, resOk, resDs, resD, resV, cellV, cellO, cellP, cellOk, htake, nfD, nfL, nfLL, nfH, lget, partOf, xget, ddrop, dtake, dget, Env.get, N8.get, env0, List.length_cons, List.length_nil, Env.set, N8.set, lset, updL]); (repeat' (first | exact trivial | exact rfl | exact nfLL_map (fun x => by simp [nfL, nfD, nfD, nfL]) | decide | apply And.intro))) ?_
  all_goals (try dsimp only [RetOK, resOk, resDs, resD, resV, cellV, cellO, cellP, cellOk, htake, nfD, nfL, nfLL, nfH, lget, partOf, xget, ddrop, dtake, dget, Env.get, N8.get, env0, List.length_cons, List.length_nil, Env.set, N8.set, lset, updL])
  all_goals (try simp only [hsM] at *)
  all_goals rfl
theorem renF_spec (s : List UInt8) (a port : Int) (hs : s.length ≤ 140737488351232) (hab : 0 ≤ a ∧ a < 4294967296) : Spec Try.prog 7 [.v (.string (mkS s)), .v (.int .u32 a), .v (.int .i64 port), .v (.bool true)] (dSw s a port 12 0) := by
  by_cases h : (edR s).2 = 0 ∧ (0 ≤ port ∧ port ≤ 65535)
  · exact renamed_from s a port hs h.1 h.2 hab
  · exact renamed_bad s a port true hs (by by_cases q : (edR s).2 = 0; exact .inr (fun r => h ⟨q, r⟩); exact .inl q) 12 0
theorem renT_spec (s : List UInt8) (a port : Int) (hs : s.length ≤ 140737488351232) (hab : 0 ≤ a ∧ a < 4294967296) : Spec Try.prog 7 [.v (.string (mkS s)), .v (.int .u32 a), .v (.int .i64 port), .v (.bool false)] (dSw s a port 16 2) := by
  by_cases h : (edR s).2 = 0 ∧ (0 ≤ port ∧ port ≤ 65535)
  · exact renamed_to s a port hs h.1 h.2 hab
  · exact renamed_bad s a port false hs (by by_cases q : (edR s).2 = 0; exact .inr (fun r => h ⟨q, r⟩); exact .inl q) 16 2
set_option maxHeartbeats 4000000 in
theorem swap_spec (s : List UInt8) (a port : Int) (hs : s.length ≤ 140737488351232) (hab : 0 ≤ a ∧ a < 4294967296) : Spec Try.prog 3 [.v (.string (mkS s)), .v (.int .u32 a), .v (.int .i64 port)] (.v (.bool true)) := by
  have h1 := ends_spec s hs
  have h2 := endsOf_spec s hs
  have h3 := from_spec s a port hs hab
  have h4 := renF_spec s a port hs hab
  have h5 := to_spec s a port hs hab
  have h6 := renT_spec s a port hs hab
  generalize edR s = r at *
  unfold dSw at h3 h4 h5 h6
  generalize rnR s a port 12 0 = x at *
  generalize rnR s a port 16 2 = y at *
  refine hspec_fn Try.func3 rfl ok_custlaw_SwapSays okr_custlaw_SwapSays rfl (by kernel_rfl) ?_
  intro Γ hW0 hN0 hL0
  have hW := hW0 rfl
  clear hW0 hN0 hL0
  unfold x_custlaw_SwapSays r_custlaw_SwapSays
  repeat' (first
    | (with_reducible first | refine go_seq ?_ | refine go_region ?_ | refine go_regionD mixed_ok ?_ | refine go_cond ?_ | refine go_skip ?_ | refine go_block ?_ | refine nx_code ?_ | refine nx_block ?_ | refine go_ret ?_ | refine nx_nil ?_ | refine go_exit ?_ | refine ex_code ?_ | refine ex_loop ?_ | refine ex_here ?_)
    | ((with_reducible refine ex_past ?_ ?_); (exact by decide))
    | ((with_reducible refine endD_intro ?_ ?_); (exact by kernel_rfl))
    | ((with_reducible refine runR_n ?_ ?_); exact auN)
    | (first | (simp only [eq_self, decide_true, Bool.and_self, Bool.and_true]) | (with_reducible refine runR_call h1 ?_) | (with_reducible refine runR_call h2 ?_) | (with_reducible refine runR_call h3 ?_) | (with_reducible refine runR_call h4 ?_) | (with_reducible refine runR_call h5 ?_) | (with_reducible refine runR_call h6 ?_))
    | (refine auD ?_)
    | (with_reducible refine runR_b (fun h => ?_) (fun h => ?_) <;> first | exact auH | simp only [h, runR_t, runR_f])
    | (with_reducible refine condK_bl ?_ ?_)
    | (with_reducible refine condK_b (fun h => ?_) (fun h => ?_) <;> first | exact auH | skip)
    | fail)
  (all_goals first | exact auP | skip)

  all_goals first
    | (exfalso; simp at h; done)
    | skip
  all_goals with_reducible refine ret_spec2 (by (try dsimp only [RetOK, resOk, resDs, resD, resV, cellV, cellO, cellP, cellOk, htake, nfD, nfL, nfLL, nfH, lget, partOf, xget, ddrop, dtake, dget, Env.get, N8.get, env0, List.length_cons, List.length_nil, Env.set, N8.set, lset, updL]); (repeat' (first | exact trivial | exact rfl | exact nfLL_map (fun x => by simp [nfL, nfD, nfD, nfL]) | decide | apply And.intro))) ?_
  all_goals (try dsimp only [RetOK, resOk, resDs, resD, resV, cellV, cellO, cellP, cellOk, htake, nfD, nfL, nfLL, nfH, lget, partOf, xget, ddrop, dtake, dget, Env.get, N8.get, env0, List.length_cons, List.length_nil, Env.set, N8.set, lset, updL])
  all_goals (try simp only [hsM] at *)

  all_goals first
    | rfl
    | (refine dbool ?_; simp)
theorem u32_wf {x : Int} (h : (Lit.int .u32 x).wf = true) : 0 ≤ x ∧ x < 4294967296 := by
  have h2 : IntKind.u32.min ≤ x ∧ x ≤ IntKind.u32.max := by simpa [Lit.wf] using h
  have e1 : IntKind.u32.min = 0 := by decide
  have e2 : IntKind.u32.max = 4294967295 := by decide
  rw [e1, e2] at h2
  omega
theorem sv_SwapSays (s : ByteArray) (a port : Int) (u2 : Unit) : valSs shsSwapSays (s, a, port, u2) = [.v (.string (mkS s.data.toList)), .v (.int .u32 a), .v (.int .i64 port)] := by
  rw [mkS_data]
  rfl
theorem coreSwapSays (W : World) (args : Array Value) (h : opnAll W W.heap.size shsSwapSays args.toList) :
    Calls Try.prog 3 args W fun e W' => e = .returned (.bool true) ∧ Below W.heap.size W W' := by
  refine law_core rfl h (fun x hx => ?_)
  obtain ⟨s, a, port, u2⟩ := x
  obtain ⟨hs, ha, -, -⟩ := hx
  exact Eq.mpr (congrArg (fun l => Spec Try.prog 3 l (.v (.bool true))) (sv_SwapSays s a port u2)) (swap_spec _ a port hs (u32_wf ha))
/-! THE ROW: the frame round 'core' -/
theorem ownSwapSays : ownKnob Try.prog.godebug = none := by kernel_rfl
theorem fitSwapSays : (List.range shsSwapSays.length).all (fun i => match shsSwapSays[i]?, Try.f3.params.toList[i]? with | some s, some t => s.fit Try.prog none t | _, _ => false) = true := by kernel_rfl
theorem laidSwapSays : laidOutB Try.prog = true := by kernel_rfl
theorem readSwapSays : Try.f3.params.toList.all (fun t => Try.prog.readableRec t && decide (t < Try.prog.types.size)) = true := by kernel_rfl
set_option maxRecDepth 100000 in
theorem liftedSwapSays (os : Os) (started : os.Started) (H : Type) (enc : TypeId × Value → H) :
    ReturnsInHanded {} Try.checked os 3 .any (Rows.swapSaysSpec.pre6 enc Try.prog Try.f3 Rows.swapSaysRow.domain false) (Rows.swapSaysSpec.post enc Try.prog Try.f3 false true false false) :=
  law_lifted (C := Try.checked) (enc := enc) ownSwapSays started (by kernel_rfl) Try.func3
    (ChangeSpec.witness6 (enc := enc) (C := Try.checked) false ⟨#[], #[.string ByteArray.empty, .int .u32 0, .int .i64 0], []⟩ 8 (by kernel_rfl) (by kernel_rfl) (by kernel_rfl) (by kernel_rfl))
    shsSwapSays (by kernel_rfl) fitSwapSays rfl (fun ds h => by
      match ds, h with
      | [d0, d1, d2], _ => exact ⟨rfl, rfl, rfl⟩) 4 (by kernel_rfl) Try.underlying4 laidSwapSays readSwapSays coreSwapSays
theorem overSwapSays : Rows.swapSaysRow.holds Try.pinned (OpenSpec.ofChange Rows.swapSaysSpec) :=
  OpenClaim.holds_of_wide 3 Try.f3 rfl rfl rfl rfl rfl rfl rfl ⟨rfl, rfl, rfl, rfl, rfl⟩ rfl rfl rfl rfl rfl (by kernel_rfl) Try.func3 (by kernel_rfl)
    (of_decide_eq_true (by kernel_rfl)) (by unfold Func.isWrapper; rw [if_neg (of_decide_eq_false (by kernel_rfl))]; exact ⟨rfl, rfl⟩)
    (fun os started H enc _ => liftedSwapSays os started H enc)
/-- THE STATEMENT -/
theorem provedSwapSays : Rows.SwapSaysSaid := overSwapSays
#print axioms provedSwapSays
end Go.Proofs.Ythdghenfidkdcaa
