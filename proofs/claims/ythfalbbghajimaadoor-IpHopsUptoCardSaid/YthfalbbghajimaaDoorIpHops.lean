/-
  IpHops, where what it reads is of bulk at most 1048576: whatever is handed in, the law's function returns true. The package-level variables that the row lists hold what the row says.
-/
import Derived.Test.YthfalbbghajimaaDoorAdrZ
import Derived.Test.YthfalbbghajimaaDoorHopX
import Derived.Test.YthfalbbghajimaaDoorUpDoor
import Derived.Test.YthfalbbghajimaaDoorGlobL
namespace Go.Proofs.YthfalbbghajimaaDoor
open Go.ChangeShapes Go.WideShapes Go.ChangeAt Go.RowKit
set_option linter.unusedVariables false
set_option linter.unusedSimpArgs false
def shsIpHops : List Sh := [.str, .int .u32, .str]
def shwIpHops : List Sh := [.str, .int .u32, .str]
set_option maxHeartbeats 2000000 in
theorem hops_law (s : List UInt8) (hs : s.length ≤ 1048576) (a : Nat) (ha : a < 4294967296) (t : List UInt8) (ht : t.length ≤ 1048576) : Spec Tryd.prog 3 [.v (.string (mkS s)), .v (.int .u32 (a : Nat)), .v (.string (mkS t))] (.v (.bool true)) := by
  have h1 := hop_spec s (by omega)
  have h2 := hopped_spec s (by omega)
  have h3 := parse_spec t ht
  have h4 := textAddr_spec t ht
  have h5 := show_spec a ha
  have h6 := addrText_spec a ha
  rw [adr_same] at h3
  unfold dNE at h3 h4
  unfold dSI at h1 h2
  generalize mkS (hopR s).1 = A1 at *
  generalize (hopR s).2 = A2 at *
  generalize (((txtA (spl 46 t)).1 : Nat) : Int) = B1 at *
  generalize (txtA (spl 46 t)).2 = B2 at *
  generalize mkS (showA a) = C1 at *
  refine hspec_fn Tryd.func3 rfl ok_custlaw_IpHops okr_custlaw_IpHops rfl (by kernel_rfl) ?_
  intro Γ hW0 hN0 hL0
  have hW := hW0 rfl
  clear hW0 hN0 hL0
  unfold x_custlaw_IpHops r_custlaw_IpHops
  refine auC ?_
  repeat' (first
    | (refine auS ?_)
    | (first | (simp only [eq_self, decide_true, Bool.and_self, Bool.and_true, beq_self_eq_true]) | (with_reducible refine runR_call h1 ?_) | (with_reducible refine runR_call h2 ?_) | (with_reducible refine runR_call h3 ?_) | (with_reducible refine runR_call h4 ?_) | (with_reducible refine runR_call h5 ?_) | (with_reducible refine runR_call h6 ?_))
    | (refine auD ?_)
    | (with_reducible refine runR_b (fun h => ?_) (fun h => ?_) <;> first | exact auH | simp only [h, runR_t, runR_f])
    | (with_reducible refine condK_bl ?_ ?_)
    | (with_reducible refine condK_b (fun h => ?_) (fun h => ?_) <;> first | exact auH | skip)
    | fail)
  (all_goals first | exact auP | skip)
  all_goals first
    | (exfalso; simp at h; done)
    | skip
  all_goals refine auF ?_
  all_goals (try first | refine auR ?_ | exact auR0)
  all_goals (try simp only [hsM] at *)
  all_goals first
    | rfl
    | exact dbool (by simp)
theorem u32_wf {x : Int} (h : (Lit.int .u32 x).wf = true) : 0 ≤ x ∧ x < 4294967296 := by
  have h2 : IntKind.u32.min ≤ x ∧ x ≤ IntKind.u32.max := by simpa [Lit.wf] using h
  have e1 : IntKind.u32.min = 0 := by decide
  have e2 : IntKind.u32.max = 4294967295 := by decide
  rw [e1, e2] at h2
  omega
theorem sv_IpHops (s : ByteArray) (a : Nat) (t : ByteArray) (u : Unit) : valSs shwIpHops (s, (a : Int), t, u) = [.v (.string (mkS s.data.toList)), .v (.int .u32 (a : Nat)), .v (.string (mkS t.data.toList))] := by
  rw [mkS_data, mkS_data]
  rfl
theorem len_data (s : ByteArray) : s.data.toList.length = s.size := by
  cases s
  simp [ByteArray.size]
theorem globs_of_laid {W : World} (h : laidMetH Tryd.prog Rows.ipHopsUptoRow.laid W) : GlobW W := by
  rw [MakeChecks.laidMetH_plain _ _ _ (by kernel_rfl)] at h
  intro g cs hg
  unfold gtab at hg
  simp only [List.mem_cons, List.not_mem_nil, or_false, Prod.mk.injEq] at hg
  rcases hg with ⟨rfl, rfl⟩ | ⟨rfl, rfl⟩ | ⟨rfl, rfl⟩ | ⟨rfl, rfl⟩
  · exact glob_tab h (name := "math/bits.deBruijn64tab") (k := .u8) (zs := deBrN.map fun (n : Nat) => (n : Int)) (n := 64) (e := 5) (t := 112) (List.mem_of_getElem? (i := 1) rfl) (by kernel_rfl) (by kernel_rfl) Tryd.underlying112 Tryd.underlying5 (by kernel_rfl) (by kernel_rfl)
  · exact glob_tab h (name := "internal/strconv.uint64pow10") (k := .u64) (zs := Lib.pow10Tab) (n := 20) (e := 42) (t := 101) (List.mem_of_getElem? (i := 2) rfl) (by kernel_rfl) (by kernel_rfl) Tryd.underlying101 Tryd.underlying42 (by kernel_rfl) (by kernel_rfl)
  · exact glob_ifc h (name := "strconv.ErrRange") (List.mem_of_getElem? (i := 4) rfl) (t := 44) (by kernel_rfl) (by kernel_rfl) Tryd.underlying44
  · exact glob_ifc h (name := "strconv.ErrSyntax") (List.mem_of_getElem? (i := 5) rfl) (t := 44) (by kernel_rfl) (by kernel_rfl) Tryd.underlying44
theorem coreIpHops (W : World) (args : Array Value) (hL : laidMetH Tryd.prog Rows.ipHopsUptoRow.laid W) (hst : ShortS shsIpHops args.toList) (h : opnAll W W.heap.size (shsIpHops.map Sh.wide) args.toList) :
    Calls Tryd.prog 3 args W fun e W' => e = .returned (.bool true) ∧ Below W.heap.size W W' := by
  have h' : opnAll W W.heap.size shwIpHops args.toList := h
  refine law_core_a rfl h' (fun x hx ha => ?_) (globs_of_laid hL)
  obtain ⟨s, a, t, u⟩ := x
  obtain ⟨hs, hwa, ht, -⟩ := hx
  have hsz : args.size = 3 := ha.1
  have hs2 : s.size ≤ 1048576 := by
    refine hst 0 s rfl ?_
    obtain ⟨l⟩ := args
    match l, hsz with
    | [v0, v1, v2], _ =>
      have hv := ha.2 0 (.v (.string s)) v0 rfl rfl
      cases hv
      rfl
  have ht2 : t.size ≤ 1048576 := by
    refine hst 2 t rfl ?_
    obtain ⟨l⟩ := args
    match l, hsz with
    | [v0, v1, v2], _ =>
      have hv := ha.2 2 (.v (.string t)) v2 rfl rfl
      cases hv
      rfl
  have ha2 := u32_wf hwa
  obtain ⟨n, rfl⟩ : ∃ n : Nat, @Eq Int a (n : Int) := ⟨Int.toNat a, (Int.toNat_of_nonneg ha2.1).symm⟩
  exact Eq.mpr (congrArg (fun l => Spec Tryd.prog 3 l (.v (.bool true))) (sv_IpHops s n t u)) (hops_law _ (Nat.le_trans (Nat.le_of_eq (len_data s)) hs2) _ (by have := ha2.2; omega) _ (Nat.le_trans (Nat.le_of_eq (len_data t)) ht2))
/-! THE ROW: the frame round 'core', where the arguments are small, and its card -/
theorem ownIpHops : ownKnob Tryd.prog.godebug = none := by kernel_rfl
theorem fitIpHops : (List.range shsIpHops.length).all (fun i => match shsIpHops[i]?, Tryd.f3.params.toList[i]? with | some s, some t => s.fit Tryd.prog none t | _, _ => false) = true := by kernel_rfl
theorem laidIpHops : laidOutB Tryd.prog = true := by kernel_rfl
theorem readIpHops : Tryd.f3.params.toList.all (fun t => Tryd.prog.readableRec t && decide (t < Tryd.prog.types.size)) = true := by kernel_rfl
theorem metIpHops (os : Os) (args : Array Value) : laidMetH Tryd.prog Rows.ipHopsUptoRow.laid ((World.laidAll Tryd.prog os Rows.ipHopsUptoRow.laid).forCall (fun _ _ => 0) ⟨#[], args, []⟩).memory :=
  (MakeChecks.laidMetH_plain _ _ _ (by kernel_rfl)).mpr (laidMet_laidAll _ (by kernel_rfl) (by kernel_rfl))
set_option maxRecDepth 100000 in
theorem liftedIpHops (os : Os) (started : os.Started) (H : Type) (enc : TypeId × Value → H) (F : Stop.Interp) :
    ReturnsInHanded {} Tryd.checked os 3 .any ((Rows.OpenSpec.upto Rows.ipHopsSpec).preRow enc Tryd.prog Tryd.f3 Rows.ipHopsUptoRow.domain false Rows.ipHopsUptoRow.laid) (((Rows.OpenSpec.upto Rows.ipHopsSpec).at F).post enc Tryd.prog Tryd.f3 false true false false) :=
  law_lifted_uptolaid (C := Tryd.checked) (enc := enc) ownIpHops started (by kernel_rfl) Tryd.func3
    (witness_row_shaped (enc := enc) (C := Tryd.checked) (World.laidAll Tryd.prog os Rows.ipHopsUptoRow.laid) #[.string ByteArray.empty, .int .u32 0, .string ByteArray.empty] rfl (World.shaped_of_ZipB (by kernel_rfl) (by kernel_rfl)) (by kernel_rfl)
      (OpenSpec.preRow_of_cond 8 (x := ([.lit (.string []), .lit (.int .u32 0), .lit (.string [])], [], [])) (by kernel_rfl) rfl (fun k hk => by cases hk; kernel_rfl) (by kernel_rfl) (metIpHops os _)))
    shsIpHops (by kernel_rfl) fitIpHops rfl (fun ds h => by
      match ds, h with
      | [d0, d1, d2], _ => exact ⟨rfl, rfl, rfl⟩) 4 (by kernel_rfl) Tryd.underlying4 laidIpHops readIpHops coreIpHops
theorem overIpHops : Rows.ipHopsUptoRow.holds Tryd.pinned (Rows.OpenSpec.upto Rows.ipHopsSpec) :=
  OpenClaim.holds_of_cond 3 Tryd.f3 rfl rfl rfl rfl rfl rfl rfl ⟨rfl, rfl, rfl, rfl, rfl⟩ rfl rfl rfl rfl rfl (by kernel_rfl) Tryd.func3 (by kernel_rfl)
    (of_decide_eq_true (by kernel_rfl)) (by unfold Func.isWrapper; rw [if_neg (of_decide_eq_false (by kernel_rfl))]; exact ⟨rfl, rfl⟩)
    (fun os started H enc _ F => by rw [OpenClaim.pre_eq_preRow]; exact liftedIpHops os started H enc F)
/-- THE STATEMENT: the tied card. -/
theorem provedIpHopsUpto : Rows.IpHopsUptoCardSaid :=
  Claim7.holds_tied_plain_at .later [] [.data, .data, .data, .data, .sentinel, .sentinel, .pinned] true (true, "02c3a908a276e231610a9cb08c3dc7b35050c6f3faf7d14209661bd66ebdbc5d") true
    overIpHops (fun _ h => by cases h) (by kernel_rfl) (fun _ h => by cases h) ipHopsUpto_row_tie rfl ⟨rfl, rfl⟩ (by kernel_rfl) rfl
    (fun f fn hf hfn => by
      obtain rfl : f = 3 := Option.some.inj ((show Tryd.prog.funcNamed Rows.ipHopsUptoRow.func = some 3 by kernel_rfl).symm.trans hf) |>.symm
      obtain rfl : fn = Tryd.f3 := (Option.some.inj (Tryd.func3.symm.trans hfn)).symm
      exact ⟨by kernel_rfl, fun j t ht => by
        have hall : (Tryd.f3.params.toList.all fun u => !Tryd.prog.wantsStandIn u) = true := by kernel_rfl
        have hm : t ∈ Tryd.f3.params.toList := by simpa using Array.mem_of_getElem? ht
        exact (show Tryd.prog.wantsStandIn t = false by simpa using List.all_eq_true.1 hall t hm)⟩)
    (by kernel_rfl)
#print axioms provedIpHopsUpto
end Go.Proofs.YthfalbbghajimaaDoor
