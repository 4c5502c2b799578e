/-
  EthMacs, where what it reads is of bulk at most 1048576: whatever is handed in, the law's function returns true. The package-level variables that the row lists hold what the row says.
-/
import Derived.Test.YtcbcmaahgldlfaaDoorMacL
import Derived.Test.YtcbcmaahgldlfaaDoorUpDoor
namespace Go.Proofs.YtcbcmaahgldlfaaDoor
open Go.ChangeShapes Go.WideShapes Go.ChangeAt Go.RowKit
set_option linter.unusedVariables false
set_option linter.unusedSimpArgs false
def shsEthMacs : List Sh := [.cons (.int .u8) (.cons (.int .u8) (.cons (.int .u8) (.cons (.int .u8) (.cons (.int .u8) (.cons (.int .u8) (.nil)))))), .str]
def shwEthMacs : List Sh := [.cons (.int .u8) (.cons (.int .u8) (.cons (.int .u8) (.cons (.int .u8) (.cons (.int .u8) (.cons (.int .u8) (.nil)))))), .str]
theorem tmac_shape (ps : List (List UInt8)) : ∃ a b c d e f err : Int, tmac ps = .tup [.agg [cI a, cI b, cI c, cI d, cI e, cI f], .v (.int .i64 err)] := by
  unfold tmac
  split
  · rename_i h
    have h6 : (ps.map pieceV).length = 6 := by simpa using h.1
    generalize ps.map pieceV = vs at h6
    match vs, h6 with
    | [a, b, c, d, e, f], _ => exact ⟨a, b, c, d, e, f, 0, rfl⟩
  · exact ⟨0, 0, 0, 0, 0, 0, 10, rfl⟩
theorem many_rem {n : Int} (h : 0 ≤ n ∧ n < 256) : (bits .and .u8 n 1 == 1) = decide (n.tmod 2 = 1) := by
  rw [(and15 h).2, Int.tmod_eq_emod_of_nonneg h.1, Bool.eq_iff_iff, beq_iff_eq, decide_eq_true_iff]
set_option maxHeartbeats 2000000 in
theorem macs_law (m : Nat → Int) (hm : m6ok m) (s : List UInt8) (hs : s.length ≤ 1048576) : Spec Tryd.prog 3 [m6 m, .v (.string (mkS s))] (.v (.bool true)) := by
  have h1 := parse_spec s
  have h2 := textMac_spec s hs
  have h3 := many_spec m
  have h4 := show_spec m hm
  have h5 := macText_spec m hm
  rw [mac_same] at h1
  rw [show_same] at h4
  rw [many_rem (hm 0)] at h3
  obtain ⟨a, b, c, d, e, f, err, ht⟩ := tmac_shape (spl 58 s)
  rw [ht] at h1 h2
  unfold m6 at *
  dsimp only [cI] at *
  generalize joinM m = jm at *
  refine hspec_fn Tryd.func3 rfl ok_custlaw_EthMacs okr_custlaw_EthMacs rfl (by kernel_rfl) ?_
  intro Γ hW0 hN0 hL0
  have hW := hW0 rfl
  clear hW0 hN0 hL0
  unfold x_custlaw_EthMacs r_custlaw_EthMacs
  refine auC ?_
  repeat' (first
    | (refine auS ?_)
    | (first | (simp only [eq_self, decide_true, Bool.and_self, Bool.and_true, beq_self_eq_true]) | (with_reducible refine runR_call h1 ?_) | (with_reducible refine runR_call h2 ?_) | (with_reducible refine runR_call h3 ?_) | (with_reducible refine runR_call h4 ?_) | (with_reducible refine runR_call h5 ?_))
    | (refine auD ?_)
    | (with_reducible refine runR_b (fun h => ?_) (fun h => ?_) <;> first | exact auH | simp only [h, runR_t, runR_f])
    | (with_reducible refine condK_bl ?_ ?_)
    | (with_reducible refine condK_b (fun h => ?_) (fun h => ?_) <;> first | exact auH | skip)
    | fail)
  (all_goals first | exact auP | skip)
  all_goals first
    | (exfalso; simp at h; done)
    | skip
  all_goals refine auF ?_
  all_goals (try first | refine auR ?_ | exact auR0)
  all_goals (try simp only [hsM] at *)
  all_goals first
    | rfl
    | exact dbool (by simp)
theorem u8_wf {x : Int} (h : (Lit.int .u8 x).wf = true) : 0 ≤ x ∧ x < 256 := by
  have h2 : IntKind.u8.min ≤ x ∧ x ≤ IntKind.u8.max := by simpa [Lit.wf] using h
  have e1 : IntKind.u8.min = 0 := by decide
  have e2 : IntKind.u8.max = 255 := by decide
  rw [e1, e2] at h2
  omega
def mOf (a b c d e f : Int) : Nat → Int
  | 0 => a
  | 1 => b
  | 2 => c
  | 3 => d
  | 4 => e
  | 5 => f
  | _ => 0
theorem sv_EthMacs (a b c d e f : Int) (s : ByteArray) (u1 u2 : Unit) : valSs shwEthMacs ((a, b, c, d, e, f, u1), s, u2) = [m6 (mOf a b c d e f), .v (.string (mkS s.data.toList))] := by
  rw [mkS_data]
  rfl
theorem coreEthMacs (W : World) (args : Array Value) (hL : laidMetH Tryd.prog Rows.ethMacsUptoRow.laid W) (hst : ShortS shsEthMacs args.toList) (h : opnAll W W.heap.size (shsEthMacs.map Sh.wide) args.toList) :
    Calls Tryd.prog 3 args W fun e W' => e = .returned (.bool true) ∧ Below W.heap.size W W' := by
  have h' : opnAll W W.heap.size shwEthMacs args.toList := h
  refine law_core_a rfl h' (fun x hx ha => ?_)
  obtain ⟨⟨a, b, c, d, e, f, u1⟩, s, u2⟩ := x
  obtain ⟨⟨ha1, hb1, hc1, hd1, he1, hf1, -⟩, hs, -⟩ := hx
  have hsz : args.size = 2 := ha.1
  have hs2 : s.size ≤ 1048576 := by
    refine hst 1 s rfl ?_
    obtain ⟨l⟩ := args
    match l, hsz with
    | [v0, v1], _ =>
      have hv := ha.2 1 (.v (.string s)) v1 rfl rfl
      cases hv
      rfl
  refine Eq.mpr (congrArg (fun l => Spec Tryd.prog 3 l (.v (.bool true))) (sv_EthMacs a b c d e f s u1 u2)) (macs_law _ (fun i => ?_) _ ?_)
  · match i with
    | 0 => exact u8_wf ha1
    | 1 => exact u8_wf hb1
    | 2 => exact u8_wf hc1
    | 3 => exact u8_wf hd1
    | 4 => exact u8_wf he1
    | 5 => exact u8_wf hf1
    | n + 6 => exact ⟨Int.le_refl _, by show (0 : Int) < 256; omega⟩
  · have : s.data.toList.length = s.size := by
      cases s
      simp [ByteArray.size]
    omega
/-! THE ROW: the frame round 'core', where the arguments are small, and its card -/
theorem ownEthMacs : ownKnob Tryd.prog.godebug = none := by kernel_rfl
theorem fitEthMacs : (List.range shsEthMacs.length).all (fun i => match shsEthMacs[i]?, Tryd.f3.params.toList[i]? with | some s, some t => s.fit Tryd.prog none t | _, _ => false) = true := by kernel_rfl
theorem laidEthMacs : laidOutB Tryd.prog = true := by kernel_rfl
theorem readEthMacs : Tryd.f3.params.toList.all (fun t => Tryd.prog.readableRec t && decide (t < Tryd.prog.types.size)) = true := by kernel_rfl
theorem metEthMacs (os : Os) (args : Array Value) : laidMetH Tryd.prog Rows.ethMacsUptoRow.laid ((World.laidAll Tryd.prog os Rows.ethMacsUptoRow.laid).forCall (fun _ _ => 0) ⟨#[], args, []⟩).memory :=
  (MakeChecks.laidMetH_plain _ _ _ (by kernel_rfl)).mpr (laidMet_laidAll _ (by kernel_rfl) (by kernel_rfl))
set_option maxRecDepth 100000 in
theorem liftedEthMacs (os : Os) (started : os.Started) (H : Type) (enc : TypeId × Value → H) (F : Stop.Interp) :
    ReturnsInHanded {} Tryd.checked os 3 .any ((Rows.OpenSpec.upto Rows.ethMacsSpec).preRow enc Tryd.prog Tryd.f3 Rows.ethMacsUptoRow.domain false Rows.ethMacsUptoRow.laid) (((Rows.OpenSpec.upto Rows.ethMacsSpec).at F).post enc Tryd.prog Tryd.f3 false true false false) :=
  law_lifted_uptolaid (C := Tryd.checked) (enc := enc) ownEthMacs started (by kernel_rfl) Tryd.func3
    (witness_row_shaped (enc := enc) (C := Tryd.checked) (World.laidAll Tryd.prog os Rows.ethMacsUptoRow.laid) #[.agg #[.int .u8 0, .int .u8 0, .int .u8 0, .int .u8 0, .int .u8 0, .int .u8 0], .string ByteArray.empty] rfl (World.shaped_of_ZipB (by kernel_rfl) (by kernel_rfl)) (by kernel_rfl)
      (OpenSpec.preRow_of_cond 8 (x := ([.agg [.lit (.int .u8 0), .lit (.int .u8 0), .lit (.int .u8 0), .lit (.int .u8 0), .lit (.int .u8 0), .lit (.int .u8 0)], .lit (.string [])], [], [])) (by kernel_rfl) rfl (fun k hk => by cases hk; kernel_rfl) (by kernel_rfl) (metEthMacs os _)))
    shsEthMacs (by kernel_rfl) fitEthMacs rfl (fun ds h => by
      match ds, h with
      | [d0, d1], _ => exact ⟨rfl, rfl, rfl⟩) 4 (by kernel_rfl) Tryd.underlying4 laidEthMacs readEthMacs coreEthMacs
theorem overEthMacs : Rows.ethMacsUptoRow.holds Tryd.pinned (Rows.OpenSpec.upto Rows.ethMacsSpec) :=
  OpenClaim.holds_of_cond 3 Tryd.f3 rfl rfl rfl rfl rfl rfl rfl ⟨rfl, rfl, rfl, rfl, rfl⟩ rfl rfl rfl rfl rfl (by kernel_rfl) Tryd.func3 (by kernel_rfl)
    (of_decide_eq_true (by kernel_rfl)) (by unfold Func.isWrapper; rw [if_neg (of_decide_eq_false (by kernel_rfl))]; exact ⟨rfl, rfl⟩)
    (fun os started H enc _ F => by rw [OpenClaim.pre_eq_preRow]; exact liftedEthMacs os started H enc F)
/-- THE STATEMENT: the tied card. -/
theorem provedEthMacsUpto : Rows.EthMacsUptoCardSaid :=
  Claim7.holds_tied_plain_at .later [] [.data, .pinned] true (true, "d8e6e9740f0a3c06cc9886cd242fc26cefc30f022d33f63b2ea5ea2a95fcad5e") false
    overEthMacs (fun _ h => by cases h) (by kernel_rfl) (fun _ h => by cases h) ethMacsUpto_row_tie rfl ⟨rfl, rfl⟩ (by kernel_rfl) rfl
    (fun f fn hf hfn => by
      obtain rfl : f = 3 := Option.some.inj ((show Tryd.prog.funcNamed Rows.ethMacsUptoRow.func = some 3 by kernel_rfl).symm.trans hf) |>.symm
      obtain rfl : fn = Tryd.f3 := (Option.some.inj (Tryd.func3.symm.trans hfn)).symm
      exact ⟨by kernel_rfl, fun j t ht => by
        have hall : (Tryd.f3.params.toList.all fun u => !Tryd.prog.wantsStandIn u) = true := by kernel_rfl
        have hm : t ∈ Tryd.f3.params.toList := by simpa using Array.mem_of_getElem? ht
        exact (show Tryd.prog.wantsStandIn t = false by simpa using List.all_eq_true.1 hall t hm)⟩)
    (by kernel_rfl)
#print axioms provedEthMacsUpto
end Go.Proofs.YtcbcmaahgldlfaaDoor
