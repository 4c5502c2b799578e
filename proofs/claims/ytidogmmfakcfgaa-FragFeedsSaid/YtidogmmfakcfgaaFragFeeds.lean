/-
  FragFeeds: whatever is handed in, the law's function returns true. No condition.
-/
import Derived.Test.YtidogmmfakcfgaaFedI
import Derived.Test.YtidogmmfakcfgaaLawFw
import Derived.Test.YtidogmmfakcfgaaRows
namespace Go.Proofs.Ytidogmmfakcfgaa
open Go.ChangeShapes Go.WideShapes Go.ChangeAt Go.RowKit
set_option linter.unusedVariables false
set_option linter.unusedSimpArgs false
def shsFragFeeds : List Sh := [.slice 80 8 (.cons (.int .u32) (.cons (.int .u32) (.cons (.int .i64) (.cons (.int .i64) (.cons (.int .i64) (.cons (.int .i64) (.cons (.str) (.cons (.slice 32 3 (.cons (.int .i64) (.cons (.str) (.cons (.bool) (.nil))))) (.nil))))))))), .cons (.int .i64) (.cons (.int .i64) (.cons (.bool) (.cons (.bool) (.cons (.int .i64) (.cons (.int .i64) (.cons (.int .i64) (.cons (.int .u32) (.cons (.int .u32) (.cons (.str) (.cons (.str) (.nil)))))))))))]
set_option maxHeartbeats 2000000 in
theorem feeds_spec (l : List Hp) (p : Pk) (hin : FeedIn l p) : Spec Try.prog 3 [dPool l, dP p] (.v (.bool true)) := by
  obtain ⟨⟨a, x, b, e⟩, h1, h2, h3, h4⟩ := fed_both l p hin
  have hsp := samepool_spec a h3 h4
  have hck := hin.chk
  have hpr := hin.rr
  generalize poolErr l = E at *
  unfold dFd at h1 h2
  dsimp only at h1 h2
  clear h3 h4
  refine hspec_fn Try.func3 rfl ok_custlaw_FragFeeds okr_custlaw_FragFeeds rfl (by kernel_rfl) ?_
  intro Γ hW0 hN0 hL0
  have hW := hW0 rfl
  clear hW0 hN0 hL0
  unfold x_custlaw_FragFeeds r_custlaw_FragFeeds
  with_reducible refine auC ?_
  repeat' (first
    | (with_reducible refine auS ?_)
    | (first | (with_reducible refine runR_call h1 ?_) | (with_reducible refine runR_call h2 ?_) | (with_reducible refine runR_call hck ?_) | (with_reducible refine runR_call hpr ?_) | (with_reducible refine runR_call hsp ?_) | simp only [decide_true])
    | (with_reducible refine auD ?_)
    | ((with_reducible refine auB ?_ ?_); all_goals first | ((with_reducible intro h); first | exact auH | simp only [h, runR_t, runR_f] | skip) | skip)
    | fail)
  (all_goals first | exact auP | skip)
  all_goals first | (exfalso; simp at h; done) | skip
  all_goals with_reducible refine auF ?_
  all_goals (try first | with_reducible refine auR ?_ | exact auR0)
  all_goals (try simp only [hsM] at *)
  all_goals first
    | rfl
    | (refine dbool ?_; simp)
theorem u32_wf {x : Int} (h : (Lit.int .u32 x).wf = true) : 0 ≤ x ∧ x < 4294967296 := by
  have h2 : IntKind.u32.min ≤ x ∧ x ≤ IntKind.u32.max := by simpa [Lit.wf] using h
  have e1 : IntKind.u32.min = 0 := by decide
  have e2 : IntKind.u32.max = 4294967295 := by decide
  rw [e1, e2] at h2
  omega
abbrev RawP := Int × ByteArray × Bool × Unit
abbrev RawH := Int × Int × Int × Int × Int × Int × ByteArray × List RawP × Unit
def toPt (x : RawP) : Pt := ⟨x.1, x.2.1.data.toList, x.2.2.1⟩
def toHp (x : RawH) : Hp := ⟨x.1, x.2.1, x.2.2.1, x.2.2.2.1, x.2.2.2.2.1, x.2.2.2.2.2.1, x.2.2.2.2.2.2.1.data.toList, x.2.2.2.2.2.2.2.1.map toPt⟩
theorem encP_eq (x : RawP) : (toPt x).enc = [.v (.int .i64 x.1), .v (.string x.2.1), .v (.bool x.2.2.1)] := by
  unfold toPt
  dsimp only [Pt.enc]
  rw [mkS_data]
theorem encH_eq (x : RawH) : (toHp x).enc = [.v (.int .u32 x.1), .v (.int .u32 x.2.1), .v (.int .i64 x.2.2.1), .v (.int .i64 x.2.2.2.1), .v (.int .i64 x.2.2.2.2.1), .v (.int .i64 x.2.2.2.2.2.1), .v (.string x.2.2.2.2.2.2.1), .snap 3 (x.2.2.2.2.2.2.2.1.map (fun y => [.v (.int .i64 y.1), .v (.string y.2.1), .v (.bool y.2.2.1)])) false] := by
  unfold toHp
  dsimp only [Hp.enc, Hp.cells, dPs]
  rw [mkS_data, List.map_map]
  have e : (Pt.enc ∘ toPt) = fun y : RawP => [DV.v (.int .i64 y.1), .v (.string y.2.1), .v (.bool y.2.2.1)] := funext encP_eq
  rw [e]
theorem sv_FragFeeds (l : List RawH) (tos id start life proto fr to : Int) (wh mo : Bool) (opt data : ByteArray) (u1 u2 : Unit) : valSs shsFragFeeds (l, (tos, id, wh, mo, start, life, proto, fr, to, opt, data, u1), u2) = [dPool (l.map toHp), dP ⟨tos, id, wh, mo, start, life, proto, fr, to, opt.data.toList, data.data.toList⟩] := by
  have e : ∀ l : List RawH, (l.map toHp).map Hp.enc = l.map (fun x => [DV.v (.int .u32 x.1), .v (.int .u32 x.2.1), .v (.int .i64 x.2.2.1), .v (.int .i64 x.2.2.2.1), .v (.int .i64 x.2.2.2.2.1), .v (.int .i64 x.2.2.2.2.2.1), .v (.string x.2.2.2.2.2.2.1), .snap 3 (x.2.2.2.2.2.2.2.1.map (fun y => [.v (.int .i64 y.1), .v (.string y.2.1), .v (.bool y.2.2.1)])) false]) := fun l => by
    rw [List.map_map]
    exact List.map_congr_left fun x _ => encH_eq x
  rw [dP, Pk.enc]
  dsimp only
  rw [mkS_data, mkS_data]
  unfold dPool
  rw [e]
  rfl
theorem room_map {α β : Type} (f : α → β) (l : List α) (b : Nat) (h1 : l.length * b ≤ 140737488351232) (h2 : l.length ≤ maxLen) : room (l.map f).length b := by
  rw [List.length_map]
  exact ⟨h2, by omega⟩
theorem coreFragFeeds (W : World) (args : Array Value) (h : opnAll W W.heap.size shsFragFeeds args.toList) :
    Calls Try.prog 3 args W fun e W' => e = .returned (.bool true) ∧ Below W.heap.size W W' := by
  refine law_core rfl h (fun x hx => ?_)
  obtain ⟨l, ⟨tos, id, wh, mo, start, life, proto, fr, to, opt, data, u1⟩, u2⟩ := x
  obtain ⟨⟨hl1, hl2, hl3⟩, ⟨-, -, -, -, -, -, -, hfr, hto, ho, hd, -⟩, -⟩ := hx
  have hl1 : l.length * 80 ≤ 140737488351232 := hl1
  have hl2 : l.length ≤ maxLen := hl2
  refine Eq.mpr (congrArg (fun l => Spec Try.prog 3 l (.v (.bool true))) (sv_FragFeeds l tos id start life proto fr to wh mo opt data u1 u2)) (feeds_spec _ _ ⟨⟨?_, fun u hu => ?_⟩, fun u hu => ?_, ho, hd, u32_wf hfr, u32_wf hto⟩)
  · exact room_map toHp l 80 hl1 hl2
  · obtain ⟨x, hx, rfl⟩ := List.mem_map.1 hu
    obtain ⟨-, -, -, -, -, -, -, ⟨p1, p2, -⟩, -⟩ := hl3 x hx
    have p1 : x.2.2.2.2.2.2.2.1.length * 32 ≤ 140737488351232 := p1
    have p2 : x.2.2.2.2.2.2.2.1.length ≤ maxLen := p2
    exact room_map toPt _ 32 p1 p2
  · obtain ⟨x, hx, rfl⟩ := List.mem_map.1 hu
    obtain ⟨-, -, -, -, -, -, o1, ⟨-, -, p3⟩, -⟩ := hl3 x hx
    refine ⟨o1, fun p hp => ?_⟩
    obtain ⟨y, hy, rfl⟩ := List.mem_map.1 hp
    exact (p3 y hy).2.1
theorem ownFragFeeds : ownKnob Try.prog.godebug = none := by kernel_rfl
theorem fitFragFeeds : (List.range shsFragFeeds.length).all (fun i => match shsFragFeeds[i]?, Try.f3.params.toList[i]? with | some s, some t => s.fit Try.prog none t | _, _ => false) = true := by kernel_rfl
theorem laidFragFeeds : laidOutB Try.prog = true := by kernel_rfl
theorem readFragFeeds : Try.f3.params.toList.all (fun t => Try.prog.readableRec t && decide (t < Try.prog.types.size)) = true := by kernel_rfl
set_option maxRecDepth 100000 in
theorem liftedFragFeeds (os : Os) (started : os.Started) (H : Type) (enc : TypeId × Value → H) :
    ReturnsInHanded {} Try.checked os 3 .any (Rows.fragFeedsSpec.pre6 enc Try.prog Try.f3 Rows.fragFeedsRow.domain false) (Rows.fragFeedsSpec.post enc Try.prog Try.f3 false true false false) :=
  law_lifted (C := Try.checked) (enc := enc) ownFragFeeds started (by kernel_rfl) Try.func3
    (ChangeSpec.witness6 (enc := enc) (C := Try.checked) false ⟨#[], #[.slice none 0 0, .agg #[.int .i64 0, .int .i64 0, .bool false, .bool false, .int .i64 0, .int .i64 0, .int .i64 0, .int .u32 0, .int .u32 0, .string ByteArray.empty, .string ByteArray.empty]], []⟩ 8 (by kernel_rfl) (by kernel_rfl) (by kernel_rfl) (by kernel_rfl))
    shsFragFeeds (by kernel_rfl) fitFragFeeds rfl (fun ds h => by
      match ds, h with
      | [d0, d1], _ => exact ⟨rfl, rfl, rfl⟩) 4 (by kernel_rfl) Try.underlying4 laidFragFeeds readFragFeeds coreFragFeeds
theorem overFragFeeds : Rows.fragFeedsRow.holds Try.pinned (OpenSpec.ofChange Rows.fragFeedsSpec) :=
  OpenClaim.holds_of_wide 3 Try.f3 rfl rfl rfl rfl rfl rfl rfl ⟨rfl, rfl, rfl, rfl, rfl⟩ rfl rfl rfl rfl rfl (by kernel_rfl) Try.func3 (by kernel_rfl)
    (of_decide_eq_true (by kernel_rfl)) (by unfold Func.isWrapper; rw [if_neg (of_decide_eq_false (by kernel_rfl))]; exact ⟨rfl, rfl⟩)
    (fun os started H enc _ => liftedFragFeeds os started H enc)
theorem provedFragFeeds : Rows.FragFeedsSaid := overFragFeeds
#print axioms provedFragFeeds
end Go.Proofs.Ytidogmmfakcfgaa
