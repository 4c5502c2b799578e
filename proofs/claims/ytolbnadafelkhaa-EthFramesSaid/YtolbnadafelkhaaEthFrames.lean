/-
  EthFrames: whatever is handed in, the law's function returns true. No condition.
-/
import Derived.Test.YtolbnadafelkhaaFrameW
import Derived.Test.YtolbnadafelkhaaEthReadW
import Derived.Test.YtolbnadafelkhaaTextTagW
import Derived.Test.YtolbnadafelkhaaBase
import Derived.Test.YtolbnadafelkhaaRows
import Derived.Outline
import Derived.Test.YtolbnadafelkhaaFrameSame
namespace Go.Proofs.Ytolbnadafelkhaa
open Go.ChangeShapes Go.WideShapes Go.ChangeAt Go.RowKit
set_option linter.unusedVariables false
set_option linter.unusedSimpArgs false

def shsEthFrames : List Sh := [.cons (.cons (.int .u8) (.cons (.int .u8) (.cons (.int .u8) (.cons (.int .u8) (.cons (.int .u8) (.cons (.int .u8) (.nil))))))) (.cons (.cons (.int .u8) (.cons (.int .u8) (.cons (.int .u8) (.cons (.int .u8) (.cons (.int .u8) (.cons (.int .u8) (.nil))))))) (.cons (.int .i64) (.cons (.int .i64) (.cons (.str) (.nil))))), .str]
theorem calls_named {P : Program} {f : FuncId} {args : Array Value} {W : World} {R : Ending → World → Prop} (h : ∀ W', W' = W → Calls P f args W' R) : Calls P f args W R := h W rfl
theorem frameRes_form (a0 a1 a2 a3 a4 a5 b0 b1 b2 b3 b4 b5 vl ty : Int) (d : ByteArray) : ∃ (x : ByteArray) (n : Int), frameRes a0 a1 a2 a3 a4 a5 b0 b1 b2 b3 b4 b5 vl ty d = .tuple #[.string x, .int .i64 n] := by
  unfold frameRes
  split
  · exact ⟨_, _, rfl⟩
  · exact ⟨_, _, rfl⟩
theorem rdRes_form (s : ByteArray) : ∃ (a0 a1 a2 a3 a4 a5 b0 b1 b2 b3 b4 b5 vl ty : Int) (d : ByteArray) (n : Int), rdRes s = .tuple #[.agg #[.int .u8 a0, .int .u8 a1, .int .u8 a2, .int .u8 a3, .int .u8 a4, .int .u8 a5, .int .u8 b0, .int .u8 b1, .int .u8 b2, .int .u8 b3, .int .u8 b4, .int .u8 b5, .int .i64 vl, .int .i64 ty, .string d], .int .i64 n] := by
  unfold rdRes
  split
  · unfold rdFrame
    split
    · exact ⟨_, _, _, _, _, _, _, _, _, _, _, _, _, _, _, _, rfl⟩
    · exact ⟨_, _, _, _, _, _, _, _, _, _, _, _, _, _, _, _, rfl⟩
  · exact ⟨0, 0, 0, 0, 0, 0, 0, 0, 0, 0, 0, 0, 0, 0, ⟨#[]⟩, _, rfl⟩
set_option maxRecDepth 100000 in
set_option maxHeartbeats 4000000 in
theorem ethFrames_walk (a0 a1 a2 a3 a4 a5 b0 b1 b2 b3 b4 b5 vl ty : Int) (d s : ByteArray) (w : World) (hl : ∀ x ∈ [a0, a1, a2, a3, a4, a5, b0, b1, b2, b3, b4, b5], 0 ≤ x ∧ x ≤ 255) (hs : s.size ≤ 140737488351232) :
    Calls Try.prog 7 #[frameVal a0 a1 a2 a3 a4 a5 b0 b1 b2 b3 b4 b5 vl ty d, .string s] w fun e w' => e = .returned (.bool true) ∧ Below w.heap.size w w' := by
  have HH := Lib.hid hl
  clear hl
  unfold frameVal
  go_enter Try.func7, Try.ntmps7
  go_upto_region 1 with (fail)
  have hblk := Blk.new w 48 #[.int .u8 a0, .int .u8 a1, .int .u8 a2, .int .u8 a3, .int .u8 a4, .int .u8 a5, .int .u8 b0, .int .u8 b1, .int .u8 b2, .int .u8 b3, .int .u8 b4, .int .u8 b5, .int .i64 vl, .int .i64 ty, .string d]
  have hbw : Below w.heap.size w (w.alloc (.cells #[.int .u8 a0, .int .u8 a1, .int .u8 a2, .int .u8 a3, .int .u8 a4, .int .u8 a5, .int .u8 b0, .int .u8 b1, .int .u8 b2, .int .u8 b3, .int .u8 b4, .int .u8 b5, .int .i64 vl, .int .i64 ty, .string d] 48)) := (Below.refl _ _).alloc (Nat.le_refl _) _
  generalize w.alloc (.cells #[.int .u8 a0, .int .u8 a1, .int .u8 a2, .int .u8 a3, .int .u8 a4, .int .u8 a5, .int .u8 b0, .int .u8 b1, .int .u8 b2, .int .u8 b3, .int .u8 b4, .int .u8 b5, .int .i64 vl, .int .i64 ty, .string d] 48) = W at hblk hbw ⊢
  have HB := Lib.hid hblk
  have HW := Lib.hid hbw
  have hc := hblk.cell
  have hf := hblk.frozen
  clear hblk hbw
  go_wp2_with fail
  obtain ⟨fx, fn, hfr⟩ := frameRes_form a0 a1 a2 a3 a4 a5 b0 b1 b2 b3 b4 b5 vl ty d
  refine (ethwrite_any a0 a1 a2 a3 a4 a5 b0 b1 b2 b3 b4 b5 vl ty d _).mono ?_
  rintro e w1 ⟨rfl, hb1⟩
  rw [hfr]
  have HFR := Lib.hid hfr
  have HB1 := Lib.hid (HB.out.below hb1 HB.out.lt)
  have HW1 := Lib.hid (HW.out.trans (hb1.mono HW.out.size))
  clear hc hf hb1 hfr
  have hc := HB1.out.cell
  have hf := HB1.out.frozen
  go_wp2_with fail
  refine (frametext_any a0 a1 a2 a3 a4 a5 b0 b1 b2 b3 b4 b5 vl ty d _ HH.out).mono ?_
  rintro e w2 ⟨rfl, hb2⟩
  rw [HFR.out]
  have HB2 := Lib.hid (HB1.out.below hb2 HB1.out.lt)
  have HW2 := Lib.hid (HW1.out.trans (hb2.mono HW1.out.size))
  clear hc hf hb2
  go_wp2_with fail
  refine (ethread_any s _ hs).mono ?_
  rintro e w3 ⟨rfl, hb3⟩
  have HW3 := Lib.hid (HW2.out.trans (hb3.mono HW2.out.size))
  clear hb3
  obtain ⟨x0, x1, x2, x3, x4, x5, y0, y1, y2, y3, y4, y5, xl, xt, xd, xn, hrd⟩ := rdRes_form s
  rw [hrd]
  have HRD := Lib.hid hrd
  clear hrd
  go_wp2_with fail
  refine calls_named ?_
  intro W5 hW5
  have hx5 : Blk W5 w3.heap.size 48 #[.int .u8 x0, .int .u8 x1, .int .u8 x2, .int .u8 x3, .int .u8 x4, .int .u8 x5, .int .u8 y0, .int .u8 y1, .int .u8 y2, .int .u8 y3, .int .u8 y4, .int .u8 y5, .int .i64 xl, .int .i64 xt, .string xd] := by
    rw [hW5]
    unfold Blk
    simp (disch := (first | omega | (simp only [size_push, size_set, heap_drew, heap_drewN, rowWorld_size]; done) | (simp only [size_push, size_set, heap_drew, heap_drewN, rowWorld_size]; omega))) only [heap_set_eq, heap_set_ne, heap_push_eq, heap_push_ne, heap_row_ne, heap_drew, heap_drewN, size_push, size_set, rowWorld_size]
    try (simp [setObj]; done)
  have hbw : Below w.heap.size w W5 := by
    have HW := HW3
    have hz := HW3.out.size
    rw [hW5]
    (repeat (with_reducible (first | refine Below.setCell ?_ (by simp only [Nat.add_assoc]; omega) _ | refine Below.alloc ?_ (by (try simp only [size_push, size_set, rowWorld_size, heap_drew, heap_drewN]); omega) _ | refine below_row ?_ (by (try simp only [size_push, size_set, rowWorld_size, heap_drew, heap_drewN]); omega) _ _ | refine Below.drew ?_ | refine below_drewN ?_ _ | exact Below.refl _ _ | exact HW.out)))
  clear hW5
  refine (textframe_any s _ hs).mono ?_
  rintro e w4 ⟨rfl, hb4⟩
  rw [HRD.out]
  have HB5 := Lib.hid (hx5.below hb4 hx5.lt)
  have HW5 := Lib.hid (hbw.trans (hb4.mono hbw.size))
  clear hb4 hbw hx5
  have hlt := HB5.out.lt
  have hc := HB5.out.cell
  have hf := HB5.out.frozen
  have HL5 := Lib.hid hlt
  have heq := fun W => frame_same W x0 x1 x2 x3 x4 x5 y0 y1 y2 y3 y4 y5 xl xt xd
  go_wp2_with fail
  go_ret
  refine ⟨ret_bool (by simp), ?_⟩
  have HW := HW5
  have hz := HW5.out.size
  (repeat (with_reducible (first | refine Below.setCell ?_ (by simp only [Nat.add_assoc]; omega) _ | refine Below.alloc ?_ (by (try simp only [size_push, size_set, rowWorld_size, heap_drew, heap_drewN]); omega) _ | refine below_row ?_ (by (try simp only [size_push, size_set, rowWorld_size, heap_drew, heap_drewN]); omega) _ _ | refine Below.drew ?_ | refine below_drewN ?_ _ | exact Below.refl _ _ | exact HW.out)))

theorem open_int' {w : World} {B : Nat} {k : IntKind} {r : Sh} {cs : List Value} (h : opn w B (.cons (.int k) r) cs) : ∃ n c, cs = .int k n :: c ∧ (Lit.int k n).wf = true ∧ opn w B r c := by
  obtain ⟨_, c, rfl, _, ⟨n, rfl, hn⟩, hr⟩ := h
  exact ⟨n, c, rfl, hn, hr⟩
theorem open_str' {w : World} {B : Nat} {r : Sh} {cs : List Value} (h : opn w B (.cons .str r) cs) : ∃ s c, cs = .string s :: c ∧ s.size ≤ 140737488351232 ∧ opn w B r c := by
  obtain ⟨_, c, rfl, _, ⟨n, rfl, hn⟩, hr⟩ := h
  exact ⟨n, c, rfl, hn, hr⟩
theorem open_mac {w : World} {B : Nat} {r : Sh} {cs : List Value} (h : opn w B (.cons (.cons (.int .u8) (.cons (.int .u8) (.cons (.int .u8) (.cons (.int .u8) (.cons (.int .u8) (.cons (.int .u8) .nil)))))) r) cs) :
    ∃ a0 a1 a2 a3 a4 a5 c, cs = .int .u8 a0 :: .int .u8 a1 :: .int .u8 a2 :: .int .u8 a3 :: .int .u8 a4 :: .int .u8 a5 :: c ∧ (∀ x ∈ [a0, a1, a2, a3, a4, a5], 0 ≤ x ∧ x ≤ 255) ∧ opn w B r c := by
  obtain ⟨c1, c, rfl, _, h1, hr⟩ := h
  obtain ⟨a0, d0, rfl, q0, h1⟩ := open_int' h1
  obtain ⟨a1, d1, rfl, q1, h1⟩ := open_int' h1
  obtain ⟨a2, d2, rfl, q2, h1⟩ := open_int' h1
  obtain ⟨a3, d3, rfl, q3, h1⟩ := open_int' h1
  obtain ⟨a4, d4, rfl, q4, h1⟩ := open_int' h1
  obtain ⟨a5, d5, rfl, q5, h1⟩ := open_int' h1
  obtain rfl : d5 = [] := h1
  refine ⟨a0, a1, a2, a3, a4, a5, c, rfl, ?_, hr⟩
  have := bounds_u8 q0
  have := bounds_u8 q1
  have := bounds_u8 q2
  have := bounds_u8 q3
  have := bounds_u8 q4
  have := bounds_u8 q5
  simp only [List.mem_cons, List.not_mem_nil, or_false]
  rintro x (rfl | rfl | rfl | rfl | rfl | rfl) <;> assumption

theorem coreEthFrames (W : World) (args : Array Value) (h : opnAll W W.heap.size shsEthFrames args.toList) :
    Calls Try.prog 7 args W fun e W' => e = .returned (.bool true) ∧ Below W.heap.size W W' := by
  obtain ⟨args⟩ := args
  simp only [shsEthFrames, opnAll] at h
  obtain ⟨cs, _, rfl, h0, _, _, rfl, ⟨s, rfl, hs⟩, rfl⟩ := h
  obtain ⟨a0, a1, a2, a3, a4, a5, c, rfl, ha, h0⟩ := open_mac h0
  obtain ⟨b0, b1, b2, b3, b4, b5, c, rfl, hb, h0⟩ := open_mac h0
  obtain ⟨vl, c, rfl, _, h0⟩ := open_int' h0
  obtain ⟨ty, c, rfl, _, h0⟩ := open_int' h0
  obtain ⟨d, c, rfl, _, h0⟩ := open_str' h0
  obtain rfl : c = [] := h0
  refine ethFrames_walk a0 a1 a2 a3 a4 a5 b0 b1 b2 b3 b4 b5 vl ty d s W ?_ hs
  intro x hx
  have hx' : x ∈ [a0, a1, a2, a3, a4, a5] ++ [b0, b1, b2, b3, b4, b5] := hx
  rcases List.mem_append.1 hx' with q | q
  · exact ha x q
  · exact hb x q

/-! THE ROW: the frame round 'core' -/
theorem ownEthFrames : ownKnob Try.prog.godebug = none := by kernel_rfl
theorem fitEthFrames : (List.range shsEthFrames.length).all (fun i => match shsEthFrames[i]?, Try.f7.params.toList[i]? with | some s, some t => s.fit Try.prog none t | _, _ => false) = true := by kernel_rfl
theorem laidEthFrames : laidOutB Try.prog = true := by kernel_rfl
theorem readEthFrames : Try.f7.params.toList.all (fun t => Try.prog.readableRec t && decide (t < Try.prog.types.size)) = true := by kernel_rfl
set_option maxRecDepth 100000 in
theorem liftedEthFrames (os : Os) (started : os.Started) (H : Type) (enc : TypeId × Value → H) :
    ReturnsInHanded {} Try.checked os 7 .any (Rows.ethFramesSpec.pre6 enc Try.prog Try.f7 Rows.ethFramesRow.domain false) (Rows.ethFramesSpec.post enc Try.prog Try.f7 false true false false) :=
  law_lifted (C := Try.checked) (enc := enc) ownEthFrames started (by kernel_rfl) Try.func7
    (ChangeSpec.witness6 (enc := enc) (C := Try.checked) false ⟨#[], #[.agg #[.int .u8 0, .int .u8 0, .int .u8 0, .int .u8 0, .int .u8 0, .int .u8 0, .int .u8 0, .int .u8 0, .int .u8 0, .int .u8 0, .int .u8 0, .int .u8 0, .int .i64 0, .int .i64 0, .string ByteArray.empty], .string ByteArray.empty], []⟩ 8 (by kernel_rfl) (by kernel_rfl) (by kernel_rfl) (by kernel_rfl))
    shsEthFrames (by kernel_rfl) fitEthFrames rfl (fun ds h => by
      match ds, h with
      | [d0, d1], _ => exact ⟨rfl, rfl, rfl⟩) 4 (by kernel_rfl) Try.underlying4 laidEthFrames readEthFrames coreEthFrames
theorem overEthFrames : Rows.ethFramesRow.holds Try.pinned (OpenSpec.ofChange Rows.ethFramesSpec) :=
  OpenClaim.holds_of_wide 7 Try.f7 rfl rfl rfl rfl rfl rfl rfl ⟨rfl, rfl, rfl, rfl, rfl⟩ rfl rfl rfl rfl rfl (by kernel_rfl) Try.func7 (by kernel_rfl)
    (of_decide_eq_true (by kernel_rfl)) (by unfold Func.isWrapper; rw [if_neg (of_decide_eq_false (by kernel_rfl))]; exact ⟨rfl, rfl⟩)
    (fun os started H enc _ => liftedEthFrames os started H enc)
/-- THE STATEMENT -/
theorem provedEthFrames : Rows.EthFramesSaid := overEthFrames
#print axioms provedEthFrames
end Go.Proofs.Ytolbnadafelkhaa
