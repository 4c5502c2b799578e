/-
  SerialTrims: whatever is handed in, the law's function returns true. No condition.
-/
import Derived.Test.YtolbnadafelkhaaTrimW
import Derived.Test.YtolbnadafelkhaaBase
import Derived.Test.YtolbnadafelkhaaRows
namespace Go.Proofs.Ytolbnadafelkhaa
open Go.ChangeShapes Go.WideShapes Go.ChangeAt Go.RowKit
set_option linter.unusedVariables false
set_option linter.unusedSimpArgs false

def shsSerialTrims : List Sh := [.int .u32, .str, .int .u32, .int .u32]

theorem serialTrims_walk (a : Int) (s : ByteArray) (fr sz : Int) (w : World) (ha : 0 ≤ a ∧ a ≤ 4294967295) (hs : s.size ≤ 140737488351232) (hf : 0 ≤ fr ∧ fr ≤ 4294967295) (hz : 0 ≤ sz ∧ sz ≤ 4294967295) :
    Calls Try.prog 5 #[.int .u32 a, .string s, .int .u32 fr, .int .u32 sz] w fun e w' => e = .returned (.bool true) ∧ ∃ k, w' = w.drewN k := by
  by_cases hl : s.size ≤ 5000
  · go_enter Try.func5, Try.ntmps5
    go_wp2_with fail
    refine (trim_any _ _ _ _ _ ha hl hf hz).mono ?_
    rintro e w1 ⟨rfl, k, rfl⟩
    go_wp2_with fail
    refine (trimmed_any _ _ _ _ _ ha hl hf hz).mono ?_
    rintro e w1 ⟨rfl, k1, rfl⟩
    go_wp2_with fail
    go_ret
    exact ⟨ret_bool (by simp), _, rfl⟩
  · go_enter Try.func5, Try.ntmps5
    go_wp2_with fail
    go_ret
    exact ⟨rfl, 0, rfl⟩

theorem coreSerialTrims (W : World) (args : Array Value) (h : opnAll W W.heap.size shsSerialTrims args.toList) :
    Calls Try.prog 5 args W fun e W' => e = .returned (.bool true) ∧ Below W.heap.size W W' := by
  obtain ⟨args⟩ := args
  simp only [shsSerialTrims, opnAll, opn] at h
  obtain ⟨_, _, rfl, ⟨n, rfl, wn⟩, _, _, rfl, ⟨s, rfl, hs⟩, _, _, rfl, ⟨old, rfl, wo⟩, _, _, rfl, ⟨now, rfl, wnow⟩, rfl⟩ := h
  refine (serialTrims_walk n s old now W (bounds_u32 wn) hs (bounds_u32 wo) (bounds_u32 wnow)).mono ?_
  rintro e w' ⟨rfl, k, rfl⟩
  exact ⟨rfl, below_drewN (Below.refl _ _) _⟩

/-! THE ROW: the frame round 'core' -/
theorem ownSerialTrims : ownKnob Try.prog.godebug = none := by kernel_rfl
theorem fitSerialTrims : (List.range shsSerialTrims.length).all (fun i => match shsSerialTrims[i]?, Try.f5.params.toList[i]? with | some s, some t => s.fit Try.prog none t | _, _ => false) = true := by kernel_rfl
theorem laidSerialTrims : laidOutB Try.prog = true := by kernel_rfl
theorem readSerialTrims : Try.f5.params.toList.all (fun t => Try.prog.readableRec t && decide (t < Try.prog.types.size)) = true := by kernel_rfl
set_option maxRecDepth 100000 in
theorem liftedSerialTrims (os : Os) (started : os.Started) (H : Type) (enc : TypeId × Value → H) :
    ReturnsInHanded {} Try.checked os 5 .any (Rows.serialTrimsSpec.pre6 enc Try.prog Try.f5 Rows.serialTrimsRow.domain false) (Rows.serialTrimsSpec.post enc Try.prog Try.f5 false true false false) :=
  law_lifted (C := Try.checked) (enc := enc) ownSerialTrims started (by kernel_rfl) Try.func5
    (ChangeSpec.witness6 (enc := enc) (C := Try.checked) false ⟨#[], #[.int .u32 0, .string ByteArray.empty, .int .u32 0, .int .u32 0], []⟩ 8 (by kernel_rfl) (by kernel_rfl) (by kernel_rfl) (by kernel_rfl))
    shsSerialTrims (by kernel_rfl) fitSerialTrims rfl (fun ds h => by
      match ds, h with
      | [d0, d1, d2, d3], _ => exact ⟨rfl, rfl, rfl⟩) 4 (by kernel_rfl) Try.underlying4 laidSerialTrims readSerialTrims coreSerialTrims
theorem overSerialTrims : Rows.serialTrimsRow.holds Try.pinned (OpenSpec.ofChange Rows.serialTrimsSpec) :=
  OpenClaim.holds_of_wide 5 Try.f5 rfl rfl rfl rfl rfl rfl rfl ⟨rfl, rfl, rfl, rfl, rfl⟩ rfl rfl rfl rfl rfl (by kernel_rfl) Try.func5 (by kernel_rfl)
    (of_decide_eq_true (by kernel_rfl)) (by unfold Func.isWrapper; rw [if_neg (of_decide_eq_false (by kernel_rfl))]; exact ⟨rfl, rfl⟩)
    (fun os started H enc _ => liftedSerialTrims os started H enc)
/-- THE STATEMENT -/
theorem provedSerialTrims : Rows.SerialTrimsSaid := overSerialTrims
#print axioms provedSerialTrims
end Go.Proofs.Ytolbnadafelkhaa
