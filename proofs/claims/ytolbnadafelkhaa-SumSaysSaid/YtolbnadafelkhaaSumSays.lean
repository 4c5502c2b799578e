/-
  SumSays: whatever is handed in, the law's function returns true. No condition.
-/
import Derived.Test.YtolbnadafelkhaaSumW
import Derived.Test.YtolbnadafelkhaaBase
import Derived.Test.YtolbnadafelkhaaRows
namespace Go.Proofs.Ytolbnadafelkhaa
open Go.ChangeShapes Go.WideShapes Go.ChangeAt Go.RowKit
set_option linter.unusedVariables false
set_option linter.unusedSimpArgs false

def shsSumSays : List Sh := [.int .u16, .str, .int .u16, .int .u16]

theorem sumSays_walk (n : Int) (s : ByteArray) (old now : Int) (w : World) (hn : 0 ≤ n ∧ n ≤ 65535) (hs : s.size ≤ 140737488351232) (ho : 0 ≤ old ∧ old ≤ 65535) (hw : 0 ≤ now ∧ now ≤ 65535) :
    Calls Try.prog 6 #[.int .u16 n, .string s, .int .u16 old, .int .u16 now] w fun e w' => e = .returned (.bool true) ∧ ∃ k, w' = w.drewN k := by
  have hf := foldI_bd (65535 - n + (65535 - old)) (by omega)
  have hadd := foldI_add (65535 - n + (65535 - old)) now (by omega) (by omega)
  have hf2 := foldI_bd (foldI (65535 - n + (65535 - old)) + now) (by omega)
  have hb1 := foldI_bd (n + wsum s.data.toList) (by have := (wsum_bd s.data.toList).1; omega)
  have hb2 := foldI_bd (wsum s.data.toList) (by have := (wsum_bd s.data.toList).1; omega)
  rw [hadd] at hf2
  have HA := Lib.hid hadd
  clear hadd
  go_enter Try.func6, Try.ntmps6
  go_wp2_with fail
  refine (endaround_any _ _ _ (by omega) (by omega)).mono ?_
  rintro e w' ⟨rfl, rfl⟩
  go_wp2_with fail
  refine (endaround_any _ _ _ (by omega) (by omega)).mono ?_
  rintro e w' ⟨rfl, rfl⟩
  rw [HA.out]
  go_wp2_with fail
  refine (add_any _ _ _ (by omega) (by omega) hs).mono ?_
  rintro e w' ⟨rfl, k, rfl⟩
  go_wp2_with fail
  refine (sumof_any _ _ _ (by omega) (by omega) hs).mono ?_
  rintro e w' ⟨rfl, rfl⟩
  go_wp2_with fail
  refine (of_any _ _ hs).mono ?_
  rintro e w' ⟨rfl, k1, rfl⟩
  go_wp2_with fail
  refine (check_any _ _ hs).mono ?_
  rintro e w' ⟨rfl, rfl⟩
  go_wp2_with fail
  refine (right_any _ _ hs).mono ?_
  rintro e w' ⟨rfl, k2, rfl⟩
  go_wp2_with fail
  refine (sumof_any _ _ _ (by omega) (by omega) hs).mono ?_
  rintro e w' ⟨rfl, rfl⟩
  rw [Int.zero_add]
  go_wp2_with fail
  refine (fix_any _ _ _ _ hn ho hw).mono ?_
  rintro e w' ⟨rfl, rfl⟩
  go_wp2_with fail
  go_ret
  exact ⟨ret_bool (by simp), _, rfl⟩

theorem coreSumSays (W : World) (args : Array Value) (h : opnAll W W.heap.size shsSumSays args.toList) :
    Calls Try.prog 6 args W fun e W' => e = .returned (.bool true) ∧ Below W.heap.size W W' := by
  obtain ⟨args⟩ := args
  simp only [shsSumSays, opnAll, opn] at h
  obtain ⟨_, _, rfl, ⟨n, rfl, wn⟩, _, _, rfl, ⟨s, rfl, hs⟩, _, _, rfl, ⟨old, rfl, wo⟩, _, _, rfl, ⟨now, rfl, wnow⟩, rfl⟩ := h
  refine (sumSays_walk n s old now W (bounds_u16 wn) hs (bounds_u16 wo) (bounds_u16 wnow)).mono ?_
  rintro e w' ⟨rfl, k, rfl⟩
  exact ⟨rfl, below_drewN (Below.refl _ _) _⟩

/-! THE ROW: the frame round 'core' -/
theorem ownSumSays : ownKnob Try.prog.godebug = none := by kernel_rfl
theorem fitSumSays : (List.range shsSumSays.length).all (fun i => match shsSumSays[i]?, Try.f6.params.toList[i]? with | some s, some t => s.fit Try.prog none t | _, _ => false) = true := by kernel_rfl
theorem laidSumSays : laidOutB Try.prog = true := by kernel_rfl
theorem readSumSays : Try.f6.params.toList.all (fun t => Try.prog.readableRec t && decide (t < Try.prog.types.size)) = true := by kernel_rfl
set_option maxRecDepth 100000 in
theorem liftedSumSays (os : Os) (started : os.Started) (H : Type) (enc : TypeId × Value → H) :
    ReturnsInHanded {} Try.checked os 6 .any (Rows.sumSaysSpec.pre6 enc Try.prog Try.f6 Rows.sumSaysRow.domain false) (Rows.sumSaysSpec.post enc Try.prog Try.f6 false true false false) :=
  law_lifted (C := Try.checked) (enc := enc) ownSumSays started (by kernel_rfl) Try.func6
    (ChangeSpec.witness6 (enc := enc) (C := Try.checked) false ⟨#[], #[.int .u16 0, .string ByteArray.empty, .int .u16 0, .int .u16 0], []⟩ 8 (by kernel_rfl) (by kernel_rfl) (by kernel_rfl) (by kernel_rfl))
    shsSumSays (by kernel_rfl) fitSumSays rfl (fun ds h => by
      match ds, h with
      | [d0, d1, d2, d3], _ => exact ⟨rfl, rfl, rfl⟩) 4 (by kernel_rfl) Try.underlying4 laidSumSays readSumSays coreSumSays
theorem overSumSays : Rows.sumSaysRow.holds Try.pinned (OpenSpec.ofChange Rows.sumSaysSpec) :=
  OpenClaim.holds_of_wide 6 Try.f6 rfl rfl rfl rfl rfl rfl rfl ⟨rfl, rfl, rfl, rfl, rfl⟩ rfl rfl rfl rfl rfl (by kernel_rfl) Try.func6 (by kernel_rfl)
    (of_decide_eq_true (by kernel_rfl)) (by unfold Func.isWrapper; rw [if_neg (of_decide_eq_false (by kernel_rfl))]; exact ⟨rfl, rfl⟩)
    (fun os started H enc _ => liftedSumSays os started H enc)
/-- THE STATEMENT -/
theorem provedSumSays : Rows.SumSaysSaid := overSumSays
#print axioms provedSumSays
end Go.Proofs.Ytolbnadafelkhaa
