/-
  Names: the law's function returns true. No condition.
-/
import Derived.Test.YtolbnadafelkhaaEqW
import Derived.Test.YtolbnadafelkhaaBase
import Derived.Test.YtolbnadafelkhaaRows
import Derived.WalkLawsBesides
import Derived.WalkSpells
import Derived.Outline
import Derived.BigQuiet
namespace Go.Proofs.Ytolbnadafelkhaa
open Go.ChangeShapes Go.WideShapes Go.ChangeAt Go.RowKit
set_option linter.unusedVariables false
set_option linter.unusedSimpArgs false

def shsNames : List Sh := []
set_option maxRecDepth 100000
set_option maxHeartbeats 1000000 in
theorem names_walk (w : World) :
    Calls Try.prog 4 #[] w fun e w' => e = .returned (.bool true) ∧ Below w.heap.size w w' := by
  go_enter Try.func4, Try.ntmps4
  go_wp2_with fail
  refine wp_loop_rounds 12 ?_
  iterate 12 (rw [rounds_succ]; go_wp2_with fail)
  refine wp_loop_rounds 7 ?_
  iterate 7 (rw [rounds_succ]; go_wp2_with fail)
  refine wp_loop_rounds 7 ?_
  iterate 7 (rw [rounds_succ]; go_wp2_with fail)
  refine (equal_any _ _ 4 4 _ _ [1, 2, 3, 4] [1, 2, 3, 4] _ rfl rfl (by omega) (cellsAt_blk (cs := #[.int .i64 1, .int .i64 2, .int .i64 3, .int .i64 4]) (t := 3) (by simp only [heap_push, size_push, heap_drewN]; simp)) (cellsAt_blk (cs := #[.int .i64 1, .int .i64 2, .int .i64 3, .int .i64 4]) (t := 3) (by simp only [heap_push, size_push, heap_drewN]; simp))).mono ?_
  rintro e w1 ⟨rfl, k, rfl⟩
  go_wp2_with fail
  refine (equal_any _ _ 15 15 _ _ [65535, 16, 64, 64, 500, 64, 500, 16, 200, 500, 64, 64, 64, 300, 300] [65535, 16, 64, 64, 500, 64, 500, 16, 200, 500, 64, 64, 64, 300, 300] _ rfl rfl (by omega) (cellsAt_blk (cs := #[.int .i64 65535, .int .i64 16, .int .i64 64, .int .i64 64, .int .i64 500, .int .i64 64, .int .i64 500, .int .i64 16, .int .i64 200, .int .i64 500, .int .i64 64, .int .i64 64, .int .i64 64, .int .i64 300, .int .i64 300]) (t := 3) (by simp only [heap_push, size_push, heap_drewN]; simp)) (cellsAt_blk (cs := #[.int .i64 65535, .int .i64 16, .int .i64 64, .int .i64 64, .int .i64 500, .int .i64 64, .int .i64 500, .int .i64 16, .int .i64 200, .int .i64 500, .int .i64 64, .int .i64 64, .int .i64 64, .int .i64 300, .int .i64 300]) (t := 3) (by simp only [heap_push, size_push, heap_drewN]; simp))).mono ?_
  rintro e w1 ⟨rfl, k1, rfl⟩
  go_wp2_with fail
  go_ret
  refine ⟨ret_bool (by decide), ?_⟩
  repeat (first | exact Below.refl _ _ | refine below_drewN ?_ _ | refine Below.alloc ?_ (by simp [size_push, heap_drewN]; try omega) _)

theorem coreNames (W : World) (args : Array Value) (h : opnAll W W.heap.size shsNames args.toList) :
    Calls Try.prog 4 args W fun e W' => e = .returned (.bool true) ∧ Below W.heap.size W W' := by
  obtain ⟨args⟩ := args
  simp only [shsNames, opnAll] at h
  subst h
  exact names_walk W

/-! THE ROW: the frame round 'core' -/
theorem ownNames : ownKnob Try.prog.godebug = none := by kernel_rfl
theorem fitNames : (List.range shsNames.length).all (fun i => match shsNames[i]?, Try.f4.params.toList[i]? with | some s, some t => s.fit Try.prog none t | _, _ => false) = true := by kernel_rfl
theorem laidNames : laidOutB Try.prog = true := by kernel_rfl
theorem readNames : Try.f4.params.toList.all (fun t => Try.prog.readableRec t && decide (t < Try.prog.types.size)) = true := by kernel_rfl
set_option maxRecDepth 100000 in
theorem liftedNames (os : Os) (started : os.Started) (H : Type) (enc : TypeId × Value → H) :
    ReturnsInHanded {} Try.checked os 4 .any (Rows.namesSpec.pre6 enc Try.prog Try.f4 Rows.namesRow.domain false) (Rows.namesSpec.post enc Try.prog Try.f4 false true false false) :=
  law_lifted (C := Try.checked) (enc := enc) ownNames started (by kernel_rfl) Try.func4
    (ChangeSpec.witness6 (enc := enc) (C := Try.checked) false ⟨#[], #[], []⟩ 8 (by kernel_rfl) (by kernel_rfl) (by kernel_rfl) (by kernel_rfl))
    shsNames (by kernel_rfl) fitNames rfl (fun ds h => by
      match ds, h with
      | [], _ => exact ⟨rfl, rfl, rfl⟩) 4 (by kernel_rfl) Try.underlying4 laidNames readNames coreNames
theorem overNames : Rows.namesRow.holds Try.pinned (OpenSpec.ofChange Rows.namesSpec) :=
  OpenClaim.holds_of_wide 4 Try.f4 rfl rfl rfl rfl rfl rfl rfl ⟨rfl, rfl, rfl, rfl, rfl⟩ rfl rfl rfl rfl rfl (by kernel_rfl) Try.func4 (by kernel_rfl)
    (of_decide_eq_true (by kernel_rfl)) (by unfold Func.isWrapper; rw [if_neg (of_decide_eq_false (by kernel_rfl))]; exact ⟨rfl, rfl⟩)
    (fun os started H enc _ => liftedNames os started H enc)
/-- THE STATEMENT -/
theorem provedNames : Rows.NamesSaid := overNames
#print axioms provedNames
end Go.Proofs.Ytolbnadafelkhaa
