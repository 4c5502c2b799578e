/-
  The walks of the reference's MacAt and TextFrame.
-/
import Derived.Test.YtolbnadafelkhaaTextTagW1
import Derived.Test.YtolbnadafelkhaaTextTagW2
import Derived.Deep.RegionLaw
import Derived.Deep.LoopGhost
namespace Go.Proofs.Ytolbnadafelkhaa
open Go.ChangeShapes Go.WideShapes Go.ChangeAt Go.RowKit
set_option linter.unusedVariables false
set_option linter.unusedSimpArgs false

set_option maxHeartbeats 8000000 in
theorem textframe_any (s : ByteArray) (w : World) (hs : s.size ≤ 140737488351232) :
    Calls Try.prog 28 #[.string s] w fun e w' => e = .returned (rdRes s) ∧ Below w.heap.size w w' := by
  by_cases h14 : 14 ≤ s.size
  · by_cases ht0 : wordAtI s.data.toList 12 = 33024
    · by_cases h18 : 18 ≤ s.size
      · exact (Classical.em (4095 < wordAtI s.data.toList 14)).elim (textframe_form s w hs h18 ht0) (textframe_tagged s w hs h18 ht0)
      · skip
        have hll : s.data.toList.length = s.size := rfl
        have HL := Lib.hid hll
        clear hll
        have hwb := wordAtI_bd s.data.toList 12
        have ht : (wordAtI s.data.toList 12 == 33024) = true := by rw [ht0]; rfl
        have HT := Lib.hid ht0
        clear ht0
        have HE := Lib.hid (show rdRes s = .tuple #[zeroFrame, .int .i64 3] by
          have e : rdErr s.data.toList = 3 := by unfold rdErr; rw [HL.out, if_neg (by omega), if_pos HT.out, if_pos (by omega)]
          unfold rdRes
          rw [e]; rfl)
        go_enter Try.func28, Try.ntmps28
        go_wp2_with (go_at_call 34; refine (wordat_any _ _ _ (by omega) (by show 12 < s.size; omega) hs).mono ?_; rintro e w' ⟨rfl, rfl⟩; rw [show (12 : Int).toNat = 12 from rfl])
        go_wp2_with fail
        refine bodyPost_ret (v := .tuple #[zeroFrame, .int .i64 3]) (by simp [results, Try.results28, go_sem, zeroFrame]) rfl ⟨by rw [HE.out], ?_⟩
        (repeat (with_reducible (first | refine Below.setCell ?_ (by simp only [Nat.add_assoc]; omega) _ | refine Below.alloc ?_ (by (try simp only [size_push, size_set, rowWorld_size, heap_drew, heap_drewN]); omega) _ | refine below_row ?_ (by (try simp only [size_push, size_set, rowWorld_size, heap_drew, heap_drewN]); omega) _ _ | refine Below.drew ?_ | refine below_drewN ?_ _ | exact Below.refl _ _ | exact HW.out)))
    · exact textframe_bare s w hs h14 ht0
  · have HE := Lib.hid (show rdRes s = .tuple #[zeroFrame, .int .i64 3] by
      have e : rdErr s.data.toList = 3 := by unfold rdErr; rw [if_pos (show s.data.toList.length < 14 by show s.size < 14; omega)]
      unfold rdRes
      rw [e]; rfl)
    go_enter Try.func28, Try.ntmps28
    go_wp2_with fail
    refine bodyPost_ret (v := .tuple #[zeroFrame, .int .i64 3]) (by simp [results, Try.results28, go_sem, zeroFrame]) rfl ⟨by rw [HE.out], ?_⟩
    (repeat (with_reducible (first | refine Below.setCell ?_ (by simp only [Nat.add_assoc]; omega) _ | refine Below.alloc ?_ (by (try simp only [size_push, size_set, rowWorld_size, heap_drew, heap_drewN]); omega) _ | refine below_row ?_ (by (try simp only [size_push, size_set, rowWorld_size, heap_drew, heap_drewN]); omega) _ _ | refine Below.drew ?_ | refine below_drewN ?_ _ | exact Below.refl _ _ | exact HW.out)))
end Go.Proofs.Ytolbnadafelkhaa
