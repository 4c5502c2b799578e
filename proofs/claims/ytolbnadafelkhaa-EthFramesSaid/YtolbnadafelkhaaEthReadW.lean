/-
  The walk of eth.Read: all of its ways.
-/
import Derived.Test.YtolbnadafelkhaaEthReadW1
import Derived.Test.YtolbnadafelkhaaEthReadW2
import Derived.Test.YtolbnadafelkhaaEthReadW3
namespace Go.Proofs.Ytolbnadafelkhaa
open Go.ChangeShapes Go.WideShapes Go.ChangeAt Go.RowKit
set_option linter.unusedVariables false
set_option linter.unusedSimpArgs false

theorem ethread_any (s : ByteArray) (w : World) (hs : s.size ≤ 140737488351232) :
    Calls Try.prog 27 #[.string s] w fun e w' => e = .returned (rdRes s) ∧ Below w.heap.size w w' := by
  by_cases h14 : 14 ≤ s.size
  · by_cases ht0 : wordAtI s.data.toList 12 = 33024
    · by_cases h18 : s.size < 18
      · exact ethread_short s w hs h14 ht0 h18
      · by_cases hv1 : 4095 < wordAtI s.data.toList 14
        · exact ethread_form s w hs h14 ht0 h18 hv1
        · by_cases hv2 : 65535 < s.size - 18
          · exact ethread_taglarge s w hs h14 ht0 h18 hv1 hv2
          · exact ethread_tag s w hs h14 ht0 h18 hv1 hv2
    · by_cases hv2 : 65535 < s.size - 14
      · exact ethread_barelarge s w hs h14 ht0 hv2
      · exact ethread_bare s w hs h14 ht0 hv2
  · have HE := Lib.hid (show rdRes s = .tuple #[zeroFrame, .int .i64 3] by
      have e : rdErr s.data.toList = 3 := by unfold rdErr; rw [if_pos (show s.data.toList.length < 14 by show s.size < 14; omega)]
      unfold rdRes
      rw [e]; rfl)
    go_enter Try.func27, Try.ntmps27
    go_wp2_with fail
    refine bodyPost_ret (v := .tuple #[zeroFrame, .int .i64 3]) (by simp [results, Try.results27, go_sem, zeroFrame]) rfl ⟨by rw [HE.out], (Below.refl _ _).alloc (Nat.le_refl _) _⟩
end Go.Proofs.Ytolbnadafelkhaa
