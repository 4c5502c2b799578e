/-
  The walk of slices.Equal at []int: it tells whether the two lists are the same.
-/
import Derived.Test.YtolbnadafelkhaaSumP
import Derived.Test.YtolbnadafelkhaaBase
import Derived.Test.YtolbnadafelkhaaProg
import Derived.WalkLawsBesides
import Derived.WalkSpells
import Derived.Outline
import Derived.BigQuiet
namespace Go.Proofs.Ytolbnadafelkhaa
open Go.ChangeShapes Go.WideShapes Go.ChangeAt Go.RowKit
set_option linter.unusedVariables false
set_option linter.unusedSimpArgs false

theorem equal_any (A B : Option Addr) (n m c d : Nat) (xs ys : List Int) (w : World) (hn : xs.length = n) (hm : ys.length = m) (h63 : n ≤ 9223372036854775807) (hx : CellsAt w A (xs.map (Value.int .i64))) (hy : CellsAt w B (ys.map (Value.int .i64))) :
    Calls Try.prog 15 #[.slice A n c, .slice B m d] w fun e w' => e = .returned (.bool (xs == ys)) ∧ ∃ k, w' = w.drewN k := by
  have HN := Lib.hid hn
  have HM := Lib.hid hm
  clear hn hm
  have HX := Lib.hid hx
  have HY := Lib.hid hy
  clear hx hy
  by_cases hlen : n = m
  · subst hlen
    go_enter Try.func15, Try.ntmps15
    go_wp2
    go_loopw [13] (fun iv wr => ∃ (i k : Nat), iv = .int .i64 i ∧ i ≤ n ∧ Hid (xs.take i = ys.take i) ∧ wr = w.drewN k) (fun iv _ => n - (intOf iv).toNat)
    case atStart => exact ⟨0, 0, rfl, by omega, rfl, rfl⟩
    case round =>
      obtain ⟨i, k, rfl, hi, HT, rfl⟩ := hrel
      by_cases hlt : i < n
      · have h1 : xs[i]? = some (xs[i]'(by rw [HN.out]; exact hlt)) := List.getElem?_eq_getElem _
        have h2 : ys[i]? = some (ys[i]'(by rw [HM.out]; exact hlt)) := List.getElem?_eq_getElem _
        generalize xs[i]'(by rw [HN.out]; exact hlt) = x at h1
        generalize ys[i]'(by rw [HM.out]; exact hlt) = y at h2
        obtain ⟨ad, rfl, hc⟩ := HX.out i (.int .i64 x) (by rw [List.getElem?_map, h1]; rfl)
        obtain ⟨be, rfl, hd⟩ := HY.out i (.int .i64 y) (by rw [List.getElem?_map, h2]; rfl)
        have H1 := Lib.hid h1
        have H2 := Lib.hid h2
        clear h1 h2
        have hlt' : (i : Int) < (n : Int) := by omega
        by_cases he : x = y
        · have he1 : (x != y) = false := by simp [he]
          have HE := Lib.hid he
          clear he
          go_wp2
          go_quiet (fail)
          go_wp2
          go_roundw
          case rel => exact ⟨i + 1, _, by go_num, by omega, (by
            show xs.take (i + 1) = ys.take (i + 1)
            rw [List.take_add_one, List.take_add_one, H1.out, H2.out, HT.out, HE.out]), rfl⟩
          case measure => simp [intOf]; omega
        · have he1 : (x != y) = true := by simp [he]
          have HE := Lib.hid he
          clear he
          go_wp2
          go_quiet (fail)
          go_wp2
          go_ret
          refine ⟨ret_bool ?_, k + nq, (World.drewN_drewN _ _ _)⟩
          symm
          rw [beq_eq_false_iff_ne]
          intro e
          subst e
          rw [H1.out] at H2
          exact HE.out (Option.some.inj H2.out)
      · have hi2 : i = n := by omega
        have HI := Lib.hid hi2
        clear hi2
        go_wp2
        go_ret
        refine ⟨ret_bool ?_, _, rfl⟩
        symm
        have h := HT.out
        rw [HI.out, List.take_of_length_le (by rw [HN.out]; exact Nat.le_refl _), List.take_of_length_le (by rw [HM.out]; exact Nat.le_refl _)] at h
        rw [h]
        exact beq_self_eq_true _
  · have h1 : ((n : Int) != (m : Int)) = true := by simp; omega
    go_enter Try.func15, Try.ntmps15
    go_wp2
    go_ret
    refine ⟨ret_bool ?_, 0, rfl⟩
    symm
    rw [beq_eq_false_iff_ne]
    intro e
    subst e
    exact hlen (HN.out.symm.trans HM.out)
end Go.Proofs.Ytolbnadafelkhaa
