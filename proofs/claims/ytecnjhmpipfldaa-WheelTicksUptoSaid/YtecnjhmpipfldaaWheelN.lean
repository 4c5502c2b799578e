/-
  A wheel among a law's arguments.
-/
import Derived.Test.YtecnjhmpipfldaaWheelY
import Derived.Test.YtecnjhmpipfldaaUpto
namespace Go.Proofs.Ytecnjhmpipfldaa
open Go.ChangeShapes Go.WideShapes Go.ChangeAt Go.RowKit
set_option linter.unusedVariables false
set_option linter.unusedSimpArgs false
def slSh : Sh := .slice 100000000 2 (.cons (.int .i64) (.cons (.int .i64) .nil))
def arrSh : Nat → Sh
  | 0 => .nil
  | m + 1 => .cons slSh (arrSh m)
def wheelSh : Sh := .cons (.int .i64) (.cons (arrSh 96) .nil)
def duOf (t : Int × Int × Unit) : Du := ⟨t.1, t.2.1⟩
def toL : (m : Nat) → TS (arrSh m) → WL
  | 0, _ => []
  | m + 1, y =>
    let z : List (Int × Int × Unit) × TS (arrSh m) := y
    z.1.map duOf :: toL m z.2
theorem toL_len : ∀ (m : Nat) (y : TS (arrSh m)), (toL m y).length = m
  | 0, _ => rfl
  | m + 1, y => by
    let z : List (Int × Int × Unit) × TS (arrSh m) := y
    show (toL m z.2).length + 1 = m + 1
    rw [toL_len m z.2]
theorem toL_enc : ∀ (m : Nat) (y : TS (arrSh m)), encS (arrSh m) y = (toL m y).map snapD
  | 0, _ => rfl
  | m + 1, y => by
    let z : List (Int × Int × Unit) × TS (arrSh m) := y
    have ih := toL_enc m z.2
    have e : (z.1.map duOf).map Du.enc = z.1.map (encS (.cons (.int .i64) (.cons (.int .i64) .nil))) := by
      rw [List.map_map]
      rfl
    show DV.snap 2 (z.1.map (encS (.cons (.int .i64) (.cons (.int .i64) .nil)))) false :: encS (arrSh m) z.2 = snapD (z.1.map duOf) :: (toL m z.2).map snapD
    rw [ih, snapD, e]
theorem wide_len {n : Nat} (h : n * 100000000 ≤ 140737488351232) : n ≤ 1407374 := by omega
theorem toL_wf : ∀ (m : Nat) (y : TS (arrSh m)), wfS (arrSh m) y → ∀ l ∈ toL m y, l.length ≤ 1407374
  | 0, _, _, l, h => by cases h
  | m + 1, y, hw, l, h => by
    let z : List (Int × Int × Unit) × TS (arrSh m) := y
    have hw' : wfS slSh z.1 ∧ wfS (arrSh m) z.2 := hw
    have h' : l ∈ z.1.map duOf :: toL m z.2 := h
    rcases List.mem_cons.1 h' with rfl | h'
    · rw [List.length_map]
      exact wide_len hw'.1.1
    · exact toL_wf m z.2 hw'.2 l h'
theorem wheel_val (now : Int) (y : TS (arrSh 96)) (u : Unit) : valS wheelSh (now, y, u) = .agg (wcs now (toL 96 y)) := by
  show DV.agg ([DV.v (.int .i64 now)] ++ (encS (arrSh 96) y ++ [])) = _
  rw [toL_enc, List.append_nil]
  rfl
end Go.Proofs.Ytecnjhmpipfldaa
