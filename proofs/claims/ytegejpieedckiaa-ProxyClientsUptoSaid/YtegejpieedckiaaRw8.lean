/-
  Rows of bytes as texts.
-/
import Derived.Test.YtegejpieedckiaaBytesF
namespace Go.Proofs.Ytegejpieedckiaa
set_option linter.unusedVariables false
set_option linter.unusedSimpArgs false
def rw8 (t : List UInt8) : List (List DV) := t.map (fun b => [.v (.int .u8 (b.toNat : Int))])
theorem strRows_mk (t : List UInt8) : strRows (mkS t) = rw8 t := rfl
theorem u8_w (a : Int) : IntKind.u8.wrap a = ((u8 a).toNat : Int) := by rw [u8_nat, IntKind.wrap_u8]
theorem okBytes_rw8 : ∀ t : List UInt8, okBytes (rw8 t) = true
  | [] => rfl
  | a :: r => by
    have := okBytes_rw8 r
    simp only [rw8, List.map_cons, okBytes] at this ⊢
    first
      | exact this
      | (rw [this]; rfl)
theorem strOf_rw8 (t : List UInt8) : strOf (rw8 t) = mkS t := by
  rw [strOf_mk]
  unfold rw8
  rw [List.map_map]
  refine congrArg mkS ?_
  conv => rhs; rw [← List.map_id t]
  refine List.map_congr_left fun a _ => ?_
  show UInt8.ofNat ((a.toNat : Int)).toNat = a
  simp
theorem allOnes_rw8 : ∀ t : List UInt8, allOnes (rw8 t) = true := allOnes_map (f := fun b : UInt8 => [DV.v (.int .u8 (b.toNat : Int))]) (fun x => rfl)
theorem rw8_len (t : List UInt8) : (rw8 t).length = t.length := List.length_map _
theorem rw8_app (a b : List UInt8) : rw8 a ++ rw8 b = rw8 (a ++ b) := (List.map_append).symm
end Go.Proofs.Ytegejpieedckiaa
