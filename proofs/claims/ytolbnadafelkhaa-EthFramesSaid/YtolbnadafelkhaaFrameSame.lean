/-
  A frame is equal to itself, as the program compares frames.
-/
import Derived.Test.YtolbnadafelkhaaEthReadW0
import Derived.Laws.StructEq
import Derived.DeepKeys
namespace Go.Proofs.Ytolbnadafelkhaa
open Go.ChangeShapes Go.WideShapes Go.ChangeAt Go.RowKit
set_option linter.unusedVariables false
set_option linter.unusedSimpArgs false
theorem byte_known : (Try.prog.info? 5).isSome = true := by kernel_rfl
theorem byte_cells : Try.prog.cellsOf 5 = 1 := by kernel_rfl
theorem mac_known : (Try.prog.info? 46).isSome = true := by kernel_rfl
theorem mac_cells : Try.prog.cellsOf 46 = 6 := by kernel_rfl
theorem mac_same (W : World) (n : Nat) (a0 a1 a2 a3 a4 a5 : Int) :
    (Op.equalIn (n + 2) 46 (.agg #[.int .u8 a0, .int .u8 a1, .int .u8 a2, .int .u8 a3, .int .u8 a4, .int .u8 a5]) (.agg #[.int .u8 a0, .int .u8 a1, .int .u8 a2, .int .u8 a3, .int .u8 a4, .int .u8 a5])).run Try.prog W = .ok true W := by
  have h := byte_known
  obtain ⟨i, hi⟩ := Option.isSome_iff_exists.1 h
  have hp : Try.prog.plainKey 5 = true := by kernel_rfl
  rw [show n + 2 = (n + 1) + 1 from rfl, run_equalIn_array W (n + 1) _ _ Try.underlying46 hi, byte_cells, show List.range 6 = [0, 1, 2, 3, 4, 5] from rfl]
  have hpart := fun (xs : Array Value) (off : Nat) (v : Value) (hx : xs[off]? = some v) => run_part_plain (P := Try.prog) (w := W) hp hx
  simp only [Op.eqItems, Sem.run_bind]
  simp [hpart, run_equalIn_int W n 5 .u8 .u8 _ _ Try.underlying5]
set_option maxRecDepth 10000 in
theorem frame_same (W : World) (a0 a1 a2 a3 a4 a5 b0 b1 b2 b3 b4 b5 vl ty : Int) (d : ByteArray) : (binOp .eql 48 (.agg #[.int .u8 a0, .int .u8 a1, .int .u8 a2, .int .u8 a3, .int .u8 a4, .int .u8 a5, .int .u8 b0, .int .u8 b1, .int .u8 b2, .int .u8 b3, .int .u8 b4, .int .u8 b5, .int .i64 vl, .int .i64 ty, .string d]) (.agg #[.int .u8 a0, .int .u8 a1, .int .u8 a2, .int .u8 a3, .int .u8 a4, .int .u8 a5, .int .u8 b0, .int .u8 b1, .int .u8 b2, .int .u8 b3, .int .u8 b4, .int .u8 b5, .int .i64 vl, .int .i64 ty, .string d])).run Try.prog W = .ok (.bool true) W := by
  have hs : Try.prog.stoodInHeld 48 = false := by kernel_rfl
  have hu := Try.underlying48
  have ht : Try.prog.underlying 48 = some (.struct (Try.prog.fieldsOf 48)) := by
    unfold Program.fieldsOf
    rw [hu]
  obtain ⟨im, him⟩ := Option.isSome_iff_exists.1 mac_known
  have h1 : Try.prog.plainKey 3 = true := by kernel_rfl
  have h2 : Try.prog.plainKey 9 = true := by kernel_rfl
  have q1 := fun (xs : Array Value) (off : Nat) (v : Value) (hx : xs[off]? = some v) => run_part_plain (P := Try.prog) (w := W) h1 hx
  have q2 := fun (xs : Array Value) (off : Nat) (v : Value) (hx : xs[off]? = some v) => run_part_plain (P := Try.prog) (w := W) h2 hx
  have q3 : ∀ (xs : Array Value) (off : Nat), (part 46 xs off).run Try.prog W = .ok (.agg (xs.extract off (off + 6))) W := by
    intro xs off
    simp [part, isAgg, run_underlying Try.underlying46, run_sizeOf W him, mac_cells]
  rw [run_eql_struct, show (10000 : Nat) = 9999 + 1 from rfl, run_equalIn_agg W 9999 _ _ _ ht hs]
  simp only [Program.fieldsOf, hu]
  simp only [Op.eqFields, Sem.run_bind, q1, q2, q3]
  simp [Op.eqFields, Sem.run_bind, q1, q2, q3, mac_same W 9997, run_equalIn_int W 9998 3 .i64 .i64 _ _ Try.underlying3, run_equalIn_string W 9998 9 _ _ Try.underlying9]
end Go.Proofs.Ytolbnadafelkhaa
