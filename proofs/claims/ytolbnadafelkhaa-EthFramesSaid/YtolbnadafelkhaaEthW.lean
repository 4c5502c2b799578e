/-
  The walks of package eth and of the reference's frames.
-/
import Derived.Test.YtolbnadafelkhaaSumW
import Derived.Test.YtolbnadafelkhaaBase
import Derived.Test.YtolbnadafelkhaaMem
import Derived.Test.YtolbnadafelkhaaBytesW
import Derived.Test.YtolbnadafelkhaaProg
import Derived.Lib.QuietBelow
import Derived.BigRegion
import Derived.IntWalk
namespace Go.Proofs.Ytolbnadafelkhaa
open Go.ChangeShapes Go.WideShapes Go.ChangeAt Go.RowKit
set_option linter.unusedVariables false
set_option linter.unusedSimpArgs false

theorem ethword_any (n : Int) (w : World) :
    Calls Try.prog 35 #[.int .i64 n] w fun e w' => e = .returned (.string (strOfNums [n / 256 % 256, n % 256])) ∧ Below w.heap.size w w' := by
  have hc := conv_two (P := Try.prog) (src := 67) (dst := 9) (e := 5) Try.underlying67 Try.underlying5 Try.underlying9
  go_enter Try.func35, Try.ntmps35
  go_wp2
  go_ret
  exact ⟨rfl, (Below.refl _ _).alloc (Nat.le_refl _) _⟩
theorem wordat_eth (s : ByteArray) (i : Int) (w : World) (h0 : 0 ≤ i) (h1 : i.toNat + 1 < s.size) (hs : s.size ≤ 140737488351232) :
    Calls Try.prog 38 #[.string s, .int .i64 i] w fun e w' => e = .returned (.int .i64 (wordAtI s.data.toList i.toNat)) ∧ ∃ k, w' = w.drewN k := by
  obtain ⟨i, rfl⟩ := Int.eq_ofNat_of_zero_le h0
  rw [Int.toNat_natCast] at h1 ⊢
  have hi0 : i < s.size := by omega
  have hi1 : (i : Int) + 1 < (s.size : Int) := by omega
  have hi2 : i + 1 < s.size := by omega
  have hi3 : (i : Int) < (s.size : Int) := by omega
  have hs1 : IntKind.i64.wrap ((i : Int) + 1) = (i : Int) + 1 := IntWalk.i64_in _ (by omega)
  have hs2 : 0 ≤ (i : Int) + 1 := by omega
  have hs3 : ((i : Int) + 1).toNat = i + 1 := by omega
  have hb0 : s[i].toNat < 256 := s[i].toNat_lt
  have hb1 : s[i + 1].toNat < 256 := s[i + 1].toNat_lt
  go_enter Try.func38, Try.ntmps38
  go_wp2
  have hor := or_word_i64 s[i] s[i + 1]
  have HF : Hid (wordAtI s.data.toList i = 256 * (s[i].toNat : Int) + (s[i + 1].toNat : Int)) := by
    have e0 : s.data.toList[i]? = some s[i] := List.getElem?_eq_getElem hi0
    have e1 : s.data.toList[i + 1]? = some s[i + 1] := List.getElem?_eq_getElem hi2
    show wordAtI s.data.toList i = _
    simp [wordAtI, e0, e1]
  go_quiet (fail)
  go_wp2
  go_ret
  exact ⟨ret_int HF.out.symm, _, rfl⟩

/-- A frame's value. -/
def frameVal (a0 a1 a2 a3 a4 a5 b0 b1 b2 b3 b4 b5 vl ty : Int) (d : ByteArray) : Value := .agg #[.int .u8 a0, .int .u8 a1, .int .u8 a2, .int .u8 a3, .int .u8 a4, .int .u8 a5, .int .u8 b0, .int .u8 b1, .int .u8 b2, .int .u8 b3, .int .u8 b4, .int .u8 b5, .int .i64 vl, .int .i64 ty, .string d]

theorem frame_cells {W : World} {b : Nat} {a0 a1 a2 a3 a4 a5 b0 b1 b2 b3 b4 b5 vl ty : Int} {d : ByteArray} (h : Blk W b 48 #[.int .u8 a0, .int .u8 a1, .int .u8 a2, .int .u8 a3, .int .u8 a4, .int .u8 a5, .int .u8 b0, .int .u8 b1, .int .u8 b2, .int .u8 b3, .int .u8 b4, .int .u8 b5, .int .i64 vl, .int .i64 ty, .string d]) :
    CellsAt W (some ⟨b, 0, none⟩) [.int .u8 a0, .int .u8 a1, .int .u8 a2, .int .u8 a3, .int .u8 a4, .int .u8 a5] ∧ CellsAt W (some ⟨b, 6, none⟩) [.int .u8 b0, .int .u8 b1, .int .u8 b2, .int .u8 b3, .int .u8 b4, .int .u8 b5] := by
  constructor
  · refine cellsAt_mid h ?_
    intro j v hj
    match j, hj with
    | 0, hj | 1, hj | 2, hj | 3, hj | 4, hj | 5, hj => simpa using hj
    | j + 6, hj => simp at hj
  · refine cellsAt_mid h ?_
    intro j v hj
    match j, hj with
    | 0, hj | 1, hj | 2, hj | 3, hj | 4, hj | 5, hj => simpa using hj
    | j + 6, hj => simp at hj
theorem frame_conv {W : World} {b : Nat} {a0 a1 a2 a3 a4 a5 b0 b1 b2 b3 b4 b5 vl ty : Int} {d : ByteArray} (h : Blk W b 48 #[.int .u8 a0, .int .u8 a1, .int .u8 a2, .int .u8 a3, .int .u8 a4, .int .u8 a5, .int .u8 b0, .int .u8 b1, .int .u8 b2, .int .u8 b3, .int .u8 b4, .int .u8 b5, .int .i64 vl, .int .i64 ty, .string d]) :
    (convert 67 9 (.slice (some ⟨b, 0, none⟩) 6 6)).run Try.prog W = .ok (.string (strOfNums [a0, a1, a2, a3, a4, a5])) W ∧
    (convert 67 9 (.slice (some ⟨b, 6, none⟩) 6 6)).run Try.prog W = .ok (.string (strOfNums [b0, b1, b2, b3, b4, b5])) W :=
  ⟨conv_at Try.underlying67 Try.underlying5 Try.underlying9 (xs := [a0, a1, a2, a3, a4, a5]) rfl (frame_cells h).1,
   conv_at Try.underlying67 Try.underlying5 Try.underlying9 (xs := [b0, b1, b2, b3, b4, b5]) rfl (frame_cells h).2⟩

/-- The text of a frame: its head, its tag, the rest; and the error. -/
def frameText (a0 a1 a2 a3 a4 a5 b0 b1 b2 b3 b4 b5 vl ty : Int) (d : ByteArray) : ByteArray :=
  (if 0 ≤ vl then strOfNums [a0, a1, a2, a3, a4, a5] ++ strOfNums [b0, b1, b2, b3, b4, b5] ++ (strOfNums [129, 0] ++ strOfNums [vl / 256 % 256, vl % 256])
   else strOfNums [a0, a1, a2, a3, a4, a5] ++ strOfNums [b0, b1, b2, b3, b4, b5]) ++ strOfNums [ty / 256 % 256, ty % 256] ++ d
def frameErr (vl ty : Int) (d : ByteArray) : Int :=
  if vl < -1 ∨ 4095 < vl ∨ ty < 0 ∨ 65535 < ty then 1 else if vl = -1 ∧ ty = 33024 then 4 else if 65535 < d.size then 2 else 0
def frameRes (a0 a1 a2 a3 a4 a5 b0 b1 b2 b3 b4 b5 vl ty : Int) (d : ByteArray) : Value :=
  .tuple #[if frameErr vl ty d = 0 then .string (frameText a0 a1 a2 a3 a4 a5 b0 b1 b2 b3 b4 b5 vl ty d) else .string ⟨#[]⟩, .int .i64 (frameErr vl ty d)]


set_option maxRecDepth 100000 in
theorem ethwrite_err (a0 a1 a2 a3 a4 a5 b0 b1 b2 b3 b4 b5 vl ty : Int) (d : ByteArray) (w : World) (h : frameErr vl ty d ≠ 0) :
    Calls Try.prog 25 #[frameVal a0 a1 a2 a3 a4 a5 b0 b1 b2 b3 b4 b5 vl ty d] w fun e w' => e = .returned (frameRes a0 a1 a2 a3 a4 a5 b0 b1 b2 b3 b4 b5 vl ty d) ∧ Below w.heap.size w w' := by
  have HF := Lib.hid (show frameRes a0 a1 a2 a3 a4 a5 b0 b1 b2 b3 b4 b5 vl ty d = .tuple #[.string ⟨#[]⟩, .int .i64 (frameErr vl ty d)] from by unfold frameRes; rw [if_neg h])
  unfold frameVal
  by_cases h1 : vl < -1
  · have HE := Lib.hid (show frameErr vl ty d = 1 from by unfold frameErr; rw [if_pos (by omega)])
    clear h
    go_enter Try.func25, Try.ntmps25
    go_upto_region 1 with (fail)
    have hblk := Blk.new w 48 #[.int .u8 a0, .int .u8 a1, .int .u8 a2, .int .u8 a3, .int .u8 a4, .int .u8 a5, .int .u8 b0, .int .u8 b1, .int .u8 b2, .int .u8 b3, .int .u8 b4, .int .u8 b5, .int .i64 vl, .int .i64 ty, .string d]; have hbw : Below w.heap.size w (w.alloc (.cells #[.int .u8 a0, .int .u8 a1, .int .u8 a2, .int .u8 a3, .int .u8 a4, .int .u8 a5, .int .u8 b0, .int .u8 b1, .int .u8 b2, .int .u8 b3, .int .u8 b4, .int .u8 b5, .int .i64 vl, .int .i64 ty, .string d] 48)) := (Below.refl _ _).alloc (Nat.le_refl _) _; generalize w.alloc (.cells #[.int .u8 a0, .int .u8 a1, .int .u8 a2, .int .u8 a3, .int .u8 a4, .int .u8 a5, .int .u8 b0, .int .u8 b1, .int .u8 b2, .int .u8 b3, .int .u8 b4, .int .u8 b5, .int .i64 vl, .int .i64 ty, .string d] 48) = W at hblk hbw ⊢; have hc12 : W.cell? ⟨w.heap.size, 12, none⟩ = some (.int .i64 vl) := hblk.cell 12; have hc13 : W.cell? ⟨w.heap.size, 13, none⟩ = some (.int .i64 ty) := hblk.cell 13; have hc14 : W.cell? ⟨w.heap.size, 14, none⟩ = some (.string d) := hblk.cell 14
    have HB := Lib.hid hblk; have HW := Lib.hid hbw; clear hblk hbw
    go_wp2
    go_ret2
    exact ⟨by rw [HF.out, HE.out]; rfl, HW.out⟩
  by_cases h2 : 4095 < vl
  · have HE := Lib.hid (show frameErr vl ty d = 1 from by unfold frameErr; rw [if_pos (by omega)])
    clear h
    go_enter Try.func25, Try.ntmps25
    go_upto_region 1 with (fail)
    have hblk := Blk.new w 48 #[.int .u8 a0, .int .u8 a1, .int .u8 a2, .int .u8 a3, .int .u8 a4, .int .u8 a5, .int .u8 b0, .int .u8 b1, .int .u8 b2, .int .u8 b3, .int .u8 b4, .int .u8 b5, .int .i64 vl, .int .i64 ty, .string d]; have hbw : Below w.heap.size w (w.alloc (.cells #[.int .u8 a0, .int .u8 a1, .int .u8 a2, .int .u8 a3, .int .u8 a4, .int .u8 a5, .int .u8 b0, .int .u8 b1, .int .u8 b2, .int .u8 b3, .int .u8 b4, .int .u8 b5, .int .i64 vl, .int .i64 ty, .string d] 48)) := (Below.refl _ _).alloc (Nat.le_refl _) _; generalize w.alloc (.cells #[.int .u8 a0, .int .u8 a1, .int .u8 a2, .int .u8 a3, .int .u8 a4, .int .u8 a5, .int .u8 b0, .int .u8 b1, .int .u8 b2, .int .u8 b3, .int .u8 b4, .int .u8 b5, .int .i64 vl, .int .i64 ty, .string d] 48) = W at hblk hbw ⊢; have hc12 : W.cell? ⟨w.heap.size, 12, none⟩ = some (.int .i64 vl) := hblk.cell 12; have hc13 : W.cell? ⟨w.heap.size, 13, none⟩ = some (.int .i64 ty) := hblk.cell 13; have hc14 : W.cell? ⟨w.heap.size, 14, none⟩ = some (.string d) := hblk.cell 14
    have HB := Lib.hid hblk; have HW := Lib.hid hbw; clear hblk hbw
    go_wp2
    go_ret2
    exact ⟨by rw [HF.out, HE.out]; rfl, HW.out⟩
  by_cases h3 : ty < 0
  · have HE := Lib.hid (show frameErr vl ty d = 1 from by unfold frameErr; rw [if_pos (by omega)])
    clear h
    go_enter Try.func25, Try.ntmps25
    go_upto_region 1 with (fail)
    have hblk := Blk.new w 48 #[.int .u8 a0, .int .u8 a1, .int .u8 a2, .int .u8 a3, .int .u8 a4, .int .u8 a5, .int .u8 b0, .int .u8 b1, .int .u8 b2, .int .u8 b3, .int .u8 b4, .int .u8 b5, .int .i64 vl, .int .i64 ty, .string d]; have hbw : Below w.heap.size w (w.alloc (.cells #[.int .u8 a0, .int .u8 a1, .int .u8 a2, .int .u8 a3, .int .u8 a4, .int .u8 a5, .int .u8 b0, .int .u8 b1, .int .u8 b2, .int .u8 b3, .int .u8 b4, .int .u8 b5, .int .i64 vl, .int .i64 ty, .string d] 48)) := (Below.refl _ _).alloc (Nat.le_refl _) _; generalize w.alloc (.cells #[.int .u8 a0, .int .u8 a1, .int .u8 a2, .int .u8 a3, .int .u8 a4, .int .u8 a5, .int .u8 b0, .int .u8 b1, .int .u8 b2, .int .u8 b3, .int .u8 b4, .int .u8 b5, .int .i64 vl, .int .i64 ty, .string d] 48) = W at hblk hbw ⊢; have hc12 : W.cell? ⟨w.heap.size, 12, none⟩ = some (.int .i64 vl) := hblk.cell 12; have hc13 : W.cell? ⟨w.heap.size, 13, none⟩ = some (.int .i64 ty) := hblk.cell 13; have hc14 : W.cell? ⟨w.heap.size, 14, none⟩ = some (.string d) := hblk.cell 14
    have HB := Lib.hid hblk; have HW := Lib.hid hbw; clear hblk hbw
    go_wp2
    go_ret2
    exact ⟨by rw [HF.out, HE.out]; rfl, HW.out⟩
  by_cases h4 : 65535 < ty
  · have HE := Lib.hid (show frameErr vl ty d = 1 from by unfold frameErr; rw [if_pos (by omega)])
    clear h
    go_enter Try.func25, Try.ntmps25
    go_upto_region 1 with (fail)
    have hblk := Blk.new w 48 #[.int .u8 a0, .int .u8 a1, .int .u8 a2, .int .u8 a3, .int .u8 a4, .int .u8 a5, .int .u8 b0, .int .u8 b1, .int .u8 b2, .int .u8 b3, .int .u8 b4, .int .u8 b5, .int .i64 vl, .int .i64 ty, .string d]; have hbw : Below w.heap.size w (w.alloc (.cells #[.int .u8 a0, .int .u8 a1, .int .u8 a2, .int .u8 a3, .int .u8 a4, .int .u8 a5, .int .u8 b0, .int .u8 b1, .int .u8 b2, .int .u8 b3, .int .u8 b4, .int .u8 b5, .int .i64 vl, .int .i64 ty, .string d] 48)) := (Below.refl _ _).alloc (Nat.le_refl _) _; generalize w.alloc (.cells #[.int .u8 a0, .int .u8 a1, .int .u8 a2, .int .u8 a3, .int .u8 a4, .int .u8 a5, .int .u8 b0, .int .u8 b1, .int .u8 b2, .int .u8 b3, .int .u8 b4, .int .u8 b5, .int .i64 vl, .int .i64 ty, .string d] 48) = W at hblk hbw ⊢; have hc12 : W.cell? ⟨w.heap.size, 12, none⟩ = some (.int .i64 vl) := hblk.cell 12; have hc13 : W.cell? ⟨w.heap.size, 13, none⟩ = some (.int .i64 ty) := hblk.cell 13; have hc14 : W.cell? ⟨w.heap.size, 14, none⟩ = some (.string d) := hblk.cell 14
    have HB := Lib.hid hblk; have HW := Lib.hid hbw; clear hblk hbw
    go_wp2
    go_ret2
    exact ⟨by rw [HF.out, HE.out]; rfl, HW.out⟩
  by_cases h5 : vl = -1 ∧ ty = 33024
  · have HE := Lib.hid (show frameErr vl ty d = 4 from by unfold frameErr; rw [if_neg (by omega), if_pos h5])
    clear h
    have q1 : (vl == -1) = true := by rw [h5.1]; rfl
    have q2 : (ty == 33024) = true := by rw [h5.2]; rfl
    clear h5
    go_enter Try.func25, Try.ntmps25
    go_upto_region 1 with (fail)
    have hblk := Blk.new w 48 #[.int .u8 a0, .int .u8 a1, .int .u8 a2, .int .u8 a3, .int .u8 a4, .int .u8 a5, .int .u8 b0, .int .u8 b1, .int .u8 b2, .int .u8 b3, .int .u8 b4, .int .u8 b5, .int .i64 vl, .int .i64 ty, .string d]; have hbw : Below w.heap.size w (w.alloc (.cells #[.int .u8 a0, .int .u8 a1, .int .u8 a2, .int .u8 a3, .int .u8 a4, .int .u8 a5, .int .u8 b0, .int .u8 b1, .int .u8 b2, .int .u8 b3, .int .u8 b4, .int .u8 b5, .int .i64 vl, .int .i64 ty, .string d] 48)) := (Below.refl _ _).alloc (Nat.le_refl _) _; generalize w.alloc (.cells #[.int .u8 a0, .int .u8 a1, .int .u8 a2, .int .u8 a3, .int .u8 a4, .int .u8 a5, .int .u8 b0, .int .u8 b1, .int .u8 b2, .int .u8 b3, .int .u8 b4, .int .u8 b5, .int .i64 vl, .int .i64 ty, .string d] 48) = W at hblk hbw ⊢; have hc12 : W.cell? ⟨w.heap.size, 12, none⟩ = some (.int .i64 vl) := hblk.cell 12; have hc13 : W.cell? ⟨w.heap.size, 13, none⟩ = some (.int .i64 ty) := hblk.cell 13; have hc14 : W.cell? ⟨w.heap.size, 14, none⟩ = some (.string d) := hblk.cell 14
    have HB := Lib.hid hblk; have HW := Lib.hid hbw; clear hblk hbw
    go_wp2
    go_ret2
    exact ⟨by rw [HF.out, HE.out]; rfl, HW.out⟩
  have h6 : 65535 < d.size := by
    rcases Nat.lt_or_ge 65535 d.size with h6 | h6
    · exact h6
    · exact absurd (show frameErr vl ty d = 0 from by unfold frameErr; rw [if_neg (by omega), if_neg h5, if_neg (by omega)]) h
  have HE := Lib.hid (show frameErr vl ty d = 2 from by unfold frameErr; rw [if_neg (by omega), if_neg h5, if_pos h6])
  clear h
  by_cases h7 : vl = -1
  · have q1 : (vl == -1) = true := by rw [h7]; rfl
    have q2 : (ty == 33024) = false := by rw [beq_eq_false_iff_ne]; exact fun e => h5 ⟨h7, e⟩
    clear h5 h7
    go_enter Try.func25, Try.ntmps25
    go_upto_region 1 with (fail)
    have hblk := Blk.new w 48 #[.int .u8 a0, .int .u8 a1, .int .u8 a2, .int .u8 a3, .int .u8 a4, .int .u8 a5, .int .u8 b0, .int .u8 b1, .int .u8 b2, .int .u8 b3, .int .u8 b4, .int .u8 b5, .int .i64 vl, .int .i64 ty, .string d]; have hbw : Below w.heap.size w (w.alloc (.cells #[.int .u8 a0, .int .u8 a1, .int .u8 a2, .int .u8 a3, .int .u8 a4, .int .u8 a5, .int .u8 b0, .int .u8 b1, .int .u8 b2, .int .u8 b3, .int .u8 b4, .int .u8 b5, .int .i64 vl, .int .i64 ty, .string d] 48)) := (Below.refl _ _).alloc (Nat.le_refl _) _; generalize w.alloc (.cells #[.int .u8 a0, .int .u8 a1, .int .u8 a2, .int .u8 a3, .int .u8 a4, .int .u8 a5, .int .u8 b0, .int .u8 b1, .int .u8 b2, .int .u8 b3, .int .u8 b4, .int .u8 b5, .int .i64 vl, .int .i64 ty, .string d] 48) = W at hblk hbw ⊢; have hc12 : W.cell? ⟨w.heap.size, 12, none⟩ = some (.int .i64 vl) := hblk.cell 12; have hc13 : W.cell? ⟨w.heap.size, 13, none⟩ = some (.int .i64 ty) := hblk.cell 13; have hc14 : W.cell? ⟨w.heap.size, 14, none⟩ = some (.string d) := hblk.cell 14
    have HB := Lib.hid hblk; have HW := Lib.hid hbw; clear hblk hbw
    go_wp2
    go_ret2
    exact ⟨by rw [HF.out, HE.out]; rfl, HW.out⟩
  · clear h5
    go_enter Try.func25, Try.ntmps25
    go_upto_region 1 with (fail)
    have hblk := Blk.new w 48 #[.int .u8 a0, .int .u8 a1, .int .u8 a2, .int .u8 a3, .int .u8 a4, .int .u8 a5, .int .u8 b0, .int .u8 b1, .int .u8 b2, .int .u8 b3, .int .u8 b4, .int .u8 b5, .int .i64 vl, .int .i64 ty, .string d]; have hbw : Below w.heap.size w (w.alloc (.cells #[.int .u8 a0, .int .u8 a1, .int .u8 a2, .int .u8 a3, .int .u8 a4, .int .u8 a5, .int .u8 b0, .int .u8 b1, .int .u8 b2, .int .u8 b3, .int .u8 b4, .int .u8 b5, .int .i64 vl, .int .i64 ty, .string d] 48)) := (Below.refl _ _).alloc (Nat.le_refl _) _; generalize w.alloc (.cells #[.int .u8 a0, .int .u8 a1, .int .u8 a2, .int .u8 a3, .int .u8 a4, .int .u8 a5, .int .u8 b0, .int .u8 b1, .int .u8 b2, .int .u8 b3, .int .u8 b4, .int .u8 b5, .int .i64 vl, .int .i64 ty, .string d] 48) = W at hblk hbw ⊢; have hc12 : W.cell? ⟨w.heap.size, 12, none⟩ = some (.int .i64 vl) := hblk.cell 12; have hc13 : W.cell? ⟨w.heap.size, 13, none⟩ = some (.int .i64 ty) := hblk.cell 13; have hc14 : W.cell? ⟨w.heap.size, 14, none⟩ = some (.string d) := hblk.cell 14
    have HB := Lib.hid hblk; have HW := Lib.hid hbw; clear hblk hbw
    go_wp2
    go_ret2
    exact ⟨by rw [HF.out, HE.out]; rfl, HW.out⟩

--@@DEF BELOW(F|C) refine region_below (by kernel_rfl) (by kernel_rfl) ?_
set_option maxRecDepth 100000 in
theorem ethwrite_tag (a0 a1 a2 a3 a4 a5 b0 b1 b2 b3 b4 b5 vl ty : Int) (d : ByteArray) (w : World) (h1 : 0 ≤ vl) (h2 : vl ≤ 4095) (h3 : 0 ≤ ty) (h4 : ty ≤ 65535) (h5 : d.size ≤ 65535) :
    Calls Try.prog 25 #[frameVal a0 a1 a2 a3 a4 a5 b0 b1 b2 b3 b4 b5 vl ty d] w fun e w' => e = .returned (.tuple #[.string (frameText a0 a1 a2 a3 a4 a5 b0 b1 b2 b3 b4 b5 vl ty d), .int .i64 0]) ∧ Below w.heap.size w w' := by
  have ht : ¬ vl = -1 := by omega
  have hsz := strOfNums_size
  have HF : Hid (frameText a0 a1 a2 a3 a4 a5 b0 b1 b2 b3 b4 b5 vl ty d = strOfNums [a0, a1, a2, a3, a4, a5] ++ strOfNums [b0, b1, b2, b3, b4, b5] ++ (strOfNums [129, 0] ++ strOfNums [vl / 256 % 256, vl % 256]) ++ strOfNums [ty / 256 % 256, ty % 256] ++ d) := by
    show frameText a0 a1 a2 a3 a4 a5 b0 b1 b2 b3 b4 b5 vl ty d = _
    unfold frameText
    rw [if_pos h1]
  unfold frameVal
  go_enter Try.func25, Try.ntmps25
  go_upto_region 1 with (fail)
  have hblk := Blk.new w 48 #[.int .u8 a0, .int .u8 a1, .int .u8 a2, .int .u8 a3, .int .u8 a4, .int .u8 a5, .int .u8 b0, .int .u8 b1, .int .u8 b2, .int .u8 b3, .int .u8 b4, .int .u8 b5, .int .i64 vl, .int .i64 ty, .string d]; have hbw : Below w.heap.size w (w.alloc (.cells #[.int .u8 a0, .int .u8 a1, .int .u8 a2, .int .u8 a3, .int .u8 a4, .int .u8 a5, .int .u8 b0, .int .u8 b1, .int .u8 b2, .int .u8 b3, .int .u8 b4, .int .u8 b5, .int .i64 vl, .int .i64 ty, .string d] 48)) := (Below.refl _ _).alloc (Nat.le_refl _) _; generalize w.alloc (.cells #[.int .u8 a0, .int .u8 a1, .int .u8 a2, .int .u8 a3, .int .u8 a4, .int .u8 a5, .int .u8 b0, .int .u8 b1, .int .u8 b2, .int .u8 b3, .int .u8 b4, .int .u8 b5, .int .i64 vl, .int .i64 ty, .string d] 48) = W at hblk hbw ⊢; have hc12 : W.cell? ⟨w.heap.size, 12, none⟩ = some (.int .i64 vl) := hblk.cell 12; have hc13 : W.cell? ⟨w.heap.size, 13, none⟩ = some (.int .i64 ty) := hblk.cell 13; have hc14 : W.cell? ⟨w.heap.size, 14, none⟩ = some (.string d) := hblk.cell 14
  have hv0 := fun n => (frame_conv (hblk.drewN n)).1
  have hv1 := fun n => (frame_conv (hblk.drewN n)).2
  have HB := Lib.hid hblk; have HW := Lib.hid hbw; clear hblk hbw
  go_wp2
  go_quiet (fail)
  clear hv0 hv1
  go_wp2
  have hl1 := blk_regrown (HB.out.drewN nq) 12 rfl
  refine region_below (by kernel_rfl) (by kernel_rfl) ?_
  repeat (go_big_quiet_step ((go_at_call 35; exact below_call (fun W => ethword_any _ W))))
  refine wpQuiet_nil ?_
  intro W2 hb2
  have HB2 := Lib.hid ((HB.out.drewN nq).below hb2 (HB.out.drewN nq).lt)
  have HW2 := Lib.hid ((below_drewN HW.out nq).trans (hb2.mono (below_drewN HW.out nq).size))
  clear hl1 hb2 hc12 hc13 hc14
  go_wp2
  have hl1 := blk_regrown HB2.out 13 rfl
  have hl2 := blk_regrown HB2.out 14 rfl
  refine region_below (by kernel_rfl) (by kernel_rfl) ?_
  repeat (go_big_quiet_step ((go_at_call 35; exact below_call (fun W => ethword_any _ W))))
  refine wpQuiet_nil ?_
  intro W3 hb3
  have HW3 := Lib.hid (HW2.out.trans (hb3.mono HW2.out.size))
  clear hl1 hl2 hb3
  go_wp2
  go_ret2
  refine ⟨?_, HW3.out⟩
  rw [HF.out]
  rfl

set_option maxRecDepth 100000 in
theorem ethwrite_bare (a0 a1 a2 a3 a4 a5 b0 b1 b2 b3 b4 b5 vl ty : Int) (d : ByteArray) (w : World) (h1 : vl = -1) (h3 : 0 ≤ ty) (h4 : ty ≤ 65535) (h2 : ¬ ty = 33024) (h5 : d.size ≤ 65535) :
    Calls Try.prog 25 #[frameVal a0 a1 a2 a3 a4 a5 b0 b1 b2 b3 b4 b5 vl ty d] w fun e w' => e = .returned (.tuple #[.string (frameText a0 a1 a2 a3 a4 a5 b0 b1 b2 b3 b4 b5 vl ty d), .int .i64 0]) ∧ Below w.heap.size w w' := by
  have hsz := strOfNums_size
  have HF : Hid (frameText a0 a1 a2 a3 a4 a5 b0 b1 b2 b3 b4 b5 vl ty d = strOfNums [a0, a1, a2, a3, a4, a5] ++ strOfNums [b0, b1, b2, b3, b4, b5] ++ strOfNums [ty / 256 % 256, ty % 256] ++ d) := by
    show frameText a0 a1 a2 a3 a4 a5 b0 b1 b2 b3 b4 b5 vl ty d = _
    unfold frameText
    rw [if_neg (by omega)]
  have q1 : (vl == -1) = true := by rw [h1]; rfl
  have q2 : (ty == 33024) = false := by rw [beq_eq_false_iff_ne]; exact h2
  have q3 : -1 ≤ vl := by omega
  have q4 : vl < 0 := by omega
  clear h1 h2
  unfold frameVal
  go_enter Try.func25, Try.ntmps25
  go_upto_region 1 with (fail)
  have hblk := Blk.new w 48 #[.int .u8 a0, .int .u8 a1, .int .u8 a2, .int .u8 a3, .int .u8 a4, .int .u8 a5, .int .u8 b0, .int .u8 b1, .int .u8 b2, .int .u8 b3, .int .u8 b4, .int .u8 b5, .int .i64 vl, .int .i64 ty, .string d]; have hbw : Below w.heap.size w (w.alloc (.cells #[.int .u8 a0, .int .u8 a1, .int .u8 a2, .int .u8 a3, .int .u8 a4, .int .u8 a5, .int .u8 b0, .int .u8 b1, .int .u8 b2, .int .u8 b3, .int .u8 b4, .int .u8 b5, .int .i64 vl, .int .i64 ty, .string d] 48)) := (Below.refl _ _).alloc (Nat.le_refl _) _; generalize w.alloc (.cells #[.int .u8 a0, .int .u8 a1, .int .u8 a2, .int .u8 a3, .int .u8 a4, .int .u8 a5, .int .u8 b0, .int .u8 b1, .int .u8 b2, .int .u8 b3, .int .u8 b4, .int .u8 b5, .int .i64 vl, .int .i64 ty, .string d] 48) = W at hblk hbw ⊢; have hc12 : W.cell? ⟨w.heap.size, 12, none⟩ = some (.int .i64 vl) := hblk.cell 12; have hc13 : W.cell? ⟨w.heap.size, 13, none⟩ = some (.int .i64 ty) := hblk.cell 13; have hc14 : W.cell? ⟨w.heap.size, 14, none⟩ = some (.string d) := hblk.cell 14
  have hv0 := fun n => (frame_conv (hblk.drewN n)).1
  have hv1 := fun n => (frame_conv (hblk.drewN n)).2
  have HB := Lib.hid hblk; have HW := Lib.hid hbw; clear hblk hbw
  go_wp2
  go_quiet (fail)
  clear hv0 hv1
  go_wp2
  have hl1 := blk_regrown (HB.out.drewN nq) 13 rfl
  have hl2 := blk_regrown (HB.out.drewN nq) 14 rfl
  refine region_below (by kernel_rfl) (by kernel_rfl) ?_
  repeat (go_big_quiet_step ((go_at_call 35; exact below_call (fun W => ethword_any _ W))))
  refine wpQuiet_nil ?_
  intro W3 hb3
  have HW3 := Lib.hid ((below_drewN HW.out nq).trans (hb3.mono (below_drewN HW.out nq).size))
  clear hl1 hl2 hb3
  go_wp2
  go_ret2
  refine ⟨?_, HW3.out⟩
  rw [HF.out]
  rfl

theorem ethwrite_any (a0 a1 a2 a3 a4 a5 b0 b1 b2 b3 b4 b5 vl ty : Int) (d : ByteArray) (w : World) :
    Calls Try.prog 25 #[frameVal a0 a1 a2 a3 a4 a5 b0 b1 b2 b3 b4 b5 vl ty d] w fun e w' => e = .returned (frameRes a0 a1 a2 a3 a4 a5 b0 b1 b2 b3 b4 b5 vl ty d) ∧ Below w.heap.size w w' := by
  by_cases h : frameErr vl ty d = 0
  · have HR : frameRes a0 a1 a2 a3 a4 a5 b0 b1 b2 b3 b4 b5 vl ty d = .tuple #[.string (frameText a0 a1 a2 a3 a4 a5 b0 b1 b2 b3 b4 b5 vl ty d), .int .i64 0] := by unfold frameRes; rw [if_pos h, h]
    rw [HR]
    unfold frameErr at h
    split at h
    · omega
    split at h
    · omega
    split at h
    · omega
    by_cases h1 : vl = -1
    · exact ethwrite_bare a0 a1 a2 a3 a4 a5 b0 b1 b2 b3 b4 b5 vl ty d w h1 (by omega) (by omega) (by omega) (by omega)
    · exact ethwrite_tag a0 a1 a2 a3 a4 a5 b0 b1 b2 b3 b4 b5 vl ty d w (by omega) (by omega) (by omega) (by omega) (by omega)
  · exact ethwrite_err a0 a1 a2 a3 a4 a5 b0 b1 b2 b3 b4 b5 vl ty d w h
end Go.Proofs.Ytolbnadafelkhaa
