/-
  The walks of the reference's MacAt and TextFrame.
-/
import Derived.Test.YtolbnadafelkhaaTextFrameW
import Derived.Deep.RegionLaw
import Derived.Deep.LoopGhost
namespace Go.Proofs.Ytolbnadafelkhaa
open Go.ChangeShapes Go.WideShapes Go.ChangeAt Go.RowKit
set_option linter.unusedVariables false
set_option linter.unusedSimpArgs false

set_option maxHeartbeats 8000000 in
set_option maxRecDepth 100000 in
theorem textframe_tagged (s : ByteArray) (w : World) (hs : s.size ≤ 140737488351232) (h18 : 18 ≤ s.size) (ht0 : wordAtI s.data.toList 12 = 33024) (hv1 : ¬ 4095 < wordAtI s.data.toList 14) :
    Calls Try.prog 28 #[.string s] w fun e w' => e = .returned (rdRes s) ∧ Below w.heap.size w w' := by
  have hll : s.data.toList.length = s.size := rfl
  have HL := Lib.hid hll
  clear hll
  have hwb := wordAtI_bd s.data.toList 12
  have HV := Lib.hid hv1
  have ht : (wordAtI s.data.toList 12 == 33024) = true := by rw [ht0]; rfl
  have HT := Lib.hid ht0
  clear ht0
  go_enter Try.func28, Try.ntmps28
  go_wp2_with (go_at_call 34; refine (wordat_any _ _ _ (by omega) (by show 12 < s.size; omega) hs).mono ?_; rintro e w' ⟨rfl, rfl⟩; rw [show (12 : Int).toNat = 12 from rfl])
  go_cut [7] (fun s7 wx => ∃ g : Nat, s7 = .pointer (some ⟨g, 0, none⟩) ∧ w.heap.size + 1 < g ∧ Blk wx g 48 #[.int .u8 (byteI s 0), .int .u8 (byteI s 1), .int .u8 (byteI s 2), .int .u8 (byteI s 3), .int .u8 (byteI s 4), .int .u8 (byteI s 5), .int .u8 (byteI s 6), .int .u8 (byteI s 7), .int .u8 (byteI s 8), .int .u8 (byteI s 9), .int .u8 (byteI s 10), .int .u8 (byteI s 11), .int .i64 (-1), .int .i64 (wordAtI s.data.toList 16), .string (s.extract 18 s.size)] ∧ Blk wx w.heap.size 48 #[.int .u8 0, .int .u8 0, .int .u8 0, .int .u8 0, .int .u8 0, .int .u8 0, .int .u8 0, .int .u8 0, .int .u8 0, .int .u8 0, .int .u8 0, .int .u8 0, .int .i64 0, .int .i64 0, .string ⟨#[]⟩] ∧ Blk wx (w.heap.size + 1) 48 #[.int .u8 0, .int .u8 0, .int .u8 0, .int .u8 0, .int .u8 0, .int .u8 0, .int .u8 0, .int .u8 0, .int .u8 0, .int .u8 0, .int .u8 0, .int .u8 0, .int .i64 0, .int .i64 0, .string ⟨#[]⟩] ∧ Below w.heap.size w wx)
  case first =>
    have hq1 : IntKind.i64.wrap 18 = 18 := by decide
    have hq2 : (18 : Int) ≤ (s.size : Int) := by omega
    have hsz8 : (s.extract 18 s.size).size = s.size - 18 := by rw [ByteArray.size_extract]; omega
    go_region_law (go_simp; first | (go_at_call_of 39 (Value.int IntKind.i64 0); refine (macat_any s 0 _ (by omega) (by show 0 + 6 ≤ s.size; omega) hs).mono ?_; rintro e w2 ⟨rfl, hb2⟩; unfold macVal; have hc2 := (bcell hb2).1; have hf2 := (bcell hb2).2; have hz2 := hb2.size; simp only [size_push, heap_drew, heap_drewN] at hz2; have hy2 := Nat.lt_of_succ_le hz2; simp only [size_push, heap_drew, heap_drewN] at hc2 hf2; have HQ2 := Lib.hid hb2) | (go_at_call_of 39 (Value.int IntKind.i64 6); refine (macat_any s 6 _ (by omega) (by show 6 + 6 ≤ s.size; omega) hs).mono ?_; rintro e w3 ⟨rfl, hb3⟩; unfold macVal; have hc3 := (bcell hb3).1; have hf3 := (bcell hb3).2; have hz3 := hb3.size; have hy3 := Nat.lt_of_lt_of_le hy2 (Nat.le_trans (by first | exact Nat.le_refl _ | (rw [size_push]; exact Nat.le_succ _)) hz3); (try simp only [size_push, heap_drew, heap_drewN] at hz3); (try have hx3 := Nat.lt_of_succ_le hz3); (try simp only [size_push, heap_drew, heap_drewN] at hc3 hf3); have HQ3 := Lib.hid hb3) | (go_at_call 34; refine (wordat_any _ _ _ (by omega) (by show 16 < s.size; omega) hs).mono ?_; rintro e w' ⟨rfl, rfl⟩; rw [show (16 : Int).toNat = 16 from rfl]))
    all_goals
      go_wp2_with fail
      go_meet
      have hk2 := HQ2.out.block
      have hk3 := HQ3.out.block
      simp only [size_push, heap_drew, heap_drewN] at hk2
      try simp only [size_push, heap_drew, heap_drewN] at hk3
      refine ⟨_, rfl, by omega, ?_, ?_, ?_, ?_⟩
      · unfold Blk
        simp (disch := (first | omega | (simp only [size_push, size_set, heap_drew, heap_drewN, rowWorld_size]; done) | (simp only [size_push, size_set, heap_drew, heap_drewN, rowWorld_size]; omega))) only [heap_set_eq, heap_set_ne, heap_push_eq, heap_push_ne, heap_row_ne, heap_drew, heap_drewN, size_push, size_set, rowWorld_size, hk2, hk3]
        try (simp [setObj]; done)
      · unfold Blk
        simp (disch := (first | omega | (simp only [size_push, size_set, heap_drew, heap_drewN, rowWorld_size]; done) | (simp only [size_push, size_set, heap_drew, heap_drewN, rowWorld_size]; omega))) only [heap_set_eq, heap_set_ne, heap_push_eq, heap_push_ne, heap_row_ne, heap_drew, heap_drewN, size_push, size_set, rowWorld_size, hk2, hk3]
      · unfold Blk
        simp (disch := (first | omega | (simp only [size_push, size_set, heap_drew, heap_drewN, rowWorld_size]; done) | (simp only [size_push, size_set, heap_drew, heap_drewN, rowWorld_size]; omega))) only [heap_set_eq, heap_set_ne, heap_push_eq, heap_push_ne, heap_row_ne, heap_drew, heap_drewN, size_push, size_set, rowWorld_size, hk2, hk3]
      · have e2 : Below w.heap.size _ w2 := HQ2.out.mono (by simp only [size_push, heap_drew, heap_drewN]; omega)
        have e3 : Below w.heap.size _ w3 := HQ3.out.mono (by (try simp only [size_push, heap_drew, heap_drewN]); omega)
        repeat (with_reducible (first | refine Below.setCell ?_ (by (try simp only [Nat.add_assoc]); omega) _ | refine Below.alloc ?_ (by (try simp only [size_push, size_set, rowWorld_size, heap_drew, heap_drewN]); omega) _ | refine Below.drew ?_ | exact Below.refl _ _ | refine Below.trans ?_ e3 | refine Below.trans ?_ e2))
  case rest =>
    obtain ⟨g, rfl, hg, hblk, hbz, hbz1, hbw⟩ := hcut
    have HB := Lib.hid hblk
    have HW := Lib.hid hbw
    have HZ := Lib.hid hbz
    have HY := Lib.hid hbz1
    have hc := hblk.cell
    have hf := hblk.frozen
    have hzc := hbz.cell
    have hzf := hbz.frozen
    have hyc := hbz1.cell
    clear hblk hbz hbz1 hbw
    have hsz8 : (s.extract 18 s.size).size = s.size - 18 := by rw [ByteArray.size_extract]; omega
    have hwb2 := wordAtI_bd s.data.toList 14
    go_wp2_with fail
    refine (wordat_any _ _ _ (by omega) (by show 14 < s.size; omega) hs).mono ?_
    rintro e w2 ⟨rfl, rfl⟩
    rw [show (14 : Int).toNat = 14 from rfl]
    by_cases hl : s.size - 18 ≤ 65535
    · have HE := Lib.hid (show rdRes s = .tuple #[rdFrame s, .int .i64 0] by
        have e : rdErr s.data.toList = 0 := by unfold rdErr; rw [HL.out, if_neg (by omega), if_pos HT.out, if_neg (by omega), if_neg (by have := HV.out; omega), if_neg (by omega)]
        unfold rdRes
        rw [e]; rfl)
      have hv : rdFrame s = .agg #[.int .u8 (byteI s 0), .int .u8 (byteI s 1), .int .u8 (byteI s 2), .int .u8 (byteI s 3), .int .u8 (byteI s 4), .int .u8 (byteI s 5), .int .u8 (byteI s 6), .int .u8 (byteI s 7), .int .u8 (byteI s 8), .int .u8 (byteI s 9), .int .u8 (byteI s 10), .int .u8 (byteI s 11), .int .i64 (wordAtI s.data.toList 14), .int .i64 (wordAtI s.data.toList 16), .string (s.extract 18 s.size)] := by
        unfold rdFrame
        rw [if_pos HT.out]
        rfl
      go_wp2_with fail
      refine bodyPost_named ?_
      intro W5 hW5
      have hz := HZ.out
      have hb5 : Blk W5 w.heap.size 48 #[.int .u8 (byteI s 0), .int .u8 (byteI s 1), .int .u8 (byteI s 2), .int .u8 (byteI s 3), .int .u8 (byteI s 4), .int .u8 (byteI s 5), .int .u8 (byteI s 6), .int .u8 (byteI s 7), .int .u8 (byteI s 8), .int .u8 (byteI s 9), .int .u8 (byteI s 10), .int .u8 (byteI s 11), .int .i64 (wordAtI s.data.toList 14), .int .i64 (wordAtI s.data.toList 16), .string (s.extract 18 s.size)] := by
        rw [hW5]
        unfold Blk at hz ⊢
        simp (disch := (first | omega | (simp only [size_push, size_set, heap_drew, heap_drewN, rowWorld_size]; done) | (simp only [size_push, size_set, heap_drew, heap_drewN, rowWorld_size]; omega))) only [heap_set_eq, heap_set_ne, heap_push_eq, heap_push_ne, heap_row_ne, heap_drew, heap_drewN, size_push, size_set, rowWorld_size, hz]
        try (simp [setObj]; done)
      have hbw : Below w.heap.size w W5 := by
        rw [hW5]
        (repeat (with_reducible (first | refine Below.setCell ?_ (by simp only [Nat.add_assoc]; omega) _ | refine Below.alloc ?_ (by (try simp only [size_push, size_set, rowWorld_size, heap_drew, heap_drewN]); omega) _ | refine below_row ?_ (by (try simp only [size_push, size_set, rowWorld_size, heap_drew, heap_drewN]); omega) _ _ | refine Below.drew ?_ | refine below_drewN ?_ _ | exact Below.refl _ _ | exact HW.out)))
      clear hW5
      refine bodyPost_ret (v := .tuple #[.agg #[.int .u8 (byteI s 0), .int .u8 (byteI s 1), .int .u8 (byteI s 2), .int .u8 (byteI s 3), .int .u8 (byteI s 4), .int .u8 (byteI s 5), .int .u8 (byteI s 6), .int .u8 (byteI s 7), .int .u8 (byteI s 8), .int .u8 (byteI s 9), .int .u8 (byteI s 10), .int .u8 (byteI s 11), .int .i64 (wordAtI s.data.toList 14), .int .i64 (wordAtI s.data.toList 16), .string (s.extract 18 s.size)], .int .i64 0]) (by simp [results, Try.results28, go_sem, hb5.cell]) rfl ⟨by rw [HE.out, hv], hbw⟩
    · have HE := Lib.hid (show rdRes s = .tuple #[zeroFrame, .int .i64 2] by
        have e : rdErr s.data.toList = 2 := by unfold rdErr; rw [HL.out, if_neg (by omega), if_pos HT.out, if_neg (by omega), if_neg (by have := HV.out; omega), if_pos (by omega)]
        unfold rdRes
        rw [e]; rfl)
      go_wp2_with fail
      refine bodyPost_named ?_
      intro W5 hW5
      have hz := HZ.out
      have hb5 : Blk W5 w.heap.size 48 #[.int .u8 0, .int .u8 0, .int .u8 0, .int .u8 0, .int .u8 0, .int .u8 0, .int .u8 0, .int .u8 0, .int .u8 0, .int .u8 0, .int .u8 0, .int .u8 0, .int .i64 0, .int .i64 0, .string ⟨#[]⟩] := by
        rw [hW5]
        unfold Blk at hz ⊢
        simp (disch := (first | omega | (simp only [size_push, size_set, heap_drew, heap_drewN, rowWorld_size]; done) | (simp only [size_push, size_set, heap_drew, heap_drewN, rowWorld_size]; omega))) only [heap_set_eq, heap_set_ne, heap_push_eq, heap_push_ne, heap_row_ne, heap_drew, heap_drewN, size_push, size_set, rowWorld_size, hz]
        try (simp [setObj]; done)
      have hbw : Below w.heap.size w W5 := by
        rw [hW5]
        (repeat (with_reducible (first | refine Below.setCell ?_ (by simp only [Nat.add_assoc]; omega) _ | refine Below.alloc ?_ (by (try simp only [size_push, size_set, rowWorld_size, heap_drew, heap_drewN]); omega) _ | refine below_row ?_ (by (try simp only [size_push, size_set, rowWorld_size, heap_drew, heap_drewN]); omega) _ _ | refine Below.drew ?_ | refine below_drewN ?_ _ | exact Below.refl _ _ | exact HW.out)))
      clear hW5
      refine bodyPost_ret (v := .tuple #[zeroFrame, .int .i64 2]) (by simp [results, Try.results28, go_sem, hb5.cell, zeroFrame]) rfl ⟨by rw [HE.out], hbw⟩


end Go.Proofs.Ytolbnadafelkhaa
