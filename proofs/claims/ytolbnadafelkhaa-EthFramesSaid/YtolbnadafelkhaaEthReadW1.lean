/-
  The walk of eth.Read: two of its six ways.
-/
import Derived.Test.YtolbnadafelkhaaEthReadW0
namespace Go.Proofs.Ytolbnadafelkhaa
open Go.ChangeShapes Go.WideShapes Go.ChangeAt Go.RowKit
set_option linter.unusedVariables false
set_option linter.unusedSimpArgs false


set_option maxHeartbeats 20000000 in
set_option maxRecDepth 100000 in
theorem ethread_short (s : ByteArray) (w : World) (hs : s.size ≤ 140737488351232) (h14 : 14 ≤ s.size) (ht0 : wordAtI s.data.toList 12 = 33024) (h18 : s.size < 18) :
    Calls Try.prog 27 #[.string s] w fun e w' => e = .returned (rdRes s) ∧ Below w.heap.size w w' := by
  have HRes := Lib.hid (show rdRes s = .tuple #[if rdErr s.data.toList = 0 then rdFrame s else zeroFrame, .int .i64 (rdErr s.data.toList)] from rfl)
  have hll : s.data.toList.length = s.size := rfl
  have HL := Lib.hid hll
  clear hll
  have ht : (wordAtI s.data.toList 12 == 33024) = true := by rw [ht0]; rfl
  have HT := Lib.hid ht0
  clear ht0
  have HE := Lib.hid (show rdRes s = .tuple #[zeroFrame, .int .i64 3] by
    have e : rdErr s.data.toList = 3 := by unfold rdErr; rw [HL.out, if_neg (by omega), if_pos HT.out, if_pos h18]
    rw [HRes.out, e]; rfl)
  clear HRes
  go_enter Try.func27, Try.ntmps27
  go_upto_region 3 with (fail)
  go_cut [4] (fun s4 wx => ∃ g : Nat, s4 = .pointer (some ⟨g, 0, none⟩) ∧ w.heap.size < g ∧ Blk wx g 48 #[.int .u8 (byteI s 0), .int .u8 (byteI s 1), .int .u8 (byteI s 2), .int .u8 (byteI s 3), .int .u8 (byteI s 4), .int .u8 (byteI s 5), .int .u8 (byteI s 6), .int .u8 (byteI s 7), .int .u8 (byteI s 8), .int .u8 (byteI s 9), .int .u8 (byteI s 10), .int .u8 (byteI s 11), .int .i64 (-1), .int .i64 (0), .string ⟨#[]⟩] ∧ Blk wx w.heap.size 48 #[.int .u8 0, .int .u8 0, .int .u8 0, .int .u8 0, .int .u8 0, .int .u8 0, .int .u8 0, .int .u8 0, .int .u8 0, .int .u8 0, .int .u8 0, .int .u8 0, .int .i64 0, .int .i64 0, .string ⟨#[]⟩] ∧ Below w.heap.size w wx)
  case first =>
    have hcv := fun (W : World) (t : ByteArray) => run_bytes_row (P := Try.prog) Try.underlying9 Try.underlying67 Try.underlying5 W t
    have har := fun (W : World) (a : Option Addr) (c : Nat) => run_arrayAt (P := Try.prog) (w := W) Try.underlying46 a 6 c (by omega)
    have hm1 : min 6 s.size = 6 := by omega
    have hm2 : min 12 s.size - 6 = 6 := by omega
    have hws := rowWorld_size
    have hwc := rowWorld_cell?
    have hwf := rowWorld_frozenIf
    have hb1 := fun c j h => bytesRow_ext s 0 6 c j h (by omega)
    have hb2 := fun c j h => bytesRow_ext s 6 12 c j h (by omega)
    have h6 : (6 : Int) ≤ (s.size : Int) := by omega
    have h12 : (12 : Int) ≤ (s.size : Int) := by omega
    go_region
    all_goals
      go_wp2_with fail
      go_meet
      refine ⟨_, rfl, by omega, ?_, ?_, ?_⟩
      · unfold Blk
        simp only [heap_set, heap_row, heap_drew, heap_push, size_push, size_set, rowWorld_size, if_true, Nat.add_assoc]
        try (simp [setObj]; done)
      · unfold Blk
        simp only [heap_set, heap_row, heap_drew, heap_push, size_push, size_set, rowWorld_size, if_true, Nat.add_assoc]
        try (simp [setObj]; done)
      · repeat (with_reducible (first | refine Below.setCell ?_ (by simp only [Nat.add_assoc]; omega) _ | refine Below.alloc ?_ (by (try simp only [size_push, size_set, rowWorld_size, heap_drew]); omega) _ | refine below_row ?_ (by (try simp only [size_push, size_set, rowWorld_size, heap_drew]); omega) _ _ | refine Below.drew ?_ | exact Below.refl _ _))
  case rest =>
    obtain ⟨g, rfl, hg, hblk, hbz, hbw⟩ := hcut
    have HB := Lib.hid hblk
    have HW := Lib.hid hbw
    have HZ := Lib.hid hbz
    have hc := hblk.cell
    have hf := hblk.frozen
    have hzc := hbz.cell
    have hzf := hbz.frozen
    clear hblk hbz hbw
    have hr0 : (s.extract 12 s.size).size = s.size - 12 := by rw [ByteArray.size_extract]; omega
    have hrl := tail_of s 12
    go_wp2_with fail
    generalize s.extract 12 s.size = r at hr0 hrl ⊢
    have hr1 : r.size + 12 ≤ s.size := by omega
    have hr2 : s.size ≤ r.size + 12 := by omega
    have HR0 := Lib.hid hr0
    have HRL := Lib.hid hrl
    clear hr0 hrl
    have hw0 : wordAtI r.data.toList 0 = wordAtI s.data.toList 12 := by rw [HRL.out]; exact wordAtI_drop s.data.toList 12 0
    refine (wordat_eth r _ _ (by omega) (by simp only [Int.toNat_zero]; omega) (by omega)).mono ?_
    rintro e w1 ⟨rfl, k1, rfl⟩
    rw [Int.toNat_zero, hw0]
    have HW0 := Lib.hid hw0
    clear hw0
    go_wp2_with fail
    refine bodyPost_named ?_
    intro W5 hW5
    have hz := HZ.out
    have hne : ¬ w.heap.size = g := by omega
    have hb5 : Blk W5 w.heap.size 48 #[.int .u8 0, .int .u8 0, .int .u8 0, .int .u8 0, .int .u8 0, .int .u8 0, .int .u8 0, .int .u8 0, .int .u8 0, .int .u8 0, .int .u8 0, .int .u8 0, .int .i64 0, .int .i64 0, .string ⟨#[]⟩] := by
      rw [hW5]
      unfold Blk at hz ⊢
      simp only [heap_set, heap_row, heap_drew, heap_drewN, heap_push, size_push, size_set, rowWorld_size, if_true, Nat.add_assoc, hz, hne, if_false]
      simp [setObj]
    have hbw : Below w.heap.size w W5 := by
      rw [hW5]
      (repeat (with_reducible (first | refine Below.setCell ?_ (by simp only [Nat.add_assoc]; omega) _ | refine Below.alloc ?_ (by (try simp only [size_push, size_set, rowWorld_size, heap_drew, heap_drewN]); omega) _ | refine below_row ?_ (by (try simp only [size_push, size_set, rowWorld_size, heap_drew, heap_drewN]); omega) _ _ | refine Below.drew ?_ | refine below_drewN ?_ _ | exact Below.refl _ _ | exact HW.out)))
    clear hW5
    refine bodyPost_ret (v := .tuple #[zeroFrame, .int .i64 3]) (by simp [results, Try.results27, go_sem, hb5.cell, zeroFrame]) rfl ⟨by rw [HE.out], hbw⟩

set_option maxHeartbeats 20000000 in
set_option maxRecDepth 100000 in
theorem ethread_form (s : ByteArray) (w : World) (hs : s.size ≤ 140737488351232) (h14 : 14 ≤ s.size) (ht0 : wordAtI s.data.toList 12 = 33024) (h18 : ¬ s.size < 18) (hv1 : 4095 < wordAtI s.data.toList 14) :
    Calls Try.prog 27 #[.string s] w fun e w' => e = .returned (rdRes s) ∧ Below w.heap.size w w' := by
  have HRes := Lib.hid (show rdRes s = .tuple #[if rdErr s.data.toList = 0 then rdFrame s else zeroFrame, .int .i64 (rdErr s.data.toList)] from rfl)
  have hll : s.data.toList.length = s.size := rfl
  have HL := Lib.hid hll
  clear hll
  have ht : (wordAtI s.data.toList 12 == 33024) = true := by rw [ht0]; rfl
  have HT := Lib.hid ht0
  clear ht0
  have HE := Lib.hid (show rdRes s = .tuple #[zeroFrame, .int .i64 4] by
    have e : rdErr s.data.toList = 4 := by unfold rdErr; rw [HL.out, if_neg (by omega), if_pos HT.out, if_neg h18, if_pos hv1]
    rw [HRes.out, e]; rfl)
  clear HRes
  go_enter Try.func27, Try.ntmps27
  go_upto_region 3 with (fail)
  go_cut [4] (fun s4 wx => ∃ g : Nat, s4 = .pointer (some ⟨g, 0, none⟩) ∧ w.heap.size < g ∧ Blk wx g 48 #[.int .u8 (byteI s 0), .int .u8 (byteI s 1), .int .u8 (byteI s 2), .int .u8 (byteI s 3), .int .u8 (byteI s 4), .int .u8 (byteI s 5), .int .u8 (byteI s 6), .int .u8 (byteI s 7), .int .u8 (byteI s 8), .int .u8 (byteI s 9), .int .u8 (byteI s 10), .int .u8 (byteI s 11), .int .i64 (-1), .int .i64 (0), .string ⟨#[]⟩] ∧ Blk wx w.heap.size 48 #[.int .u8 0, .int .u8 0, .int .u8 0, .int .u8 0, .int .u8 0, .int .u8 0, .int .u8 0, .int .u8 0, .int .u8 0, .int .u8 0, .int .u8 0, .int .u8 0, .int .i64 0, .int .i64 0, .string ⟨#[]⟩] ∧ Below w.heap.size w wx)
  case first =>
    have hcv := fun (W : World) (t : ByteArray) => run_bytes_row (P := Try.prog) Try.underlying9 Try.underlying67 Try.underlying5 W t
    have har := fun (W : World) (a : Option Addr) (c : Nat) => run_arrayAt (P := Try.prog) (w := W) Try.underlying46 a 6 c (by omega)
    have hm1 : min 6 s.size = 6 := by omega
    have hm2 : min 12 s.size - 6 = 6 := by omega
    have hws := rowWorld_size
    have hwc := rowWorld_cell?
    have hwf := rowWorld_frozenIf
    have hb1 := fun c j h => bytesRow_ext s 0 6 c j h (by omega)
    have hb2 := fun c j h => bytesRow_ext s 6 12 c j h (by omega)
    have h6 : (6 : Int) ≤ (s.size : Int) := by omega
    have h12 : (12 : Int) ≤ (s.size : Int) := by omega
    go_region
    all_goals
      go_wp2_with fail
      go_meet
      refine ⟨_, rfl, by omega, ?_, ?_, ?_⟩
      · unfold Blk
        simp only [heap_set, heap_row, heap_drew, heap_push, size_push, size_set, rowWorld_size, if_true, Nat.add_assoc]
        try (simp [setObj]; done)
      · unfold Blk
        simp only [heap_set, heap_row, heap_drew, heap_push, size_push, size_set, rowWorld_size, if_true, Nat.add_assoc]
        try (simp [setObj]; done)
      · repeat (with_reducible (first | refine Below.setCell ?_ (by simp only [Nat.add_assoc]; omega) _ | refine Below.alloc ?_ (by (try simp only [size_push, size_set, rowWorld_size, heap_drew]); omega) _ | refine below_row ?_ (by (try simp only [size_push, size_set, rowWorld_size, heap_drew]); omega) _ _ | refine Below.drew ?_ | exact Below.refl _ _))
  case rest =>
    obtain ⟨g, rfl, hg, hblk, hbz, hbw⟩ := hcut
    have HB := Lib.hid hblk
    have HW := Lib.hid hbw
    have HZ := Lib.hid hbz
    have hc := hblk.cell
    have hf := hblk.frozen
    have hzc := hbz.cell
    have hzf := hbz.frozen
    clear hblk hbz hbw
    have hr0 : (s.extract 12 s.size).size = s.size - 12 := by rw [ByteArray.size_extract]; omega
    have hrl := tail_of s 12
    go_wp2_with fail
    generalize s.extract 12 s.size = r at hr0 hrl ⊢
    have hr1 : r.size + 12 ≤ s.size := by omega
    have hr2 : s.size ≤ r.size + 12 := by omega
    have HR0 := Lib.hid hr0
    have HRL := Lib.hid hrl
    clear hr0 hrl
    have hw0 : wordAtI r.data.toList 0 = wordAtI s.data.toList 12 := by rw [HRL.out]; exact wordAtI_drop s.data.toList 12 0
    refine (wordat_eth r _ _ (by omega) (by simp only [Int.toNat_zero]; omega) (by omega)).mono ?_
    rintro e w1 ⟨rfl, k1, rfl⟩
    rw [Int.toNat_zero, hw0]
    have HW0 := Lib.hid hw0
    clear hw0
    go_wp2_with fail
    have hw2 : wordAtI r.data.toList 2 = wordAtI s.data.toList 14 := by rw [HRL.out]; exact wordAtI_drop s.data.toList 12 2
    have hr3 : (4 : Int) ≤ (r.size : Int) := by omega
    have hrt : (r.extract 4 r.size).size = r.size - 4 := by rw [ByteArray.size_extract]; omega
    go_region_law (go_simp; go_at_call 38; refine (wordat_eth r 2 _ (by omega) (by show 2 + 1 < r.size; omega) (by omega)).mono ?_; rintro e w2 ⟨rfl, k2, rfl⟩; rw [show (2 : Int).toNat = 2 from rfl, hw2])
    have hwb := wordAtI_bd s.data.toList 14
    clear hw2
    go_wp2_with fail
    have hrx : (r.extract 4 r.size).data.toList = s.data.toList.drop 16 := by rw [tail_of, HRL.out, List.drop_drop]
    generalize r.extract 4 r.size = q at hrx hrt ⊢
    have HQ := Lib.hid hrx
    have hq1 : q.size + 16 ≤ s.size := by omega
    have hq2 : s.size ≤ q.size + 16 := by omega
    clear hrx hrt hr3
    have hw3 : wordAtI q.data.toList 0 = wordAtI s.data.toList 16 := by rw [HQ.out]; exact wordAtI_drop s.data.toList 16 0
    have hr3 : (2 : Int) ≤ (q.size : Int) := by omega
    have hrt : (q.extract 2 q.size).size = q.size - 2 := by rw [ByteArray.size_extract]; omega
    go_region_law (go_simp; go_at_call 38; refine (wordat_eth q _ _ (by omega) (by simp only [Int.toNat_zero]; omega) (by omega)).mono ?_; rintro e w3 ⟨rfl, k3, rfl⟩; rw [Int.toNat_zero, hw3])
    have hwb2 := wordAtI_bd s.data.toList 16
    have hrx : (q.extract 2 q.size) = s.extract 18 s.size := by
      apply bytes_inj
      rw [tail_of, tail_of, HQ.out, List.drop_drop]
    have HX := Lib.hid hrx
    clear hrx hw3
    go_wp2_with fail
    refine bodyPost_named ?_
    intro W5 hW5
    have hz := HZ.out
    have hne : ¬ w.heap.size = g := by omega
    have hb5 : Blk W5 w.heap.size 48 #[.int .u8 0, .int .u8 0, .int .u8 0, .int .u8 0, .int .u8 0, .int .u8 0, .int .u8 0, .int .u8 0, .int .u8 0, .int .u8 0, .int .u8 0, .int .u8 0, .int .i64 0, .int .i64 0, .string ⟨#[]⟩] := by
      rw [hW5]
      unfold Blk at hz ⊢
      simp only [heap_set, heap_row, heap_drew, heap_drewN, heap_push, size_push, size_set, rowWorld_size, if_true, Nat.add_assoc, hz, hne, if_false]
      simp [setObj]
    have hbw : Below w.heap.size w W5 := by
      rw [hW5]
      (repeat (with_reducible (first | refine Below.setCell ?_ (by simp only [Nat.add_assoc]; omega) _ | refine Below.alloc ?_ (by (try simp only [size_push, size_set, rowWorld_size, heap_drew, heap_drewN]); omega) _ | refine below_row ?_ (by (try simp only [size_push, size_set, rowWorld_size, heap_drew, heap_drewN]); omega) _ _ | refine Below.drew ?_ | refine below_drewN ?_ _ | exact Below.refl _ _ | exact HW.out)))
    clear hW5
    refine bodyPost_ret (v := .tuple #[zeroFrame, .int .i64 4]) (by simp [results, Try.results27, go_sem, hb5.cell, zeroFrame]) rfl ⟨by rw [HE.out], hbw⟩

end Go.Proofs.Ytolbnadafelkhaa
