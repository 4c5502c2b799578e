/-
  The walk of the reference's FrameText.
-/
import Derived.Test.YtolbnadafelkhaaEthW
import Derived.Test.YtolbnadafelkhaaSerialW
import Derived.Deep.RegionLaw
import Derived.Deep.LoopGhost
namespace Go.Proofs.Ytolbnadafelkhaa
open Go.ChangeShapes Go.WideShapes Go.ChangeAt Go.RowKit
set_option linter.unusedVariables false
set_option linter.unusedSimpArgs false



set_option maxRecDepth 100000 in
theorem frametext_bare (a0 a1 a2 a3 a4 a5 b0 b1 b2 b3 b4 b5 vl ty : Int) (d : ByteArray) (w : World) (hl : ∀ x ∈ [a0, a1, a2, a3, a4, a5, b0, b1, b2, b3, b4, b5], 0 ≤ x ∧ x ≤ 255) (h1 : vl = -1) (h3 : 0 ≤ ty) (h4 : ty ≤ 65535) (h2 : ¬ ty = 33024) (h5 : d.size ≤ 65535) :
    Calls Try.prog 26 #[frameVal a0 a1 a2 a3 a4 a5 b0 b1 b2 b3 b4 b5 vl ty d] w fun e w' => e = .returned (.tuple #[.string (frameText a0 a1 a2 a3 a4 a5 b0 b1 b2 b3 b4 b5 vl ty d), .int .i64 0]) ∧ Below w.heap.size w w' := by
  obtain ⟨i0, hi0, hz0, hz1, hz2⟩ := info_parts byte_info
  have HL := Lib.hid hl
  have HF : Hid (frameText a0 a1 a2 a3 a4 a5 b0 b1 b2 b3 b4 b5 vl ty d = strOfNums [a0, a1, a2, a3, a4, a5, b0, b1, b2, b3, b4, b5] ++ ⟨#[]⟩ ++ strOfNums [ty / 256 % 256, ty % 256] ++ d) := by
    show frameText a0 a1 a2 a3 a4 a5 b0 b1 b2 b3 b4 b5 vl ty d = _
    unfold frameText
    rw [if_neg (by omega), strOfNums_app]
    rfl
  have hsz := strOfNums_size
  have q1 : (vl == -1) = true := by rw [h1]; rfl
  have q2 : (ty == 33024) = false := by rw [beq_eq_false_iff_ne]; exact h2
  have q3 : -1 ≤ vl := by omega
  have q4 : vl < 0 := by omega
  clear h1 h2 hl
  unfold frameVal
  go_enter Try.func26, Try.ntmps26
  go_upto_region 1 with (fail)
  have hblk := Blk.new w 48 #[.int .u8 a0, .int .u8 a1, .int .u8 a2, .int .u8 a3, .int .u8 a4, .int .u8 a5, .int .u8 b0, .int .u8 b1, .int .u8 b2, .int .u8 b3, .int .u8 b4, .int .u8 b5, .int .i64 vl, .int .i64 ty, .string d]; have hbw : Below w.heap.size w (w.alloc (.cells #[.int .u8 a0, .int .u8 a1, .int .u8 a2, .int .u8 a3, .int .u8 a4, .int .u8 a5, .int .u8 b0, .int .u8 b1, .int .u8 b2, .int .u8 b3, .int .u8 b4, .int .u8 b5, .int .i64 vl, .int .i64 ty, .string d] 48)) := (Below.refl _ _).alloc (Nat.le_refl _) _; generalize w.alloc (.cells #[.int .u8 a0, .int .u8 a1, .int .u8 a2, .int .u8 a3, .int .u8 a4, .int .u8 a5, .int .u8 b0, .int .u8 b1, .int .u8 b2, .int .u8 b3, .int .u8 b4, .int .u8 b5, .int .i64 vl, .int .i64 ty, .string d] 48) = W at hblk hbw ⊢; have hc12 : W.cell? ⟨w.heap.size, 12, none⟩ = some (.int .i64 vl) := hblk.cell 12; have hc13 : W.cell? ⟨w.heap.size, 13, none⟩ = some (.int .i64 ty) := hblk.cell 13; have hc14 : W.cell? ⟨w.heap.size, 14, none⟩ = some (.string d) := hblk.cell 14
  have HB := Lib.hid hblk; have HW := Lib.hid hbw; clear hblk hbw
  go_wp2_with (go_at_call 11; first | (refine (between_yes _ _ _ _ (by omega) (by omega)).mono ?_; rintro e w' ⟨rfl, rfl⟩) | (refine (between_low _ _ _ _ (by omega)).mono ?_; rintro e w' ⟨rfl, rfl⟩) | (refine (between_high _ _ _ _ (by omega)).mono ?_; rintro e w' ⟨rfl, rfl⟩) | (refine (between_any _ _ _ _).mono ?_; rintro e w' ⟨rfl, rfl⟩))
  clear hc12 hc13 hc14
  have hrA : Reads W W.heap.size 1 (some ⟨w.heap.size, 0, none⟩) 6 [.int .u8 a0, .int .u8 a1, .int .u8 a2, .int .u8 a3, .int .u8 a4, .int .u8 a5] := reads_of_cells (frame_cells HB.out).1 HB.out.lt rfl
  have hrB : Reads W W.heap.size 1 (some ⟨w.heap.size, 6, none⟩) 6 [.int .u8 b0, .int .u8 b1, .int .u8 b2, .int .u8 b3, .int .u8 b4, .int .u8 b5] := reads_of_cells (frame_cells HB.out).2 HB.out.lt rfl
  go_region_law (first
    | (refine step_append_any _ rfl (.tmp 33) (.tmp 35) 67 rfl W.heap.size 5 i0 _ 1 1 Try.underlying67 hi0 hz0 hz1 hz2 rfl (by omega) (.slice (some ⟨W.heap.size, 0, none⟩) 0 0) 0 [] (by simp [Act.eval, Act.put]) (own_empty (Blk.new _ _ _)) W.heap.size (some ⟨w.heap.size, 0, none⟩) 6 6 [.int .u8 a0, .int .u8 a1, .int .u8 a2, .int .u8 a3, .int .u8 a4, .int .u8 a5] (by simp [Act.eval, Act.put]) ?c1 ?c2 ?c3 ?c4 ?c5 ?_
       case c1 => exact hrA.drew.alloc (Nat.le_refl _) _
       case c2 => simp [Value.oneCell']
       case c3 => simp [maxLen]
       case c4 => omega
       case c5 => simp
       intro v1 w1 hown1 hg1 hat1)
    | (refine step_append_any _ rfl (.tmp 36) (.tmp 38) 67 rfl W.heap.size 5 i0 _ 1 1 Try.underlying67 hi0 hz0 hz1 hz2 rfl (by omega) v1 (0 + 6) ([] ++ [.int .u8 a0, .int .u8 a1, .int .u8 a2, .int .u8 a3, .int .u8 a4, .int .u8 a5]) (by simp [Act.eval, Act.put]) hown1 W.heap.size (some ⟨w.heap.size, 6, none⟩) 6 6 [.int .u8 b0, .int .u8 b1, .int .u8 b2, .int .u8 b3, .int .u8 b4, .int .u8 b5] (by simp [Act.eval, Act.put]) ?d1 ?d2 ?d3 ?d4 ?d5 ?_
       case d1 => exact (hrB.drew.alloc (Nat.le_refl _) _).grown hg1 (by simp) (by intro g hg; simp [Value.ownBlock] at hg; omega)
       case d2 => simp [Value.oneCell']
       case d3 => simp [maxLen]
       case d4 => omega
       case d5 => exact Nat.le_trans (by simp) hg1.size
       intro v2 w2 hown2 hg2 hat2
       have hex := hown2.form (by omega)
       obtain ⟨g2, cap2, hv2, hgb, hgl⟩ := hex
       rw [hv2] at hown2 hat2 ⊢
       clear hv2))
  have hcells : ∀ (j : Nat) u, [Value.int .u8 a0, .int .u8 a1, .int .u8 a2, .int .u8 a3, .int .u8 a4, .int .u8 a5, .int .u8 b0, .int .u8 b1, .int .u8 b2, .int .u8 b3, .int .u8 b4, .int .u8 b5][j]? = some u → w2.cell? ⟨g2, j, none⟩ = some u := fun j u hu => by
    have := hown2.cells (g := g2) rfl j u (by simpa using hu)
    simpa [Addr.add_lit] using this
  have hb2 : Below W.heap.size W w2 := by
    have e1 : Below W.heap.size W _ := ((Below.refl W.heap.size W).drew.alloc (Nat.le_refl _) (.cells #[] 5)).grown hg1 (by simp) (by intro g hg; simp [Value.ownBlock] at hg; omega)
    refine e1.grown hg2 e1.size (fun k hk => ?_)
    rcases hat1 with e | e
    · rw [e] at hk; simp [Value.ownBlock] at hk; omega
    · rw [e] at hk; simp at hk; omega
  have HBo := Lib.hid ((HB.out.below hb2 HB.out.lt))
  have HWo := Lib.hid (HW.out.trans (hb2.mono HW.out.size))
  have HC := Lib.hid hcells
  have HG := Lib.hid hgl
  clear hown2 hown1 hg1 hg2 hat1 hat2 hb2 hi0 hz0 hz1 hz2 hrA hrB hcells hgl hgb
  simp only [List.getElem_toArray, List.getElem_cons_succ, List.getElem_cons_zero, Act.put, List.setIfInBounds_toArray, List.set_cons_succ, List.set_cons_zero]
  go_wp2_with fail
  go_loopw [5, 41] (fun ov iv wr => ∃ k : Nat, k ≤ 12 ∧ iv = .int .i64 k ∧ ov = .string (strOfNums ([a0, a1, a2, a3, a4, a5, b0, b1, b2, b3, b4, b5].take k)) ∧ Below w2.heap.size w2 wr) (fun _ iv _ => 12 - (intOf iv).toNat)
  case atStart => exact ⟨0, by omega, rfl, rfl, Below.refl _ _⟩
  case round =>
    obtain ⟨k, hk, rfl, rfl, hbr⟩ := hrel
    have HR := Lib.hid hbr
    clear hbr
    by_cases hlt : k < 12
    · have hx : ∃ x, [a0, a1, a2, a3, a4, a5, b0, b1, b2, b3, b4, b5][k]? = some x := ⟨_, List.getElem?_eq_getElem (by simpa using hlt)⟩
      obtain ⟨x, hx⟩ := hx
      have hx01 := HL.out x (List.mem_of_getElem? hx)
      have hx0 := hx01.1
      have hx1 := hx01.2
      have hcr : wr.cell? ⟨g2, k, none⟩ = some (.int .u8 x) := (HR.out.cell (p := ⟨g2, k, none⟩) HG.out).trans (HC.out k _ (by
        have := congrArg (Option.map (Value.int .u8)) hx
        rw [← List.getElem?_map] at this
        exact this))
      have hxm : x % 256 = x := by omega
      have HT := Lib.hid (show [a0, a1, a2, a3, a4, a5, b0, b1, b2, b3, b4, b5].take (k + 1) = [a0, a1, a2, a3, a4, a5, b0, b1, b2, b3, b4, b5].take k ++ [x] by rw [List.take_add_one, hx]; rfl)
      have hlk : ([a0, a1, a2, a3, a4, a5, b0, b1, b2, b3, b4, b5].take k).length ≤ 12 := by rw [List.length_take]; exact Nat.le_trans (Nat.min_le_left _ _) (by omega)
      generalize [a0, a1, a2, a3, a4, a5, b0, b1, b2, b3, b4, b5].take k = pre at *
      clear hx hx01
      go_wp2_with fail
      refine (bytes_any _ 1 _ [x] _ rfl (by omega) (cellsAt_blk (cs := #[.int .i64 x]) (t := 3) (by simp only [heap_push, if_true]))).mono ?_
      rintro e w3 ⟨rfl, hb3⟩
      simp only [List.map_cons, List.map_nil, hxm]
      have HR3 := Lib.hid ((HR.out.alloc HR.out.size (.cells #[.int .i64 x] 3)).trans (hb3.mono (by rw [size_push]; have := HR.out.size; omega)))
      clear hb3 hcr hxm
      have hcat := strOfNums_app pre [x]
      go_wp2_with fail
      go_roundw
      case rel => exact ⟨k + 1, by omega, by go_num, by rw [HT.out], HR3.out⟩
      case measure => simp [intOf]; omega
    · have hk12 : k = 12 := by omega
      have HK := Lib.hid hk12
      clear hk12
      have HB4 := Lib.hid (HBo.out.below HR.out HBo.out.lt)
      have HW4 := Lib.hid (HWo.out.trans (HR.out.mono HWo.out.size))
      have hl1 := blk_regrown HB4.out 13 rfl
      have hl2 := blk_regrown HB4.out 14 rfl
      have HT := Lib.hid (show [a0, a1, a2, a3, a4, a5, b0, b1, b2, b3, b4, b5].take k = [a0, a1, a2, a3, a4, a5, b0, b1, b2, b3, b4, b5] by rw [HK.out]; rfl)
      have hlk : ([a0, a1, a2, a3, a4, a5, b0, b1, b2, b3, b4, b5].take k).length ≤ 12 := by rw [List.length_take]; exact Nat.le_trans (Nat.min_le_left _ _) (by omega)
      generalize [a0, a1, a2, a3, a4, a5, b0, b1, b2, b3, b4, b5].take k = pre at *
      go_wp2_with fail
      refine region_below (by kernel_rfl) (by kernel_rfl) ?_
      repeat (go_big_quiet_step ((go_at_call 36; exact below_call (fun W => word_any _ W h3 (by omega)))))
      refine wpQuiet_nil ?_
      intro W5 hb5
      have HW5 := Lib.hid (HW4.out.trans (hb5.mono HW4.out.size))
      clear hl1 hl2 hb5
      go_wp2
      go_ret2
      refine ⟨?_, HW5.out⟩
      rw [HF.out, HT.out]
      rfl

set_option maxRecDepth 100000 in
theorem frametext_tag (a0 a1 a2 a3 a4 a5 b0 b1 b2 b3 b4 b5 vl ty : Int) (d : ByteArray) (w : World) (hl : ∀ x ∈ [a0, a1, a2, a3, a4, a5, b0, b1, b2, b3, b4, b5], 0 ≤ x ∧ x ≤ 255) (h1 : 0 ≤ vl) (h2 : vl ≤ 4095) (h3 : 0 ≤ ty) (h4 : ty ≤ 65535) (h5 : d.size ≤ 65535) :
    Calls Try.prog 26 #[frameVal a0 a1 a2 a3 a4 a5 b0 b1 b2 b3 b4 b5 vl ty d] w fun e w' => e = .returned (.tuple #[.string (frameText a0 a1 a2 a3 a4 a5 b0 b1 b2 b3 b4 b5 vl ty d), .int .i64 0]) ∧ Below w.heap.size w w' := by
  obtain ⟨i0, hi0, hz0, hz1, hz2⟩ := info_parts byte_info
  have HL := Lib.hid hl
  have HF : Hid (frameText a0 a1 a2 a3 a4 a5 b0 b1 b2 b3 b4 b5 vl ty d = strOfNums [a0, a1, a2, a3, a4, a5, b0, b1, b2, b3, b4, b5] ++ (strOfNums [129, 0] ++ strOfNums [vl / 256 % 256, vl % 256]) ++ strOfNums [ty / 256 % 256, ty % 256] ++ d) := by
    show frameText a0 a1 a2 a3 a4 a5 b0 b1 b2 b3 b4 b5 vl ty d = _
    unfold frameText
    rw [if_pos h1, strOfNums_app [a0, a1, a2, a3, a4, a5]]
    rfl
  have hsz := strOfNums_size
  have q3 : -1 ≤ vl := by omega
  clear hl
  unfold frameVal
  go_enter Try.func26, Try.ntmps26
  go_upto_region 1 with (fail)
  have hblk := Blk.new w 48 #[.int .u8 a0, .int .u8 a1, .int .u8 a2, .int .u8 a3, .int .u8 a4, .int .u8 a5, .int .u8 b0, .int .u8 b1, .int .u8 b2, .int .u8 b3, .int .u8 b4, .int .u8 b5, .int .i64 vl, .int .i64 ty, .string d]; have hbw : Below w.heap.size w (w.alloc (.cells #[.int .u8 a0, .int .u8 a1, .int .u8 a2, .int .u8 a3, .int .u8 a4, .int .u8 a5, .int .u8 b0, .int .u8 b1, .int .u8 b2, .int .u8 b3, .int .u8 b4, .int .u8 b5, .int .i64 vl, .int .i64 ty, .string d] 48)) := (Below.refl _ _).alloc (Nat.le_refl _) _; generalize w.alloc (.cells #[.int .u8 a0, .int .u8 a1, .int .u8 a2, .int .u8 a3, .int .u8 a4, .int .u8 a5, .int .u8 b0, .int .u8 b1, .int .u8 b2, .int .u8 b3, .int .u8 b4, .int .u8 b5, .int .i64 vl, .int .i64 ty, .string d] 48) = W at hblk hbw ⊢; have hc12 : W.cell? ⟨w.heap.size, 12, none⟩ = some (.int .i64 vl) := hblk.cell 12; have hc13 : W.cell? ⟨w.heap.size, 13, none⟩ = some (.int .i64 ty) := hblk.cell 13; have hc14 : W.cell? ⟨w.heap.size, 14, none⟩ = some (.string d) := hblk.cell 14
  have HB := Lib.hid hblk; have HW := Lib.hid hbw; clear hblk hbw
  go_wp2_with (go_at_call 11; first | (refine (between_yes _ _ _ _ (by omega) (by omega)).mono ?_; rintro e w' ⟨rfl, rfl⟩) | (refine (between_low _ _ _ _ (by omega)).mono ?_; rintro e w' ⟨rfl, rfl⟩) | (refine (between_high _ _ _ _ (by omega)).mono ?_; rintro e w' ⟨rfl, rfl⟩) | (refine (between_any _ _ _ _).mono ?_; rintro e w' ⟨rfl, rfl⟩))
  have hl1 := blk_regrown HB.out 12 rfl
  refine region_below (by kernel_rfl) (by kernel_rfl) ?_
  repeat (go_big_quiet_step ((go_at_call 36; exact below_call (fun W => word_any _ W (by omega) (by omega)))))
  refine wpQuiet_nil ?_
  intro W0 hb0
  have hblk := HB.out.below hb0 HB.out.lt
  have hbw := HW.out.trans (hb0.mono HW.out.size)
  have hc14 : W0.cell? ⟨w.heap.size, 14, none⟩ = some (.string d) := hblk.cell 14
  clear HB HW hl1 hb0 hc12 hc13
  have HB := Lib.hid hblk; have HW := Lib.hid hbw; clear hblk hbw
  go_wp2_with fail
  clear hc14
  have hrA : Reads W0 W0.heap.size 1 (some ⟨w.heap.size, 0, none⟩) 6 [.int .u8 a0, .int .u8 a1, .int .u8 a2, .int .u8 a3, .int .u8 a4, .int .u8 a5] := reads_of_cells (frame_cells HB.out).1 HB.out.lt rfl
  have hrB : Reads W0 W0.heap.size 1 (some ⟨w.heap.size, 6, none⟩) 6 [.int .u8 b0, .int .u8 b1, .int .u8 b2, .int .u8 b3, .int .u8 b4, .int .u8 b5] := reads_of_cells (frame_cells HB.out).2 HB.out.lt rfl
  go_region_law (first
    | (refine step_append_any _ rfl (.tmp 33) (.tmp 35) 67 rfl W0.heap.size 5 i0 _ 1 1 Try.underlying67 hi0 hz0 hz1 hz2 rfl (by omega) (.slice (some ⟨W0.heap.size, 0, none⟩) 0 0) 0 [] (by simp [Act.eval, Act.put]) (own_empty (Blk.new _ _ _)) W0.heap.size (some ⟨w.heap.size, 0, none⟩) 6 6 [.int .u8 a0, .int .u8 a1, .int .u8 a2, .int .u8 a3, .int .u8 a4, .int .u8 a5] (by simp [Act.eval, Act.put]) ?c1 ?c2 ?c3 ?c4 ?c5 ?_
       case c1 => exact hrA.drew.alloc (Nat.le_refl _) _
       case c2 => simp [Value.oneCell']
       case c3 => simp [maxLen]
       case c4 => omega
       case c5 => simp
       intro v1 w1 hown1 hg1 hat1)
    | (refine step_append_any _ rfl (.tmp 36) (.tmp 38) 67 rfl W0.heap.size 5 i0 _ 1 1 Try.underlying67 hi0 hz0 hz1 hz2 rfl (by omega) v1 (0 + 6) ([] ++ [.int .u8 a0, .int .u8 a1, .int .u8 a2, .int .u8 a3, .int .u8 a4, .int .u8 a5]) (by simp [Act.eval, Act.put]) hown1 W0.heap.size (some ⟨w.heap.size, 6, none⟩) 6 6 [.int .u8 b0, .int .u8 b1, .int .u8 b2, .int .u8 b3, .int .u8 b4, .int .u8 b5] (by simp [Act.eval, Act.put]) ?d1 ?d2 ?d3 ?d4 ?d5 ?_
       case d1 => exact (hrB.drew.alloc (Nat.le_refl _) _).grown hg1 (by simp) (by intro g hg; simp [Value.ownBlock] at hg; omega)
       case d2 => simp [Value.oneCell']
       case d3 => simp [maxLen]
       case d4 => omega
       case d5 => exact Nat.le_trans (by simp) hg1.size
       intro v2 w2 hown2 hg2 hat2
       have hex := hown2.form (by omega)
       obtain ⟨g2, cap2, hv2, hgb, hgl⟩ := hex
       rw [hv2] at hown2 hat2 ⊢
       clear hv2))
  have hcells : ∀ (j : Nat) u, [Value.int .u8 a0, .int .u8 a1, .int .u8 a2, .int .u8 a3, .int .u8 a4, .int .u8 a5, .int .u8 b0, .int .u8 b1, .int .u8 b2, .int .u8 b3, .int .u8 b4, .int .u8 b5][j]? = some u → w2.cell? ⟨g2, j, none⟩ = some u := fun j u hu => by
    have := hown2.cells (g := g2) rfl j u (by simpa using hu)
    simpa [Addr.add_lit] using this
  have hb2 : Below W0.heap.size W0 w2 := by
    have e1 : Below W0.heap.size W0 _ := ((Below.refl W0.heap.size W0).drew.alloc (Nat.le_refl _) (.cells #[] 5)).grown hg1 (by simp) (by intro g hg; simp [Value.ownBlock] at hg; omega)
    refine e1.grown hg2 e1.size (fun k hk => ?_)
    rcases hat1 with e | e
    · rw [e] at hk; simp [Value.ownBlock] at hk; omega
    · rw [e] at hk; simp at hk; omega
  have HBo := Lib.hid ((HB.out.below hb2 HB.out.lt))
  have HWo := Lib.hid (HW.out.trans (hb2.mono HW.out.size))
  have HC := Lib.hid hcells
  have HG := Lib.hid hgl
  clear hown2 hown1 hg1 hg2 hat1 hat2 hb2 hi0 hz0 hz1 hz2 hrA hrB hcells hgl hgb
  simp only [List.getElem_toArray, List.getElem_cons_succ, List.getElem_cons_zero, Act.put, List.setIfInBounds_toArray, List.set_cons_succ, List.set_cons_zero]
  go_wp2_with fail
  go_loopw [5, 41] (fun ov iv wr => ∃ k : Nat, k ≤ 12 ∧ iv = .int .i64 k ∧ ov = .string (strOfNums ([a0, a1, a2, a3, a4, a5, b0, b1, b2, b3, b4, b5].take k)) ∧ Below w2.heap.size w2 wr) (fun _ iv _ => 12 - (intOf iv).toNat)
  case atStart => exact ⟨0, by omega, rfl, rfl, Below.refl _ _⟩
  case round =>
    obtain ⟨k, hk, rfl, rfl, hbr⟩ := hrel
    have HR := Lib.hid hbr
    clear hbr
    by_cases hlt : k < 12
    · have hx : ∃ x, [a0, a1, a2, a3, a4, a5, b0, b1, b2, b3, b4, b5][k]? = some x := ⟨_, List.getElem?_eq_getElem (by simpa using hlt)⟩
      obtain ⟨x, hx⟩ := hx
      have hx01 := HL.out x (List.mem_of_getElem? hx)
      have hx0 := hx01.1
      have hx1 := hx01.2
      have hcr : wr.cell? ⟨g2, k, none⟩ = some (.int .u8 x) := (HR.out.cell (p := ⟨g2, k, none⟩) HG.out).trans (HC.out k _ (by
        have := congrArg (Option.map (Value.int .u8)) hx
        rw [← List.getElem?_map] at this
        exact this))
      have hxm : x % 256 = x := by omega
      have HT := Lib.hid (show [a0, a1, a2, a3, a4, a5, b0, b1, b2, b3, b4, b5].take (k + 1) = [a0, a1, a2, a3, a4, a5, b0, b1, b2, b3, b4, b5].take k ++ [x] by rw [List.take_add_one, hx]; rfl)
      have hlk : ([a0, a1, a2, a3, a4, a5, b0, b1, b2, b3, b4, b5].take k).length ≤ 12 := by rw [List.length_take]; exact Nat.le_trans (Nat.min_le_left _ _) (by omega)
      generalize [a0, a1, a2, a3, a4, a5, b0, b1, b2, b3, b4, b5].take k = pre at *
      clear hx hx01
      go_wp2_with fail
      refine (bytes_any _ 1 _ [x] _ rfl (by omega) (cellsAt_blk (cs := #[.int .i64 x]) (t := 3) (by simp only [heap_push, if_true]))).mono ?_
      rintro e w3 ⟨rfl, hb3⟩
      simp only [List.map_cons, List.map_nil, hxm]
      have HR3 := Lib.hid ((HR.out.alloc HR.out.size (.cells #[.int .i64 x] 3)).trans (hb3.mono (by rw [size_push]; have := HR.out.size; omega)))
      clear hb3 hcr hxm
      have hcat := strOfNums_app pre [x]
      go_wp2_with fail
      go_roundw
      case rel => exact ⟨k + 1, by omega, by go_num, by rw [HT.out], HR3.out⟩
      case measure => simp [intOf]; omega
    · have hk12 : k = 12 := by omega
      have HK := Lib.hid hk12
      clear hk12
      have HB4 := Lib.hid (HBo.out.below HR.out HBo.out.lt)
      have HW4 := Lib.hid (HWo.out.trans (HR.out.mono HWo.out.size))
      have hl1 := blk_regrown HB4.out 13 rfl
      have hl2 := blk_regrown HB4.out 14 rfl
      have HT := Lib.hid (show [a0, a1, a2, a3, a4, a5, b0, b1, b2, b3, b4, b5].take k = [a0, a1, a2, a3, a4, a5, b0, b1, b2, b3, b4, b5] by rw [HK.out]; rfl)
      have hlk : ([a0, a1, a2, a3, a4, a5, b0, b1, b2, b3, b4, b5].take k).length ≤ 12 := by rw [List.length_take]; exact Nat.le_trans (Nat.min_le_left _ _) (by omega)
      generalize [a0, a1, a2, a3, a4, a5, b0, b1, b2, b3, b4, b5].take k = pre at *
      go_wp2_with fail
      refine region_below (by kernel_rfl) (by kernel_rfl) ?_
      repeat (go_big_quiet_step ((go_at_call 36; exact below_call (fun W => word_any _ W h3 (by omega)))))
      refine wpQuiet_nil ?_
      intro W5 hb5
      have HW5 := Lib.hid (HW4.out.trans (hb5.mono HW4.out.size))
      clear hl1 hl2 hb5
      go_wp2
      go_ret2
      refine ⟨?_, HW5.out⟩
      rw [HF.out, HT.out]
      rfl
set_option maxRecDepth 100000 in
theorem frametext_err (a0 a1 a2 a3 a4 a5 b0 b1 b2 b3 b4 b5 vl ty : Int) (d : ByteArray) (w : World) (h : frameErr vl ty d ≠ 0) :
    Calls Try.prog 26 #[frameVal a0 a1 a2 a3 a4 a5 b0 b1 b2 b3 b4 b5 vl ty d] w fun e w' => e = .returned (frameRes a0 a1 a2 a3 a4 a5 b0 b1 b2 b3 b4 b5 vl ty d) ∧ Below w.heap.size w w' := by
  have HF := Lib.hid (show frameRes a0 a1 a2 a3 a4 a5 b0 b1 b2 b3 b4 b5 vl ty d = .tuple #[.string ⟨#[]⟩, .int .i64 (frameErr vl ty d)] from by unfold frameRes; rw [if_neg h])
  unfold frameVal
  by_cases h1 : vl < -1
  · have HE := Lib.hid (show frameErr vl ty d = 1 from by unfold frameErr; rw [if_pos (by omega)])
    clear h
    go_enter Try.func26, Try.ntmps26
    go_upto_region 1 with (fail)
    have hblk := Blk.new w 48 #[.int .u8 a0, .int .u8 a1, .int .u8 a2, .int .u8 a3, .int .u8 a4, .int .u8 a5, .int .u8 b0, .int .u8 b1, .int .u8 b2, .int .u8 b3, .int .u8 b4, .int .u8 b5, .int .i64 vl, .int .i64 ty, .string d]; have hbw : Below w.heap.size w (w.alloc (.cells #[.int .u8 a0, .int .u8 a1, .int .u8 a2, .int .u8 a3, .int .u8 a4, .int .u8 a5, .int .u8 b0, .int .u8 b1, .int .u8 b2, .int .u8 b3, .int .u8 b4, .int .u8 b5, .int .i64 vl, .int .i64 ty, .string d] 48)) := (Below.refl _ _).alloc (Nat.le_refl _) _; generalize w.alloc (.cells #[.int .u8 a0, .int .u8 a1, .int .u8 a2, .int .u8 a3, .int .u8 a4, .int .u8 a5, .int .u8 b0, .int .u8 b1, .int .u8 b2, .int .u8 b3, .int .u8 b4, .int .u8 b5, .int .i64 vl, .int .i64 ty, .string d] 48) = W at hblk hbw ⊢; have hc12 : W.cell? ⟨w.heap.size, 12, none⟩ = some (.int .i64 vl) := hblk.cell 12; have hc13 : W.cell? ⟨w.heap.size, 13, none⟩ = some (.int .i64 ty) := hblk.cell 13; have hc14 : W.cell? ⟨w.heap.size, 14, none⟩ = some (.string d) := hblk.cell 14
    have HB := Lib.hid hblk; have HW := Lib.hid hbw; clear hblk hbw
    go_wp2_with (go_at_call 11; first | (refine (between_yes _ _ _ _ (by omega) (by omega)).mono ?_; rintro e w' ⟨rfl, rfl⟩) | (refine (between_low _ _ _ _ (by omega)).mono ?_; rintro e w' ⟨rfl, rfl⟩) | (refine (between_high _ _ _ _ (by omega)).mono ?_; rintro e w' ⟨rfl, rfl⟩) | (refine (between_any _ _ _ _).mono ?_; rintro e w' ⟨rfl, rfl⟩))
    go_ret2
    exact ⟨by rw [HF.out, HE.out]; rfl, HW.out⟩
  by_cases h2 : 4095 < vl
  · have HE := Lib.hid (show frameErr vl ty d = 1 from by unfold frameErr; rw [if_pos (by omega)])
    clear h
    go_enter Try.func26, Try.ntmps26
    go_upto_region 1 with (fail)
    have hblk := Blk.new w 48 #[.int .u8 a0, .int .u8 a1, .int .u8 a2, .int .u8 a3, .int .u8 a4, .int .u8 a5, .int .u8 b0, .int .u8 b1, .int .u8 b2, .int .u8 b3, .int .u8 b4, .int .u8 b5, .int .i64 vl, .int .i64 ty, .string d]; have hbw : Below w.heap.size w (w.alloc (.cells #[.int .u8 a0, .int .u8 a1, .int .u8 a2, .int .u8 a3, .int .u8 a4, .int .u8 a5, .int .u8 b0, .int .u8 b1, .int .u8 b2, .int .u8 b3, .int .u8 b4, .int .u8 b5, .int .i64 vl, .int .i64 ty, .string d] 48)) := (Below.refl _ _).alloc (Nat.le_refl _) _; generalize w.alloc (.cells #[.int .u8 a0, .int .u8 a1, .int .u8 a2, .int .u8 a3, .int .u8 a4, .int .u8 a5, .int .u8 b0, .int .u8 b1, .int .u8 b2, .int .u8 b3, .int .u8 b4, .int .u8 b5, .int .i64 vl, .int .i64 ty, .string d] 48) = W at hblk hbw ⊢; have hc12 : W.cell? ⟨w.heap.size, 12, none⟩ = some (.int .i64 vl) := hblk.cell 12; have hc13 : W.cell? ⟨w.heap.size, 13, none⟩ = some (.int .i64 ty) := hblk.cell 13; have hc14 : W.cell? ⟨w.heap.size, 14, none⟩ = some (.string d) := hblk.cell 14
    have HB := Lib.hid hblk; have HW := Lib.hid hbw; clear hblk hbw
    go_wp2_with (go_at_call 11; first | (refine (between_yes _ _ _ _ (by omega) (by omega)).mono ?_; rintro e w' ⟨rfl, rfl⟩) | (refine (between_low _ _ _ _ (by omega)).mono ?_; rintro e w' ⟨rfl, rfl⟩) | (refine (between_high _ _ _ _ (by omega)).mono ?_; rintro e w' ⟨rfl, rfl⟩) | (refine (between_any _ _ _ _).mono ?_; rintro e w' ⟨rfl, rfl⟩))
    go_ret2
    exact ⟨by rw [HF.out, HE.out]; rfl, HW.out⟩
  by_cases h3 : ty < 0
  · have HE := Lib.hid (show frameErr vl ty d = 1 from by unfold frameErr; rw [if_pos (by omega)])
    clear h
    go_enter Try.func26, Try.ntmps26
    go_upto_region 1 with (fail)
    have hblk := Blk.new w 48 #[.int .u8 a0, .int .u8 a1, .int .u8 a2, .int .u8 a3, .int .u8 a4, .int .u8 a5, .int .u8 b0, .int .u8 b1, .int .u8 b2, .int .u8 b3, .int .u8 b4, .int .u8 b5, .int .i64 vl, .int .i64 ty, .string d]; have hbw : Below w.heap.size w (w.alloc (.cells #[.int .u8 a0, .int .u8 a1, .int .u8 a2, .int .u8 a3, .int .u8 a4, .int .u8 a5, .int .u8 b0, .int .u8 b1, .int .u8 b2, .int .u8 b3, .int .u8 b4, .int .u8 b5, .int .i64 vl, .int .i64 ty, .string d] 48)) := (Below.refl _ _).alloc (Nat.le_refl _) _; generalize w.alloc (.cells #[.int .u8 a0, .int .u8 a1, .int .u8 a2, .int .u8 a3, .int .u8 a4, .int .u8 a5, .int .u8 b0, .int .u8 b1, .int .u8 b2, .int .u8 b3, .int .u8 b4, .int .u8 b5, .int .i64 vl, .int .i64 ty, .string d] 48) = W at hblk hbw ⊢; have hc12 : W.cell? ⟨w.heap.size, 12, none⟩ = some (.int .i64 vl) := hblk.cell 12; have hc13 : W.cell? ⟨w.heap.size, 13, none⟩ = some (.int .i64 ty) := hblk.cell 13; have hc14 : W.cell? ⟨w.heap.size, 14, none⟩ = some (.string d) := hblk.cell 14
    have HB := Lib.hid hblk; have HW := Lib.hid hbw; clear hblk hbw
    go_wp2_with (go_at_call 11; first | (refine (between_yes _ _ _ _ (by omega) (by omega)).mono ?_; rintro e w' ⟨rfl, rfl⟩) | (refine (between_low _ _ _ _ (by omega)).mono ?_; rintro e w' ⟨rfl, rfl⟩) | (refine (between_high _ _ _ _ (by omega)).mono ?_; rintro e w' ⟨rfl, rfl⟩) | (refine (between_any _ _ _ _).mono ?_; rintro e w' ⟨rfl, rfl⟩))
    go_ret2
    exact ⟨by rw [HF.out, HE.out]; rfl, HW.out⟩
  by_cases h4 : 65535 < ty
  · have HE := Lib.hid (show frameErr vl ty d = 1 from by unfold frameErr; rw [if_pos (by omega)])
    clear h
    go_enter Try.func26, Try.ntmps26
    go_upto_region 1 with (fail)
    have hblk := Blk.new w 48 #[.int .u8 a0, .int .u8 a1, .int .u8 a2, .int .u8 a3, .int .u8 a4, .int .u8 a5, .int .u8 b0, .int .u8 b1, .int .u8 b2, .int .u8 b3, .int .u8 b4, .int .u8 b5, .int .i64 vl, .int .i64 ty, .string d]; have hbw : Below w.heap.size w (w.alloc (.cells #[.int .u8 a0, .int .u8 a1, .int .u8 a2, .int .u8 a3, .int .u8 a4, .int .u8 a5, .int .u8 b0, .int .u8 b1, .int .u8 b2, .int .u8 b3, .int .u8 b4, .int .u8 b5, .int .i64 vl, .int .i64 ty, .string d] 48)) := (Below.refl _ _).alloc (Nat.le_refl _) _; generalize w.alloc (.cells #[.int .u8 a0, .int .u8 a1, .int .u8 a2, .int .u8 a3, .int .u8 a4, .int .u8 a5, .int .u8 b0, .int .u8 b1, .int .u8 b2, .int .u8 b3, .int .u8 b4, .int .u8 b5, .int .i64 vl, .int .i64 ty, .string d] 48) = W at hblk hbw ⊢; have hc12 : W.cell? ⟨w.heap.size, 12, none⟩ = some (.int .i64 vl) := hblk.cell 12; have hc13 : W.cell? ⟨w.heap.size, 13, none⟩ = some (.int .i64 ty) := hblk.cell 13; have hc14 : W.cell? ⟨w.heap.size, 14, none⟩ = some (.string d) := hblk.cell 14
    have HB := Lib.hid hblk; have HW := Lib.hid hbw; clear hblk hbw
    go_wp2_with (go_at_call 11; first | (refine (between_yes _ _ _ _ (by omega) (by omega)).mono ?_; rintro e w' ⟨rfl, rfl⟩) | (refine (between_low _ _ _ _ (by omega)).mono ?_; rintro e w' ⟨rfl, rfl⟩) | (refine (between_high _ _ _ _ (by omega)).mono ?_; rintro e w' ⟨rfl, rfl⟩) | (refine (between_any _ _ _ _).mono ?_; rintro e w' ⟨rfl, rfl⟩))
    go_ret2
    exact ⟨by rw [HF.out, HE.out]; rfl, HW.out⟩
  by_cases h5 : vl = -1 ∧ ty = 33024
  · have HE := Lib.hid (show frameErr vl ty d = 4 from by unfold frameErr; rw [if_neg (by omega), if_pos h5])
    clear h
    have q1 : vl < 0 := by omega
    have q2 : (ty == 33024) = true := by rw [h5.2]; rfl
    clear h5
    go_enter Try.func26, Try.ntmps26
    go_upto_region 1 with (fail)
    have hblk := Blk.new w 48 #[.int .u8 a0, .int .u8 a1, .int .u8 a2, .int .u8 a3, .int .u8 a4, .int .u8 a5, .int .u8 b0, .int .u8 b1, .int .u8 b2, .int .u8 b3, .int .u8 b4, .int .u8 b5, .int .i64 vl, .int .i64 ty, .string d]; have hbw : Below w.heap.size w (w.alloc (.cells #[.int .u8 a0, .int .u8 a1, .int .u8 a2, .int .u8 a3, .int .u8 a4, .int .u8 a5, .int .u8 b0, .int .u8 b1, .int .u8 b2, .int .u8 b3, .int .u8 b4, .int .u8 b5, .int .i64 vl, .int .i64 ty, .string d] 48)) := (Below.refl _ _).alloc (Nat.le_refl _) _; generalize w.alloc (.cells #[.int .u8 a0, .int .u8 a1, .int .u8 a2, .int .u8 a3, .int .u8 a4, .int .u8 a5, .int .u8 b0, .int .u8 b1, .int .u8 b2, .int .u8 b3, .int .u8 b4, .int .u8 b5, .int .i64 vl, .int .i64 ty, .string d] 48) = W at hblk hbw ⊢; have hc12 : W.cell? ⟨w.heap.size, 12, none⟩ = some (.int .i64 vl) := hblk.cell 12; have hc13 : W.cell? ⟨w.heap.size, 13, none⟩ = some (.int .i64 ty) := hblk.cell 13; have hc14 : W.cell? ⟨w.heap.size, 14, none⟩ = some (.string d) := hblk.cell 14
    have HB := Lib.hid hblk; have HW := Lib.hid hbw; clear hblk hbw
    go_wp2_with (go_at_call 11; first | (refine (between_yes _ _ _ _ (by omega) (by omega)).mono ?_; rintro e w' ⟨rfl, rfl⟩) | (refine (between_low _ _ _ _ (by omega)).mono ?_; rintro e w' ⟨rfl, rfl⟩) | (refine (between_high _ _ _ _ (by omega)).mono ?_; rintro e w' ⟨rfl, rfl⟩) | (refine (between_any _ _ _ _).mono ?_; rintro e w' ⟨rfl, rfl⟩))
    go_ret2
    exact ⟨by rw [HF.out, HE.out]; rfl, HW.out⟩
  have h6 : 65535 < d.size := by
    rcases Nat.lt_or_ge 65535 d.size with h6 | h6
    · exact h6
    · exact absurd (show frameErr vl ty d = 0 from by unfold frameErr; rw [if_neg (by omega), if_neg h5, if_neg (by omega)]) h
  have HE := Lib.hid (show frameErr vl ty d = 2 from by unfold frameErr; rw [if_neg (by omega), if_neg h5, if_pos h6])
  clear h
  by_cases h7 : vl = -1
  · have q1 : vl < 0 := by omega
    have q2 : (ty == 33024) = false := by rw [beq_eq_false_iff_ne]; exact fun e => h5 ⟨h7, e⟩
    clear h5 h7
    go_enter Try.func26, Try.ntmps26
    go_upto_region 1 with (fail)
    have hblk := Blk.new w 48 #[.int .u8 a0, .int .u8 a1, .int .u8 a2, .int .u8 a3, .int .u8 a4, .int .u8 a5, .int .u8 b0, .int .u8 b1, .int .u8 b2, .int .u8 b3, .int .u8 b4, .int .u8 b5, .int .i64 vl, .int .i64 ty, .string d]; have hbw : Below w.heap.size w (w.alloc (.cells #[.int .u8 a0, .int .u8 a1, .int .u8 a2, .int .u8 a3, .int .u8 a4, .int .u8 a5, .int .u8 b0, .int .u8 b1, .int .u8 b2, .int .u8 b3, .int .u8 b4, .int .u8 b5, .int .i64 vl, .int .i64 ty, .string d] 48)) := (Below.refl _ _).alloc (Nat.le_refl _) _; generalize w.alloc (.cells #[.int .u8 a0, .int .u8 a1, .int .u8 a2, .int .u8 a3, .int .u8 a4, .int .u8 a5, .int .u8 b0, .int .u8 b1, .int .u8 b2, .int .u8 b3, .int .u8 b4, .int .u8 b5, .int .i64 vl, .int .i64 ty, .string d] 48) = W at hblk hbw ⊢; have hc12 : W.cell? ⟨w.heap.size, 12, none⟩ = some (.int .i64 vl) := hblk.cell 12; have hc13 : W.cell? ⟨w.heap.size, 13, none⟩ = some (.int .i64 ty) := hblk.cell 13; have hc14 : W.cell? ⟨w.heap.size, 14, none⟩ = some (.string d) := hblk.cell 14
    have HB := Lib.hid hblk; have HW := Lib.hid hbw; clear hblk hbw
    go_wp2_with (go_at_call 11; first | (refine (between_yes _ _ _ _ (by omega) (by omega)).mono ?_; rintro e w' ⟨rfl, rfl⟩) | (refine (between_low _ _ _ _ (by omega)).mono ?_; rintro e w' ⟨rfl, rfl⟩) | (refine (between_high _ _ _ _ (by omega)).mono ?_; rintro e w' ⟨rfl, rfl⟩) | (refine (between_any _ _ _ _).mono ?_; rintro e w' ⟨rfl, rfl⟩))
    go_ret2
    exact ⟨by rw [HF.out, HE.out]; rfl, HW.out⟩
  · clear h5
    have h8 : 0 ≤ vl := by omega
    have hsz := strOfNums_size
    go_enter Try.func26, Try.ntmps26
    go_upto_region 1 with (fail)
    have hblk := Blk.new w 48 #[.int .u8 a0, .int .u8 a1, .int .u8 a2, .int .u8 a3, .int .u8 a4, .int .u8 a5, .int .u8 b0, .int .u8 b1, .int .u8 b2, .int .u8 b3, .int .u8 b4, .int .u8 b5, .int .i64 vl, .int .i64 ty, .string d]; have hbw : Below w.heap.size w (w.alloc (.cells #[.int .u8 a0, .int .u8 a1, .int .u8 a2, .int .u8 a3, .int .u8 a4, .int .u8 a5, .int .u8 b0, .int .u8 b1, .int .u8 b2, .int .u8 b3, .int .u8 b4, .int .u8 b5, .int .i64 vl, .int .i64 ty, .string d] 48)) := (Below.refl _ _).alloc (Nat.le_refl _) _; generalize w.alloc (.cells #[.int .u8 a0, .int .u8 a1, .int .u8 a2, .int .u8 a3, .int .u8 a4, .int .u8 a5, .int .u8 b0, .int .u8 b1, .int .u8 b2, .int .u8 b3, .int .u8 b4, .int .u8 b5, .int .i64 vl, .int .i64 ty, .string d] 48) = W at hblk hbw ⊢; have hc12 : W.cell? ⟨w.heap.size, 12, none⟩ = some (.int .i64 vl) := hblk.cell 12; have hc13 : W.cell? ⟨w.heap.size, 13, none⟩ = some (.int .i64 ty) := hblk.cell 13; have hc14 : W.cell? ⟨w.heap.size, 14, none⟩ = some (.string d) := hblk.cell 14
    have HB := Lib.hid hblk; have HW := Lib.hid hbw; clear hblk hbw
    go_wp2_with (go_at_call 11; first | (refine (between_yes _ _ _ _ (by omega) (by omega)).mono ?_; rintro e w' ⟨rfl, rfl⟩) | (refine (between_low _ _ _ _ (by omega)).mono ?_; rintro e w' ⟨rfl, rfl⟩) | (refine (between_high _ _ _ _ (by omega)).mono ?_; rintro e w' ⟨rfl, rfl⟩) | (refine (between_any _ _ _ _).mono ?_; rintro e w' ⟨rfl, rfl⟩))
    have hl1 := blk_regrown HB.out 12 rfl
    refine region_below (by kernel_rfl) (by kernel_rfl) ?_
    repeat (go_big_quiet_step ((go_at_call 36; exact below_call (fun W => word_any _ W (by omega) (by omega)))))
    refine wpQuiet_nil ?_
    intro W0 hb0
    have hblk := HB.out.below hb0 HB.out.lt
    have hbw := HW.out.trans (hb0.mono HW.out.size)
    have hc14 : W0.cell? ⟨w.heap.size, 14, none⟩ = some (.string d) := hblk.cell 14
    clear HB HW hl1 hb0 hc12 hc13
    have HB := Lib.hid hblk; have HW := Lib.hid hbw; clear hblk hbw
    go_wp2_with fail
    go_ret2
    exact ⟨by rw [HF.out, HE.out]; rfl, HW.out⟩

theorem frametext_any (a0 a1 a2 a3 a4 a5 b0 b1 b2 b3 b4 b5 vl ty : Int) (d : ByteArray) (w : World) (hl : ∀ x ∈ [a0, a1, a2, a3, a4, a5, b0, b1, b2, b3, b4, b5], 0 ≤ x ∧ x ≤ 255) :
    Calls Try.prog 26 #[frameVal a0 a1 a2 a3 a4 a5 b0 b1 b2 b3 b4 b5 vl ty d] w fun e w' => e = .returned (frameRes a0 a1 a2 a3 a4 a5 b0 b1 b2 b3 b4 b5 vl ty d) ∧ Below w.heap.size w w' := by
  by_cases h : frameErr vl ty d = 0
  · have HR : frameRes a0 a1 a2 a3 a4 a5 b0 b1 b2 b3 b4 b5 vl ty d = .tuple #[.string (frameText a0 a1 a2 a3 a4 a5 b0 b1 b2 b3 b4 b5 vl ty d), .int .i64 0] := by unfold frameRes; rw [if_pos h, h]
    rw [HR]
    unfold frameErr at h
    split at h
    · omega
    split at h
    · omega
    split at h
    · omega
    by_cases h1 : vl = -1
    · exact frametext_bare a0 a1 a2 a3 a4 a5 b0 b1 b2 b3 b4 b5 vl ty d w hl h1 (by omega) (by omega) (by omega) (by omega)
    · exact frametext_tag a0 a1 a2 a3 a4 a5 b0 b1 b2 b3 b4 b5 vl ty d w hl (by omega) (by omega) (by omega) (by omega) (by omega)
  · exact frametext_err a0 a1 a2 a3 a4 a5 b0 b1 b2 b3 b4 b5 vl ty d w h
end Go.Proofs.Ytolbnadafelkhaa
