/-
  The walks of the reference's Bytes and Word: numbers as a text of bytes.
-/
import Derived.Test.YtolbnadafelkhaaSumP
import Derived.Test.YtolbnadafelkhaaBase
import Derived.Test.YtolbnadafelkhaaMem
import Derived.Test.YtolbnadafelkhaaProg
import Derived.WalkLawsBesides
import Derived.WalkSpells
import Derived.Outline
import Derived.Lib.QuietBelow
import Derived.BigRegion
import Derived.Deep.DeepCutAuto
import Derived.Deep.CutBlock
import Derived.IntWalk
namespace Go.Proofs.Ytolbnadafelkhaa
open Go.ChangeShapes Go.WideShapes Go.ChangeAt Go.RowKit
set_option linter.unusedVariables false
set_option linter.unusedSimpArgs false

/-- The bytes' cells after k of n rounds. -/
def bcells (xs : List Int) (n k : Nat) : Array Value := (((xs.take k).map fun x => Value.int .u8 (x % 256)) ++ List.replicate (n - k) (Value.int .u8 0)).toArray
theorem bcells_size {xs : List Int} {n k : Nat} (hn : xs.length = n) (hk : k ≤ n) : (bcells xs n k).size = n := by
  simp [bcells]; omega
theorem bcells_step {xs : List Int} {n k : Nat} {x : Int} (hn : xs.length = n) (hx : xs[k]? = some x) : (bcells xs n k).setIfInBounds k (.int .u8 (x % 256)) = bcells xs n (k + 1) := by
  have hk : k < n := by have := (List.getElem?_eq_some_iff.1 hx).1; omega
  apply Array.ext_getElem?
  intro i
  unfold bcells
  rw [Array.getElem?_setIfInBounds]
  simp only [List.getElem?_toArray, List.size_toArray, List.length_append, List.length_map, List.length_take, List.length_replicate]
  by_cases hi : k = i
  · subst hi
    rw [if_pos rfl, if_pos (by omega), List.getElem?_append_left (by simp; omega), List.getElem?_map, List.getElem?_take_of_lt (by omega), hx]
    rfl
  · rw [if_neg hi]
    rcases Nat.lt_or_ge i k with h | h
    · rw [List.getElem?_append_left (by simp; omega), List.getElem?_append_left (by simp; omega), List.getElem?_map, List.getElem?_map, List.getElem?_take_of_lt (by omega), List.getElem?_take_of_lt (by omega)]
    · rw [List.getElem?_append_right (by simp; omega), List.getElem?_append_right (by simp; omega)]
      simp only [List.length_map, List.length_take, List.getElem?_replicate]
      by_cases h2 : i < n
      · rw [if_pos (by omega), if_pos (by omega)]
      · rw [if_neg (by omega), if_neg (by omega)]
theorem bcells_start (xs : List Int) (n : Nat) : bcells xs n 0 = (List.replicate n (Value.int .u8 0)).toArray := by simp [bcells]
theorem bcells_end (xs : List Int) (n : Nat) (h : xs.length = n) : bcells xs n n = ((xs.map fun x => x % 256).map (Value.int .u8)).toArray := by
  simp [bcells, ← h, List.take_length]

theorem strOfNums_app (xs ys : List Int) : strOfNums xs ++ strOfNums ys = strOfNums (xs ++ ys) := by
  apply bytes_inj
  rw [app_data, strOfNums_data, strOfNums_data, strOfNums_data, List.map_append]
theorem made_one (v : Value) (n : Nat) : madeCells #[v] n = Array.replicate n v := by
  apply Array.ext_getElem?
  intro i
  simp [madeCells, Array.getElem?_replicate, Nat.mod_one]
  split <;> simp_all
theorem cells_block_lt {w : World} {ad : Addr} {i : Nat} {v : Value} (h : w.cell? (ad.add i) = some v) : ad.block < w.heap.size := by
  have := World.block_lt_of_cell? _ _ h
  rwa [block_of_add] at this

theorem byte_info : (Try.prog.info? 5).map (fun i => (i.zero, i.size, i.bytes)) = some (some (.int .u8 0), 1, 1) := by kernel_rfl

theorem bytes_any (A : Option Addr) (n c : Nat) (xs : List Int) (w : World) (hn : xs.length = n) (h63 : n ≤ 100) (hx : CellsAt w A (xs.map (Value.int .i64))) :
    Calls Try.prog 37 #[.slice A n c] w fun e w' => e = .returned (.string (strOfNums (xs.map fun x => x % 256))) ∧ Below w.heap.size w w' := by
  obtain ⟨i0, hi0, hz0, hz1, hz2⟩ := info_parts byte_info
  have hmk : ∀ W : World, (Instr.makeSlice 67 (.int .i64 (n : Int)) (.int .i64 (n : Int))).run Try.prog W = .ok (.slice (some ⟨W.heap.size, 0, none⟩) n n) (W.alloc (.cells (bcells xs n 0) 5)) := fun W => by
    have := run_make_rowN (P := Try.prog) 67 5 i0 _ Try.underlying67 hi0 hz0 .i64 .i64 n n (Nat.le_refl _) (by rw [hz2]; omega) (by omega) W
    rw [this, bcells_start, hz1, show (Value.int .u8 0).cells = #[.int .u8 0] from rfl, Nat.mul_one, made_one]
    simp
  have HN := Lib.hid hn
  have HX := Lib.hid hx
  clear hn hx hi0 hz0 hz1 hz2
  go_enter Try.func37, Try.ntmps37
  go_wp2
  go_loopw [11] (fun iv wr => ∃ k : Nat, iv = .int .i64 k ∧ k ≤ n ∧ Below w.heap.size w wr ∧ Blk wr w.heap.size 5 (bcells xs n k)) (fun iv _ => n - (intOf iv).toNat)
  case atStart => exact ⟨0, rfl, by omega, (Below.refl _ _).alloc (Nat.le_refl _) _, Blk.new _ _ _⟩
  case round =>
    obtain ⟨k, rfl, hk, hbw, hblk⟩ := hrel
    by_cases hlt : k < n
    · have h1 : xs[k]? = some (xs[k]'(by rw [HN.out]; exact hlt)) := List.getElem?_eq_getElem _
      generalize xs[k]'(by rw [HN.out]; exact hlt) = x at h1
      obtain ⟨ad, rfl, hc⟩ := HX.out k (.int .i64 x) (by rw [List.getElem?_map, h1]; rfl)
      have hcr : wr.cell? (ad.add k) = some (.int .i64 x) := (hbw.cell (by rw [block_of_add]; exact cells_block_lt hc)).trans hc
      have hbk : (k : Nat) < (bcells xs n k).size := by rw [bcells_size HN.out hk]; exact hlt
      have hst : wr.cell? ⟨w.heap.size, k, none⟩ = some ((bcells xs n k)[k]'hbk) := (hblk.cell k).trans (Array.getElem?_eq_getElem hbk)
      generalize (bcells xs n k)[k]'hbk = old at hst
      have hfz : wr.frozen? ⟨w.heap.size, k, none⟩ = false := hblk.frozen k
      have HB := Lib.hid (hblk.set_ k (.int .u8 (x % 256)))
      have HB2 := Lib.hid hbw
      have HS := Lib.hid (bcells_step HN.out h1)
      clear hblk hbw h1 hbk hc
      go_wp2
      go_roundw
      case rel => exact ⟨k + 1, by go_num, by omega, HB2.out.setCell (Nat.le_refl _) _, by rw [← HS.out]; exact HB.out⟩
      case measure => simp [intOf]; omega
    · have hkn : k = n := by omega
      subst hkn
      have hcv : (convert 67 9 (.slice (some ⟨w.heap.size, 0, none⟩) k k)).run Try.prog wr = .ok (.string (strOfNums (xs.map fun x => x % 256))) wr :=
        conv_blk (t := 5) Try.underlying67 Try.underlying5 Try.underlying9 (by rw [List.length_map]; exact HN.out) (by rw [← bcells_end xs k HN.out]; exact hblk)
      have HB2 := Lib.hid hbw
      clear hblk hbw
      go_wp2
      go_ret
      exact ⟨rfl, HB2.out⟩

theorem word_any (n : Int) (w : World) (h0 : 0 ≤ n) (h1 : n ≤ 9223372036854775807) :
    Calls Try.prog 36 #[.int .i64 n] w fun e w' => e = .returned (.string (strOfNums [n / 256 % 256, n % 256])) ∧ Below w.heap.size w w' := by
  go_enter Try.func36, Try.ntmps36
  go_wp2_with fail
  refine (bytes_any _ 2 _ [n / 256, n % 256] _ rfl (by omega) (cellsAt_blk (cs := #[.int .i64 (n / 256), .int .i64 (n % 256)]) (t := 3) (by simp only [heap_push, if_true]))).mono ?_
  rintro e w1 ⟨rfl, hb⟩
  have HB := Lib.hid hb
  clear hb
  go_wp2
  go_ret
  refine ⟨by simp, ?_⟩
  exact ((Below.refl _ _).alloc (Nat.le_refl _) _).trans (HB.out.mono (by simp only [size_push]; omega))
end Go.Proofs.Ytolbnadafelkhaa
