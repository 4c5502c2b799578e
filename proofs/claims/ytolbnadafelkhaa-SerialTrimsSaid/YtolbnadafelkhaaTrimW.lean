/-
  The walks of serial.Trim and of the reference's Trimmed: both come to the state that is told byte by byte.
-/
import Derived.Test.YtolbnadafelkhaaSerialW
import Derived.Test.YtolbnadafelkhaaTrimP
import Derived.Test.YtolbnadafelkhaaSumP
import Derived.WalkLawsBesides
import Derived.WalkSpells
import Derived.Outline
import Derived.Lib.Strings
import Derived.Deep.QuietTactic
import Derived.BigQuiet
import Derived.Deep.LoopGhost
namespace Go.Proofs.Ytolbnadafelkhaa
open Go.RowKit
set_option linter.unusedVariables false
set_option linter.unusedSimpArgs false

theorem plus_any (a b : Int) (w : World) (ha : 0 ≤ a ∧ a ≤ 4294967295) (hb : 0 ≤ b ∧ b ≤ 4294967295) :
    Calls Try.prog 32 #[.int .u32 a, .int .u32 b] w fun e w' => e = .returned (.int .u32 ((a + b) % 4294967296)) ∧ w = w' := by
  go_enter Try.func32, Try.ntmps32
  go_wp2
  go_ret
  exact ⟨rfl, rfl⟩

theorem str_of {b : ByteArray} {l : List UInt8} (h : b.data.toList = l) : b = ⟨l.toArray⟩ := by
  subst h
  rfl

theorem trim_any (a : Int) (s : ByteArray) (fr sz : Int) (w : World) (ha : 0 ≤ a ∧ a ≤ 4294967295) (hs : s.size ≤ 5000) (hf : 0 ≤ fr ∧ fr ≤ 4294967295) (hz : 0 ≤ sz ∧ sz ≤ 4294967295) :
    Calls Try.prog 16 #[.int .u32 a, .string s, .int .u32 fr, .int .u32 sz] w fun e w' =>
      e = .returned (.tuple #[.int .u32 (tst a fr sz s.data.toList s.size).fst, .string ⟨(tst a fr sz s.data.toList s.size).best.toArray⟩]) ∧ ∃ k, w' = w.drewN k := by
  go_enter Try.func16, Try.ntmps16
  go_wp2
  go_loopw [10, 11, 12] (fun bv fv iv wr => ∃ (b : ByteArray) (f : Int) (i k : Nat), bv = .string b ∧ fv = .int .u32 f ∧ iv = .int .i64 i ∧ i ≤ s.size ∧ b.size ≤ s.size ∧ 0 ≤ f ∧ f ≤ 4294967295 ∧ Hid (AtHead a fr sz s.data.toList i b.data.toList f) ∧ wr = w.drewN k) (fun _ _ iv _ => s.size - (intOf iv).toNat)
  case atStart => exact ⟨⟨#[]⟩, fr, 0, 0, rfl, rfl, rfl, by omega, Nat.zero_le _, hf.1, hf.2, head_start _ _ _ _, rfl⟩
  case round =>
    obtain ⟨b, f, i, k, rfl, rfl, rfl, hi, hb, hf0, hf1, HA, rfl⟩ := hrel
    by_cases hlt : i < s.size
    · by_cases ho : sz ≤ (a + (i : Int) - fr) % 4294967296
      · by_cases hk : ((s.size : Int) - (i : Int)) ≤ 4294967296 - (a + (i : Int) - fr) % 4294967296
        · have HB := Lib.hid (head_break HA.out (by exact hi) hz.1 ho (by show ((s.size - i : Nat) : Int) ≤ 4294967296 - (a + (i : Int) - fr) % 4294967296; omega))
          go_wp2
          go_ret2
          exact ⟨by rw [show (s.size : Nat) = s.data.toList.length from rfl, HB.out.1, HB.out.2]; rfl, _, rfl⟩
        · obtain ⟨kk, hkk⟩ := Int.eq_ofNat_of_zero_le (show 0 ≤ 4294967296 - (a + (i : Int) - fr) % 4294967296 by omega)
          have HS := Lib.hid (head_skip HA.out ho kk hkk.symm)
          have HK := Lib.hid hkk
          have hk1 : (kk : Int) < (s.size : Int) - (i : Int) := by omega
          have hk2 : 0 < kk := by omega
          clear hkk
          go_wp2
          go_roundw
          case rel => exact ⟨b, f, i + kk, k, rfl, rfl, congrArg (Value.int .i64) (by have := HK.out; omega), by omega, hb, hf0, hf1, HS.out, rfl⟩
          case measure => simp [intOf]; have := HK.out; omega
      · obtain ⟨n, hn⟩ := Int.eq_ofNat_of_zero_le (show 0 ≤ min (sz - (a + (i : Int) - fr) % 4294967296) ((s.size - i : Nat) : Int) by omega)
        have HR := Lib.hid (head_run HA.out hlt (by omega) (by show (a + (i : Int) - fr) % 4294967296 < sz; omega) n hn.symm)
        have HN := Lib.hid hn
        have hn1 : (n : Int) ≤ (s.size : Int) - (i : Int) := by omega
        have hn2 : 0 < n := by omega
        clear hn
        by_cases hq : (s.size : Int) - (i : Int) < sz - (a + (i : Int) - fr) % 4294967296
        · by_cases hw : (b.size : Int) < (s.size : Int) - (i : Int)
          · go_wp2
            go_roundw
            case rel => exact ⟨_, _, i + n, k, rfl, rfl, congrArg (Value.int .i64) (by have := HN.out; omega), by omega, by (have := HN.out; rw [ByteArray.size_extract]; omega), by omega, by omega, (by
              have h := HR.out
              have hh := HN.out
              have hc : b.data.toList.length < n := by show b.size < n; omega
              rw [if_pos hc, if_pos hc] at h
              show AtHead _ _ _ _ _ (s.extract i _).data.toList _
              rw [Lib.extract_data]
              exact head_take h (by omega)), rfl⟩
            case measure => simp [intOf]; have := HN.out; omega
          · go_wp2
            go_roundw
            case rel => exact ⟨b, f, i + n, k, rfl, rfl, congrArg (Value.int .i64) (by have := HN.out; omega), by omega, hb, hf0, hf1, (by
              have h := HR.out
              have hh := HN.out
              have hc : ¬ b.data.toList.length < n := by show ¬ b.size < n; omega
              rw [if_neg hc, if_neg hc] at h
              exact h), rfl⟩
            case measure => simp [intOf]; have := HN.out; omega
        · by_cases hw : (b.size : Int) < sz - (a + (i : Int) - fr) % 4294967296
          · go_wp2
            go_roundw
            case rel => exact ⟨_, _, i + n, k, rfl, rfl, congrArg (Value.int .i64) (by have := HN.out; omega), by omega, by (have := HN.out; rw [ByteArray.size_extract]; omega), by omega, by omega, (by
              have h := HR.out
              have hh := HN.out
              have hc : b.data.toList.length < n := by show b.size < n; omega
              rw [if_pos hc, if_pos hc] at h
              show AtHead _ _ _ _ _ (s.extract i _).data.toList _
              rw [Lib.extract_data]
              exact head_take h (by omega)), rfl⟩
            case measure => simp [intOf]; have := HN.out; omega
          · go_wp2
            go_roundw
            case rel => exact ⟨b, f, i + n, k, rfl, rfl, congrArg (Value.int .i64) (by have := HN.out; omega), by omega, hb, hf0, hf1, (by
              have h := HR.out
              have hh := HN.out
              have hc : ¬ b.data.toList.length < n := by show ¬ b.size < n; omega
              rw [if_neg hc, if_neg hc] at h
              exact h), rfl⟩
            case measure => simp [intOf]; have := HN.out; omega
    · go_wp2
      go_ret2
      obtain rfl : i = s.size := by omega
      exact ⟨by rw [HA.out.1, HA.out.2.1]; rfl, _, rfl⟩

theorem trimmed_any (a : Int) (s : ByteArray) (fr sz : Int) (w : World) (ha : 0 ≤ a ∧ a ≤ 4294967295) (hs : s.size ≤ 5000) (hf : 0 ≤ fr ∧ fr ≤ 4294967295) (hz : 0 ≤ sz ∧ sz ≤ 4294967295) :
    Calls Try.prog 17 #[.int .u32 a, .string s, .int .u32 fr, .int .u32 sz] w fun e w' =>
      e = .returned (.tuple #[.int .u32 (tst a fr sz s.data.toList s.size).fst, .string ⟨(tst a fr sz s.data.toList s.size).best.toArray⟩]) ∧ ∃ k, w' = w.drewN k := by
  go_enter Try.func17, Try.ntmps17
  go_wp2
  go_loopw [10, 11, 12, 13, 20] (fun bv fv rv gv iv wr => ∃ (b r : ByteArray) (f g : Int) (i k : Nat), bv = .string b ∧ fv = .int .u32 f ∧ rv = .string r ∧ gv = .int .u32 g ∧ iv = .int .i64 i ∧ i ≤ s.size ∧ b.size ≤ i ∧ r.size ≤ i ∧ Hid (tst a fr sz s.data.toList i = ⟨r.data.toList, b.data.toList, g, f⟩) ∧ wr = w.drewN k) (fun _ _ _ _ iv _ => s.size - (intOf iv).toNat)
  case atStart => exact ⟨⟨#[]⟩, ⟨#[]⟩, fr, fr, 0, 0, rfl, rfl, rfl, rfl, rfl, by omega, Nat.zero_le _, Nat.zero_le _, rfl, rfl⟩
  case round =>
    obtain ⟨b, r, f, g, i, k, rfl, rfl, rfl, rfl, rfl, hi, hb, hr, HT, rfl⟩ := hrel
    by_cases hlt : i < s.size
    · have hp1 : 0 ≤ (a + (i : Int)) % 4294967296 ∧ (a + (i : Int)) % 4294967296 ≤ 4294967295 := by omega
      have hoff : ((a + (i : Int)) % 4294967296 - fr) % 4294967296 = offI a fr i := by unfold offI; omega
      have hx : ((s.data.toList.drop i).take 1).length = 1 := by rw [List.length_take, List.length_drop]; show min 1 (s.size - i) = 1; omega
      by_cases ho : offI a fr i < sz
      · have HT2 := Lib.hid (tst_in (l := s.data.toList) ho)
        by_cases he : r.size = 0
        · have hem : r.toList.isEmpty = true := empty_of r he
          have HE : Hid (r.data.toList = []) := List.eq_nil_of_length_eq_zero he
          have hr0 : r.size ≤ 0 := by omega
          clear he
          by_cases hw : b.size < r.size + 1
          · skip
            go_wp2_with (first | (go_at_call 32; refine (plus_any _ _ _ (by omega) (by omega)).mono ?_; rintro e w' ⟨rfl, rfl⟩) | (go_at_call 9; refine (inside_any _ _ _ _ (by omega) (by omega) (by omega)).mono ?_; rintro e w' ⟨rfl, rfl⟩))
            go_roundw
            case rel => exact ⟨_, _, _, _, i + 1, k, rfl, rfl, rfl, rfl, by go_num, by omega, by rw [ByteArray.size_append, ByteArray.size_extract]; omega, by rw [ByteArray.size_append, ByteArray.size_extract]; omega, (by
              have h := HT2.out
              have hE := HE.out
              rw [HT.out] at h
              simp only [List.length_append, hx] at h
              rw [if_pos (show b.data.toList.length < r.data.toList.length + 1 from hw)] at h
              simp only [if_pos hE] at h
              refine h.trans ?_
              rw [app_data, Lib.extract_data, Nat.add_sub_cancel_left]), rfl⟩
            case measure => simp [intOf]; omega
          · skip
            go_wp2_with (first | (go_at_call 32; refine (plus_any _ _ _ (by omega) (by omega)).mono ?_; rintro e w' ⟨rfl, rfl⟩) | (go_at_call 9; refine (inside_any _ _ _ _ (by omega) (by omega) (by omega)).mono ?_; rintro e w' ⟨rfl, rfl⟩))
            go_roundw
            case rel => exact ⟨_, _, _, _, i + 1, k, rfl, rfl, rfl, rfl, by go_num, by omega, by omega, by rw [ByteArray.size_append, ByteArray.size_extract]; omega, (by
              have h := HT2.out
              have hE := HE.out
              rw [HT.out] at h
              simp only [List.length_append, hx] at h
              rw [if_neg (show ¬ b.data.toList.length < r.data.toList.length + 1 from hw)] at h
              simp only [if_pos hE] at h
              refine h.trans ?_
              rw [app_data, Lib.extract_data, Nat.add_sub_cancel_left]), rfl⟩
            case measure => simp [intOf]; omega
        · have hem : r.toList.isEmpty = false := nonempty_of r (by omega)
          have HE : Hid (¬ r.data.toList = []) := fun h => he (by show r.data.toList.length = 0; rw [h]; rfl)
          clear he
          by_cases hw : b.size < r.size + 1
          · skip
            go_wp2_with (first | (go_at_call 32; refine (plus_any _ _ _ (by omega) (by omega)).mono ?_; rintro e w' ⟨rfl, rfl⟩) | (go_at_call 9; refine (inside_any _ _ _ _ (by omega) (by omega) (by omega)).mono ?_; rintro e w' ⟨rfl, rfl⟩))
            go_roundw
            case rel => exact ⟨_, _, _, _, i + 1, k, rfl, rfl, rfl, rfl, by go_num, by omega, by rw [ByteArray.size_append, ByteArray.size_extract]; omega, by rw [ByteArray.size_append, ByteArray.size_extract]; omega, (by
              have h := HT2.out
              have hE := HE.out
              rw [HT.out] at h
              simp only [List.length_append, hx] at h
              rw [if_pos (show b.data.toList.length < r.data.toList.length + 1 from hw)] at h
              simp only [if_neg hE] at h
              refine h.trans ?_
              rw [app_data, Lib.extract_data, Nat.add_sub_cancel_left]), rfl⟩
            case measure => simp [intOf]; omega
          · skip
            go_wp2_with (first | (go_at_call 32; refine (plus_any _ _ _ (by omega) (by omega)).mono ?_; rintro e w' ⟨rfl, rfl⟩) | (go_at_call 9; refine (inside_any _ _ _ _ (by omega) (by omega) (by omega)).mono ?_; rintro e w' ⟨rfl, rfl⟩))
            go_roundw
            case rel => exact ⟨_, _, _, _, i + 1, k, rfl, rfl, rfl, rfl, by go_num, by omega, by omega, by rw [ByteArray.size_append, ByteArray.size_extract]; omega, (by
              have h := HT2.out
              have hE := HE.out
              rw [HT.out] at h
              simp only [List.length_append, hx] at h
              rw [if_neg (show ¬ b.data.toList.length < r.data.toList.length + 1 from hw)] at h
              simp only [if_neg hE] at h
              refine h.trans ?_
              rw [app_data, Lib.extract_data, Nat.add_sub_cancel_left]), rfl⟩
            case measure => simp [intOf]; omega
      · have HT2 := Lib.hid (tst_out (l := s.data.toList) ho)
        have hd : decide (offI a fr i < sz) = false := by simpa using ho
        go_wp2_with (first | (go_at_call 32; refine (plus_any _ _ _ (by omega) (by omega)).mono ?_; rintro e w' ⟨rfl, rfl⟩) | (go_at_call 9; refine (inside_any _ _ _ _ (by omega) (by omega) (by omega)).mono ?_; rintro e w' ⟨rfl, rfl⟩))
        go_roundw
        case rel => exact ⟨_, _, _, _, i + 1, k, rfl, rfl, rfl, rfl, by go_num, by omega, by omega, Nat.zero_le _, (by rw [HT2.out, HT.out]; rfl), rfl⟩
        case measure => simp [intOf]; omega
    · go_wp2
      go_ret2
      obtain rfl : i = s.size := by omega
      exact ⟨by rw [HT.out]; rfl, _, rfl⟩
end Go.Proofs.Ytolbnadafelkhaa
