/-
  The walks of package sum and of the reference's sums.
-/
import Derived.Test.YtolbnadafelkhaaProg
import Derived.Test.YtolbnadafelkhaaSumP
import Derived.WalkKit
import Derived.WalkLawsBesides
import Derived.WalkSpells
import Derived.Outline
import Derived.Lib.Hide
import Derived.Deep.QuietTactic
import Derived.BigQuiet
namespace Go.Proofs.Ytolbnadafelkhaa
open Go.RowKit
set_option linter.unusedVariables false
set_option linter.unusedSimpArgs false

theorem fold_any (n : Int) (w : World) (h0 : 0 ≤ n) (h1 : n ≤ 18446744073709551615) :
    Calls Try.prog 33 #[.int .u64 n] w fun e w' => e = .returned (.int .u16 (foldI n)) ∧ w = w' := by
  go_enter Try.func33, Try.ntmps33
  go_wp2
  go_loop [0] (fun v => ∃ m : Int, 0 ≤ m ∧ m ≤ 18446744073709551615 ∧ v = .int .u64 m ∧ Hid (foldI m = foldI n)) (fun v => (intOf v).toNat)
  case atStart => exact ⟨n, h0, h1, rfl, rfl⟩
  case round =>
    obtain ⟨m, hm0, hm1, rfl, HF⟩ := hrel
    by_cases hlt : 65535 < m
    · have hb := and65535 m hm0 hm1
      go_wp2
      go_round
      case rel => exact ⟨_, by omega, by omega, rfl, (foldI_step m hlt).trans HF.out⟩
      case measure => simp [intOf]; omega
    · go_wp2
      go_ret
      exact ⟨by rw [← HF.out, foldI_small m hm0 (by omega)]; rfl, rfl⟩
theorem add_any (n : Int) (s : ByteArray) (w : World) (h0 : 0 ≤ n) (h1 : n ≤ 65535) (hs : s.size ≤ 140737488351232) :
    Calls Try.prog 19 #[.int .u16 n, .string s] w fun e w' => e = .returned (.int .u16 (foldI (n + wsum s.data.toList))) ∧ ∃ k, w' = w.drewN k := by
  have hw0 := wsum_bd s.data.toList
  have hsz : s.data.toList.length = s.size := rfl
  rw [hsz] at hw0
  clear hsz
  go_enter Try.func19, Try.ntmps19
  go_wp2
  go_loopw [1, 5] (fun sv nv wr => ∃ (t : ByteArray) (m : Int) (k : Nat), 0 ≤ m ∧ m ≤ 9223372036854775807 ∧ 0 ≤ wsum t.data.toList ∧ Hid (m + wsum t.data.toList = n + wsum s.data.toList) ∧ t.size ≤ s.size ∧ sv = .string t ∧ nv = .int .u64 m ∧ wr = w.drewN k) (fun sv _ _ => match sv with | .string t => t.size | _ => 0)
  case atStart => exact ⟨s, n, 0, by omega, by omega, by omega, rfl, by omega, rfl, rfl, rfl⟩
  case round =>
    obtain ⟨t, m, k, hm0, hm1, hw1, HE, ht, rfl, rfl, rfl⟩ := hrel
    by_cases hlt : 1 < t.size
    · have hl0 : 0 < t.size := by omega
      have hl1 : (1 : Int) < (t.size : Int) := by omega
      have hw2 := wsum_two t.data.toList hlt
      have HW : Hid (wsum t.data.toList = 256 * (t[0].toNat : Int) + (t[1].toNat : Int) + wsum (t.data.toList.drop 2)) := hw2
      clear hw2
      have hb0 : t[0].toNat < 256 := t[0].toNat_lt
      have hb1 : t[1].toNat < 256 := t[1].toNat_lt
      have hor := word_u64 t[0] t[1]
      have hd := (wsum_bd (t.data.toList.drop 2)).1
      have hmm : m + (256 * (t[0].toNat : Int) + (t[1].toNat : Int)) ≤ 9223372036854775807 := by
        have := HE.out; have := HW.out; omega
      have hex := tail_of t 2
      have HX := Lib.hid hex
      clear hex
      go_wp2
      go_quiet (fail)
      go_wp2
      go_roundw
      case rel => exact ⟨_, _, _, by omega, hmm, by rw [HX.out]; exact hd, (by have := HE.out; have := HW.out; show _ + wsum (t.extract 2 t.size).data.toList = _; rw [HX.out]; omega), (by simp; omega), rfl, rfl, rfl⟩
      case measure => simp; omega
    · by_cases hz : t.size = 1
      · have hl0 : 0 < t.size := by omega
        have hb0 : t[0].toNat < 256 := t[0].toNat_lt
        have hne : t.toList.isEmpty = false := nonempty_of t hl0
        have HW : Hid (wsum t.data.toList = 256 * (t[0].toNat : Int)) := wsum_one t.data.toList hz
        have hmm : m + 256 * (t[0].toNat : Int) ≤ 9223372036854775807 := by
          have := HE.out; have := HW.out; omega
        go_wp2_with (go_at_call 33; refine (fold_any _ _ (by omega) (by omega)).mono ?_; rintro e w' ⟨rfl, rfl⟩)
        go_ret
        exact ⟨ret_int (by rw [← HE.out, HW.out]; congr 1; omega), _, rfl⟩
      · have hne : t.toList.isEmpty = true := empty_of t (by omega)
        have HW : Hid (wsum t.data.toList = 0) := wsum_none t.data.toList (by show t.size = 0; omega)
        go_wp2_with (go_at_call 33; refine (fold_any _ _ (by omega) (by omega)).mono ?_; rintro e w' ⟨rfl, rfl⟩)
        go_ret
        exact ⟨by rw [← HE.out, HW.out]; simp, _, rfl⟩

theorem of_any (s : ByteArray) (w : World) (hs : s.size ≤ 140737488351232) :
    Calls Try.prog 21 #[.string s] w fun e w' => e = .returned (.int .u16 (65535 - foldI (wsum s.data.toList))) ∧ ∃ k, w' = w.drewN k := by
  have hb := foldI_bd _ (wsum_bd s.data.toList).1
  have hx := xor_max_u16 _ hb.1 hb.2
  go_enter Try.func21, Try.ntmps21
  go_wp2_with fail
  refine (add_any _ _ _ (by omega) (by omega) hs).mono ?_
  rintro e w1 ⟨rfl, k, rfl⟩
  go_wp2
  go_ret
  exact ⟨rfl, _, rfl⟩
theorem right_any (s : ByteArray) (w : World) (hs : s.size ≤ 140737488351232) :
    Calls Try.prog 23 #[.string s] w fun e w' => e = .returned (.bool (foldI (wsum s.data.toList) == 65535)) ∧ ∃ k, w' = w.drewN k := by
  go_enter Try.func23, Try.ntmps23
  go_wp2_with fail
  refine (add_any _ _ _ (by omega) (by omega) hs).mono ?_
  rintro e w1 ⟨rfl, k, rfl⟩
  go_wp2
  go_ret
  exact ⟨rfl, _, rfl⟩
theorem fix_any (a b c : Int) (w : World) (ha : 0 ≤ a ∧ a ≤ 65535) (hb : 0 ≤ b ∧ b ≤ 65535) (hc : 0 ≤ c ∧ c ≤ 65535) :
    Calls Try.prog 24 #[.int .u16 a, .int .u16 b, .int .u16 c] w fun e w' => e = .returned (.int .u16 (65535 - foldI (65535 - a + (65535 - b) + c))) ∧ w = w' := by
  have hx := xor_max_u16 a ha.1 ha.2
  have hy := xor_max_u16 b hb.1 hb.2
  have hz := foldI_bd (65535 - a + (65535 - b) + c) (by omega)
  have hx2 := xor_max_u16 _ hz.1 hz.2
  go_enter Try.func24, Try.ntmps24
  go_wp2_with fail
  rw [show IntKind.u64.wrap (IntKind.u64.wrap (IntKind.u64.wrap (65535 - a) + IntKind.u64.wrap (65535 - b)) + c) = 65535 - a + (65535 - b) + c from by
    rw [IntKind.wrap_u64, IntKind.wrap_u64, IntKind.wrap_u64, IntKind.wrap_u64]; omega]
  refine (fold_any _ _ (by omega) (by omega)).mono ?_
  rintro e w' ⟨rfl, rfl⟩
  go_wp2
  go_ret
  exact ⟨rfl, rfl⟩
theorem endaround_any (a b : Int) (w : World) (ha : 0 ≤ a ∧ a ≤ 65535) (hb : 0 ≤ b ∧ b ≤ 65535) :
    Calls Try.prog 18 #[.int .i64 a, .int .i64 b] w fun e w' => e = .returned (.int .i64 (foldI (a + b))) ∧ w = w' := by
  by_cases h : a + b > 65535
  all_goals
    go_enter Try.func18, Try.ntmps18
    go_wp2
    go_ret
    exact ⟨ret_int (by unfold foldI; split <;> omega), rfl⟩
theorem wordat_any (s : ByteArray) (i : Int) (w : World) (hi : 0 ≤ i) (h : i.toNat < s.size) (hs : s.size ≤ 140737488351232) :
    Calls Try.prog 34 #[.string s, .int .i64 i] w fun e w' => e = .returned (.int .i64 (wordAtI s.data.toList i.toNat)) ∧ w = w' := by
  obtain ⟨i, rfl⟩ := Int.eq_ofNat_of_zero_le hi
  rw [Int.toNat_natCast] at h ⊢
  have h0 : s[i].toNat < 256 := s[i].toNat_lt
  have hi0 : s.data.toList[i]? = some s[i] := List.getElem?_eq_getElem h
  by_cases hh : i + 1 < s.size
  · have h1 : s[i + 1].toNat < 256 := s[i + 1].toNat_lt
    have hi1 : s.data.toList[i + 1]? = some s[i + 1] := List.getElem?_eq_getElem hh
    have HF : Hid (wordAtI s.data.toList i = 256 * (s[i].toNat : Int) + (s[i + 1].toNat : Int)) := by
      show wordAtI s.data.toList i = _
      simp [wordAtI, hi0, hi1]
    clear hi0 hi1
    go_enter Try.func34, Try.ntmps34
    go_wp2
    go_ret
    exact ⟨ret_int HF.out.symm, rfl⟩
  · have hi1 : s.data.toList[i + 1]? = none := List.getElem?_eq_none (by show s.size ≤ _; omega)
    have HF : Hid (wordAtI s.data.toList i = 256 * (s[i].toNat : Int)) := by
      show wordAtI s.data.toList i = _
      simp [wordAtI, hi0, hi1]
    clear hi0 hi1
    go_enter Try.func34, Try.ntmps34
    go_wp2
    go_ret
    exact ⟨ret_int HF.out.symm, rfl⟩
theorem sumof_any (n : Int) (s : ByteArray) (w : World) (h0 : 0 ≤ n) (h1 : n ≤ 65535) (hs : s.size ≤ 140737488351232) :
    Calls Try.prog 20 #[.int .i64 n, .string s] w fun e w' => e = .returned (.int .i64 (foldI (n + wsum s.data.toList))) ∧ w = w' := by
  go_enter Try.func20, Try.ntmps20
  go_wp2
  go_loopw [0, 5] (fun fv iv wr => ∃ (k : Nat) (m : Int), 0 ≤ m ∧ m ≤ 65535 ∧ Hid (foldI (m + wsum (s.data.toList.drop k)) = foldI (n + wsum s.data.toList)) ∧ k ≤ s.size + 1 ∧ iv = .int .i64 k ∧ fv = .int .i64 m ∧ wr = w) (fun _ iv _ => s.size + 2 - (intOf iv).toNat)
  case atStart => exact ⟨0, n, by omega, by omega, rfl, by omega, rfl, rfl, rfl⟩
  case round =>
    obtain ⟨k, m, hm0, hm1, HE, hk, rfl, rfl, rfl⟩ := hrel
    have hf := wordAtI_bd s.data.toList k
    by_cases hlt : k < s.size
    · have hb := foldI_bd (m + wordAtI s.data.toList k) (by omega)
      have HW := Lib.hid (wsum_at s.data.toList k hlt)
      have hw2 := (wsum_bd (s.data.toList.drop (k + 2))).1
      go_wp2_with (first | (go_at_call 34; refine (wordat_any _ _ _ (by omega) (by omega) hs).mono ?_; rintro e w' ⟨rfl, rfl⟩; rw [Int.toNat_natCast]) | (go_at_call 18; refine (endaround_any _ _ _ (by omega) (by omega)).mono ?_; rintro e w' ⟨rfl, rfl⟩))
      go_roundw
      case rel => exact ⟨k + 2, _, hb.1, hb.2, (by show foldI (foldI _ + _) = _; rw [foldI_add _ _ (by omega) hw2, ← HE.out, HW.out, Int.add_assoc]), by omega, by go_num, rfl, by trivial⟩
      case measure => simp [intOf]; omega
    · have hd : wsum (s.data.toList.drop k) = 0 := by rw [List.drop_eq_nil_of_le (by show s.size ≤ k; omega)]; rfl
      have HD := Lib.hid hd
      clear hd
      go_wp2
      go_ret
      exact ⟨ret_int (by rw [← HE.out, HD.out, Int.add_zero, foldI_small m hm0 hm1]), rfl⟩
theorem check_any (s : ByteArray) (w : World) (hs : s.size ≤ 140737488351232) :
    Calls Try.prog 22 #[.string s] w fun e w' => e = .returned (.int .i64 (65535 - foldI (wsum s.data.toList))) ∧ w = w' := by
  have hb := foldI_bd _ (wsum_bd s.data.toList).1
  go_enter Try.func22, Try.ntmps22
  go_wp2_with fail
  refine (sumof_any _ _ _ (by omega) (by omega) hs).mono ?_
  rintro e w1 ⟨rfl, rfl⟩
  go_wp2
  go_ret
  exact ⟨ret_int (by simp), rfl⟩
end Go.Proofs.Ytolbnadafelkhaa
