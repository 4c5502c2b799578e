/-
  Plain facts on sums of words: no program in sight.
-/
import Derived.Laws.BitsAll
import Derived.Below
import Derived.WalkSpells
import Derived.Lib.Strings
import Derived.Lib.IndexBytes
namespace Go.Proofs.Ytidogmmfakcfgaa
open Go.RowKit
set_option linter.unusedVariables false
set_option linter.unusedSimpArgs false
def foldI (m : Int) : Int := if m = 0 then 0 else (m - 1) % 65535 + 1
theorem foldI_bd (m : Int) (h : 0 ≤ m) : 0 ≤ foldI m ∧ foldI m ≤ 65535 := by unfold foldI; split <;> omega
theorem foldI_small (m : Int) (h : 0 ≤ m) (h1 : m ≤ 65535) : foldI m = m := by unfold foldI; split <;> omega
theorem foldI_step (m : Int) (h : 65535 < m) : foldI (m / 65536 + m % 65536) = foldI m := by unfold foldI; split <;> split <;> omega
theorem foldI_add (a b : Int) (ha : 0 ≤ a) (hb : 0 ≤ b) : foldI (foldI a + b) = foldI (a + b) := by unfold foldI; split <;> split <;> split <;> omega
theorem and65535 (m : Int) (h0 : 0 ≤ m) (h1 : m ≤ 18446744073709551615) : bits .and .u64 m 65535 = m % 65536 := by
  go_bits2
theorem word_u64 (a b : UInt8) : bits .or .u64 ((a.toNat : Int) * 256) (b.toNat : Int) = 256 * (a.toNat : Int) + (b.toNat : Int) := by
  have ha := a.toNat_lt
  have hb := b.toNat_lt
  go_bits2
def wsum : List UInt8 → Int
  | a :: b :: r => 256 * (a.toNat : Int) + (b.toNat : Int) + wsum r
  | [a] => 256 * (a.toNat : Int)
  | [] => 0
theorem wsum_bd : ∀ l : List UInt8, 0 ≤ wsum l ∧ wsum l ≤ 65535 * l.length
  | a :: b :: r => by
    have ha := a.toNat_lt
    have hb := b.toNat_lt
    have := wsum_bd r
    simp only [wsum, List.length_cons]
    omega
  | [a] => by
    have ha := a.toNat_lt
    simp only [wsum, List.length_cons, List.length_nil]
    omega
  | [] => by simp [wsum]
theorem wsum_two (l : List UInt8) (h : 1 < l.length) : wsum l = 256 * ((l[0]'(by omega)).toNat : Int) + ((l[1]'h).toNat : Int) + wsum (l.drop 2) := by
  match l, h with
  | a :: b :: r, _ => rfl
theorem wsum_one (l : List UInt8) (h : l.length = 1) : wsum l = 256 * ((l[0]'(by omega)).toNat : Int) := by
  match l, h with
  | [a], _ => rfl
theorem wsum_none (l : List UInt8) (h : l.length = 0) : wsum l = 0 := by
  match l, h with
  | [], _ => rfl
theorem empty_of (s : ByteArray) (h : s.size = 0) : s.toList.isEmpty = true := by
  rw [ByteArray.toList_eq]
  have h' : s.data.toList.length = 0 := h
  cases hl : s.data.toList with
  | nil => rfl
  | cons a r => rw [hl] at h'; simp at h'
theorem nonempty_of (s : ByteArray) (h : 0 < s.size) : s.toList.isEmpty = false := by
  rw [ByteArray.toList_eq]
  have h' : 0 < s.data.toList.length := h
  cases hl : s.data.toList with
  | nil => rw [hl] at h'; simp at h'
  | cons a r => rfl
theorem tail_of (s : ByteArray) (k : Nat) : (s.extract k s.size).data.toList = s.data.toList.drop k := by
  rw [Lib.extract_data]
  exact List.take_of_length_le (by rw [List.length_drop]; exact Nat.le_refl _)
theorem app_data (a b : ByteArray) : (a ++ b).data.toList = a.data.toList ++ b.data.toList := by
  rw [ByteArray.data_append, Array.toList_append]
theorem ret_int {k : IntKind} {a b : Int} (h : a = b) : Ending.returned (.int k a) = .returned (.int k b) := by rw [h]
theorem ret_bool {a b : Bool} (h : a = b) : Ending.returned (.bool a) = .returned (.bool b) := by rw [h]
theorem wsum_app_even : ∀ (a b : List UInt8), a.length % 2 = 0 → wsum (a ++ b) = wsum a + wsum b
  | [], b, _ => by simp [wsum]
  | [x], b, h => by simp at h
  | x :: y :: r, b, h => by
    have := wsum_app_even r b (by simp at h; omega)
    simp only [List.cons_append, wsum, this]
    omega
theorem xor_max_u16 (a : Int) (h0 : 0 ≤ a) (h1 : a ≤ 65535) : bits .xor .u16 IntKind.u16.max a = 65535 - a := by
  obtain ⟨n, rfl⟩ := Int.eq_ofNat_of_zero_le h0
  have e : IntKind.u16.max = ((65535 : Nat) : Int) := by decide
  rw [e, u16_xor_nat _ _ (by omega) (by omega)]
  have h := BitVec.toNat_not (x := BitVec.ofNat 16 n)
  rw [BitVec.not_def, BitVec.toNat_xor, BitVec.toNat_allOnes, BitVec.toNat_ofNat, Nat.mod_eq_of_lt (by omega)] at h
  have h' : 65535 ^^^ n = 65535 - n := by simpa using h
  rw [h']
  omega
def wordAtI (l : List UInt8) (i : Nat) : Int := 256 * ((l[i]?.getD 0).toNat : Int) + ((l[i + 1]?.getD 0).toNat : Int)
theorem wordAtI_bd (l : List UInt8) (i : Nat) : 0 ≤ wordAtI l i ∧ wordAtI l i ≤ 65535 := by
  unfold wordAtI
  have h1 := (l[i]?.getD 0).toNat_lt
  have h2 := (l[i + 1]?.getD 0).toNat_lt
  omega
theorem wsum_at (l : List UInt8) (i : Nat) (h : i < l.length) : wsum (l.drop i) = wordAtI l i + wsum (l.drop (i + 2)) := by
  have hi : l[i]? = some l[i] := List.getElem?_eq_getElem h
  by_cases h1 : i + 1 < l.length
  · have hi1 : l[i + 1]? = some l[i + 1] := List.getElem?_eq_getElem h1
    rw [List.drop_eq_getElem_cons h, List.drop_eq_getElem_cons h1]
    simp [wsum, wordAtI, hi, hi1]
  · have hi1 : l[i + 1]? = none := List.getElem?_eq_none (by omega)
    rw [List.drop_eq_getElem_cons h, List.drop_eq_nil_of_le (show l.length ≤ i + 1 by omega), List.drop_eq_nil_of_le (show l.length ≤ i + 2 by omega)]
    simp [wsum, wordAtI, hi, hi1]
theorem wordAtI_drop (l : List UInt8) (k i : Nat) : wordAtI (l.drop k) i = wordAtI l (k + i) := by
  unfold wordAtI
  rw [List.getElem?_drop, List.getElem?_drop, Nat.add_assoc]
end Go.Proofs.Ytidogmmfakcfgaa
