/-
  Segments: options as bytes, read.
-/
import Derived.Test.YtegejpieedckiaaTcpX
namespace Go.Proofs.Ytegejpieedckiaa
set_option linter.unusedVariables false
set_option linter.unusedSimpArgs false
theorem emR : (ByteArray.mk #[] : ByteArray) = mkS [] := rfl
theorem ze1 : (ByteArray.mk #[0] : ByteArray) = mkS [0] := rfl
def zer (s : List UInt8) : Bool := s.all (fun b => decide (b = 0))
theorem zer_nil : zer [] = true := rfl
theorem zer_head {s : List UInt8} (h : ¬ bN s 0 = 0) : zer s = false := by
  cases s with
  | nil => exact absurd rfl h
  | cons b r =>
    have : ¬ b = 0 := fun e => h (by subst e; rfl)
    simp [zer, this]
theorem len_pos {s : List UInt8} (h : zer s = false) : 0 < s.length := by
  cases s with
  | nil => cases h
  | cons b r => simp
/-- Options of bytes. -/
def prs (s : List UInt8) : Option (List Op2) :=
  if hz : zer s = true then some []
  else if bN s 0 = 0 then none
  else if bN s 0 = 1 then (prs (s.drop 1)).map (fun l => ⟨1, []⟩ :: l)
  else if hn : 2 ≤ s.length ∧ 2 ≤ bN s 1 ∧ bN s 1 ≤ s.length then (prs (s.drop (bN s 1))).map (fun l => ⟨(bN s 0 : Nat), (s.drop 2).take (bN s 1 - 2)⟩ :: l)
  else none
termination_by s.length
decreasing_by
  · have := len_pos (Bool.eq_false_iff.2 hz)
    simp; omega
  · simp; omega
theorem prs_zero {s : List UInt8} (h : zer s = true) : prs s = some [] := by rw [prs, dif_pos h]
theorem prs_bad {s : List UInt8} (h : zer s = false) (h0 : bN s 0 = 0) : prs s = none := by rw [prs, dif_neg (by rw [h]; simp), if_pos h0]
theorem prs_one {s : List UInt8} (h : bN s 0 = 1) : prs s = (prs (s.drop 1)).map (fun l => ⟨1, []⟩ :: l) := by
  rw [prs, dif_neg (by rw [zer_head (by omega)]; simp), if_neg (by omega), if_pos h]
theorem prs_n {s : List UInt8} (h : 2 ≤ bN s 0) (hn : 2 ≤ s.length ∧ 2 ≤ bN s 1 ∧ bN s 1 ≤ s.length) : prs s = (prs (s.drop (bN s 1))).map (fun l => ⟨(bN s 0 : Nat), (s.drop 2).take (bN s 1 - 2)⟩ :: l) := by
  rw [prs, dif_neg (by rw [zer_head (by omega)]; simp), if_neg (by omega), if_neg (by omega), dif_pos hn]
theorem prs_no {s : List UInt8} (h : 2 ≤ bN s 0) (hn : ¬ (2 ≤ s.length ∧ 2 ≤ bN s 1 ∧ bN s 1 ≤ s.length)) : prs s = none := by
  rw [prs, dif_neg (by rw [zer_head (by omega)]; simp), if_neg (by omega), if_neg (by omega), dif_neg hn]
def prR (s : List UInt8) : List Op2 × Bool := match prs s with
  | some l => (l, true)
  | none => ([], false)
theorem prR_some {s : List UInt8} {l : List Op2} (h : prs s = some l) : prR s = (l, true) := by unfold prR; rw [h]
theorem prR_none {s : List UInt8} (h : prs s = none) : prR s = ([], false) := by unfold prR; rw [h]
abbrev dPr (r : List Op2 × Bool) : DV := .tup [.snap 2 (r.1.map Op2.enc) false, .v (.bool r.2)]
theorem nil_pr (b : Bool) : nilP (.tup [.v (.slice none 0 0), .v (.bool b)]) (dPr ([], b)) := by simp [nilP, nilL]
theorem zer_iff (s : List UInt8) : zer s = true ↔ ∀ i, i < s.length → bN s i = 0 := by
  unfold zer
  rw [List.all_eq_true]
  constructor
  · intro h i hi
    have := h s[i] (List.getElem_mem hi)
    have e : s[i] = 0 := by simpa using this
    unfold bN
    rw [List.getElem?_eq_getElem hi, e]
    rfl
  · intro h b hb
    obtain ⟨i, hi, rfl⟩ := List.mem_iff_getElem.1 hb
    have := h i hi
    unfold bN at this
    rw [List.getElem?_eq_getElem hi] at this
    simp only [Option.getD_some] at this
    refine decide_eq_true ?_
    exact UInt8.toNat_inj.1 this
theorem prs_len : ∀ (n : Nat) (s : List UInt8) (l : List Op2), s.length ≤ n → prs s = some l → l.length ≤ s.length
  | 0, s, l, hn, h => by
    obtain rfl : s = [] := List.eq_nil_of_length_eq_zero (by omega)
    rw [prs_zero zer_nil] at h
    cases h; exact Nat.le_refl _
  | n + 1, s, l, hn, h => by
    rw [prs] at h
    split at h
    · cases h; exact Nat.zero_le _
    rename_i hz
    have hp := len_pos (Bool.eq_false_iff.2 hz)
    split at h
    · cases h
    split at h
    · cases hq : prs (s.drop 1) with
      | none => rw [hq] at h; cases h
      | some q =>
        rw [hq] at h
        have := prs_len n (s.drop 1) q (by simp; omega) hq
        cases h
        simp at this ⊢; omega
    split at h
    · rename_i hb
      cases hq : prs (s.drop (bN s 1)) with
      | none => rw [hq] at h; cases h
      | some q =>
        rw [hq] at h
        have := prs_len n (s.drop (bN s 1)) q (by simp; omega) hq
        cases h
        simp at this ⊢; omega
    · cases h
end Go.Proofs.Ytegejpieedckiaa
