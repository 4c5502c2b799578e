/-
  What turns do, in plain.
-/
import Derived.Test.YtecnjhmpipfldaaTickX
import Derived.Test.YtecnjhmpipfldaaSortP
namespace Go.Proofs.Ytecnjhmpipfldaa
set_option linter.unusedVariables false
set_option linter.unusedSimpArgs false
/-! Numbers. -/
theorem low_ex : ∀ (q x : Nat), 0 < x → x < 16 ^ q → ∃ c, c < q ∧ 16 ^ c ∣ x ∧ x / 16 ^ c % 16 ≠ 0
  | 0, x, h0, h => by simp at h; omega
  | q + 1, x, h0, h => by
    by_cases hx : x % 16 = 0
    · obtain ⟨y, rfl⟩ : ∃ y, x = 16 * y := ⟨x / 16, by omega⟩
      obtain ⟨c, h1, h2, h3⟩ := low_ex q y (by omega) (by rw [Nat.pow_succ] at h; omega)
      refine ⟨c + 1, by omega, ?_, ?_⟩
      · rw [Nat.pow_succ, Nat.mul_comm (16 ^ c)]
        exact Nat.mul_dvd_mul_left 16 h2
      · rw [Nat.pow_succ, Nat.mul_comm (16 ^ c), ← Nat.div_div_eq_div_mul, Nat.mul_div_cancel_left _ (by omega)]
        exact h3
    · exact ⟨0, by omega, Nat.one_dvd _, by simpa using hx⟩
/-- Above its lowest digit a number and the one ahead of it agree. -/
theorem up_same {n c k : Nat} (hc : (n + 1) / 16 ^ c % 16 ≠ 0) (hd : 16 ^ c ∣ n + 1) (hk : c < k) : n / 16 ^ k = (n + 1) / 16 ^ k := by
  rw [Nat.succ_div, if_neg, Nat.add_zero]
  intro h
  have h2 : 16 ^ (c + 1) ∣ n + 1 := Nat.dvd_trans (Nat.pow_dvd_pow 16 hk) h
  obtain ⟨w, hw⟩ := h2
  apply hc
  rw [hw, Nat.pow_succ, Nat.mul_assoc, Nat.mul_div_cancel_left _ (Nat.pow_pos (by decide))]
  omega
theorem up_no {x c k : Nat} (hc : x / 16 ^ c % 16 ≠ 0) (hk : c < k) : x % 16 ^ k ≠ 0 := fun h => by
  have h2 : 16 ^ (c + 1) ∣ x := Nat.dvd_trans (Nat.pow_dvd_pow 16 hk) (Nat.dvd_of_mod_eq_zero h)
  obtain ⟨w, hw⟩ := h2
  apply hc
  rw [hw, Nat.pow_succ, Nat.mul_assoc, Nat.mul_div_cancel_left _ (Nat.pow_pos (by decide))]
  omega
/-- The number ahead, from the lowest digit down. -/
theorem ahead {n c : Nat} (hd : 16 ^ c ∣ n + 1) : n / 16 ^ c + 1 = (n + 1) / 16 ^ c := by
  rw [Nat.succ_div, if_pos hd]
theorem digit_div {x y k : Nat} (h1 : x / 16 ^ (k + 1) = y / 16 ^ (k + 1)) (h2 : x / 16 ^ k % 16 = y / 16 ^ k % 16) : x / 16 ^ k = y / 16 ^ k := by
  rw [Nat.pow_succ, ← Nat.div_div_eq_div_mul, ← Nat.div_div_eq_div_mul] at h1
  omega
theorem above_eq {x y k j : Nat} (h : x / 16 ^ k = y / 16 ^ k) (hj : k ≤ j) : x / 16 ^ j = y / 16 ^ j := by
  obtain ⟨d, rfl⟩ : ∃ d, j = k + d := ⟨j - k, by omega⟩
  rw [Nat.pow_add, ← Nat.div_div_eq_div_mul, ← Nat.div_div_eq_div_mul, h]
theorem own_no {τ t : Nat} (h : τ < t) (ht : t < 16777216) (j : Nat) : lisR τ t 6 ≠ ((16 * j + τ / 16 ^ j % 16 : Nat) : Int) := by
  obtain ⟨k, h1, h2, h3⟩ := digit_ex h 6 ht
  rw [lisR_of h1 (by omega) h3]
  intro e
  have a1 : t / 16 ^ k % 16 < 16 := Nat.mod_lt _ (by decide)
  have a2 : τ / 16 ^ j % 16 < 16 := Nat.mod_lt _ (by decide)
  obtain rfl : k = j := by omega
  omega
theorem classes {n c t : Nat} (hd : 16 ^ c ∣ n + 1) (hc : (n + 1) / 16 ^ c % 16 ≠ 0) (hnt : n < t) (ht : t < 16777216) :
    (n + 1 < t ∧ lisR n t 6 ≠ ((16 * c + (n + 1) / 16 ^ c % 16 : Nat) : Int) ∧ lisR (n + 1) t 6 = lisR n t 6 ∧ 16 * (c : Int) ≤ lisR n t 6) ∨
    (lisR n t 6 = ((16 * c + (n + 1) / 16 ^ c % 16 : Nat) : Int) ∧ (t = n + 1 ∨ (n + 1 < t ∧ lisR (n + 1) t 6 < 16 * (c : Int)))) := by
  obtain ⟨k, h1, h2, h3⟩ := digit_ex hnt 6 ht
  have hl := lisR_of h1 (by omega) h3
  have a1 : t / 16 ^ k % 16 < 16 := Nat.mod_lt _ (by decide)
  have a2 : (n + 1) / 16 ^ c % 16 < 16 := Nat.mod_lt _ (by decide)
  rcases Nat.lt_trichotomy k c with hk | rfl | hk
  · exfalso
    have hd2 : 16 ^ (k + 1) ∣ n + 1 := Nat.dvd_trans (Nat.pow_dvd_pow 16 hk) hd
    have e := ahead (Nat.dvd_trans (Nat.pow_dvd_pow 16 (Nat.le_succ k)) hd2)
    obtain ⟨w, hw⟩ := hd2
    rw [hw, Nat.pow_succ, Nat.mul_assoc, Nat.mul_div_cancel_left _ (Nat.pow_pos (by decide))] at e
    omega
  · have e := ahead hd
    have e1 := up_same hc hd (Nat.lt_succ_self k)
    by_cases hq : t / 16 ^ k % 16 = (n + 1) / 16 ^ k % 16
    · right
      refine ⟨by rw [hl, hq]; omega, ?_⟩
      have e2 : (n + 1) / 16 ^ k = t / 16 ^ k := digit_div (by rw [← e1, h3]) hq.symm
      by_cases he : t = n + 1
      · exact .inl he
      · refine .inr ⟨by omega, ?_⟩
        obtain ⟨k', g1, g2, g3⟩ := digit_ex (show n + 1 < t by omega) 6 ht
        rw [lisR_of g1 (by omega) g3]
        have a3 : t / 16 ^ k' % 16 < 16 := Nat.mod_lt _ (by decide)
        have : k' < k := by
          rcases Nat.lt_or_ge k' k with h | h
          · exact h
          · rw [above_eq e2 h] at g2
            omega
        omega
    · left
      have hl2 : lisR (n + 1) t 6 = 16 * (k : Int) + ((t / 16 ^ k % 16 : Nat) : Int) := lisR_of h1 (fun q => hq q.symm) (by rw [← e1, h3])
      refine ⟨?_, by rw [hl]; omega, by rw [hl, hl2], by rw [hl]; omega⟩
      rcases Nat.lt_or_ge (n + 1) t with h | h
      · exact h
      · obtain rfl : t = n + 1 := by omega
        exact absurd rfl hq
  · left
    have e0 := up_same hc hd hk
    have e1 := up_same hc hd (Nat.lt_succ_of_lt hk)
    have hl2 : lisR (n + 1) t 6 = 16 * (k : Int) + ((t / 16 ^ k % 16 : Nat) : Int) := lisR_of h1 (by rw [← e0]; omega) (by rw [← e1, h3])
    refine ⟨?_, by rw [hl]; omega, by rw [hl, hl2], by rw [hl]; omega⟩
    rcases Nat.lt_or_ge (n + 1) t with h | h
    · exact h
    · obtain rfl : t = n + 1 := by omega
      rw [e0] at h2
      omega
end Go.Proofs.Ytecnjhmpipfldaa
