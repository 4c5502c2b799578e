/-
  Plain facts on buckets.
-/
import Derived.Below
namespace Go.Proofs.Ytkpechddgjbfkaa
open Go.RowKit

def bErr (r m h a : Int) : Int := if r < 0 ∨ 1000000 < r ∨ m < 1 ∨ 1000000000 < m then 1 else if h < 0 ∨ m < h ∨ a < 0 ∨ 1099511627776 < a then 4 else 0
theorem bErr_ok {r m h a : Int} (e : bErr r m h a = 0) : 0 ≤ r ∧ r ≤ 1000000 ∧ 1 ≤ m ∧ m ≤ 1000000000 ∧ 0 ≤ h ∧ h ≤ m ∧ 0 ≤ a ∧ a ≤ 1099511627776 := by
  unfold bErr at e
  split at e
  · omega
  split at e
  · omega
  omega
theorem bErr_cases (r m h a : Int) : bErr r m h a = 0 ∨ bErr r m h a = 1 ∨ bErr r m h a = 4 := by
  unfold bErr
  split
  · omega
  split <;> omega
theorem bErr_eq1 {r m x a : Int} (h : r < 0 ∨ 1000000 < r ∨ m < 1 ∨ 1000000000 < m) : bErr r m x a = 1 := by unfold bErr; rw [if_pos h]
theorem bErr_eq4 {r m x a : Int} (h : ¬ (r < 0 ∨ 1000000 < r ∨ m < 1 ∨ 1000000000 < m)) (h2 : x < 0 ∨ m < x ∨ a < 0 ∨ 1099511627776 < a) : bErr r m x a = 4 := by unfold bErr; rw [if_neg h, if_pos h2]
theorem bErr_eq0 {r m x a : Int} (h : ¬ (r < 0 ∨ 1000000 < r ∨ m < 1 ∨ 1000000000 < m)) (h2 : ¬ (x < 0 ∨ m < x ∨ a < 0 ∨ 1099511627776 < a)) : bErr r m x a = 0 := by unfold bErr; rw [if_neg h, if_neg h2]
def bLevel (r m x a now : Int) : Int := min m (x + r * min (now - a) 1000000000)
theorem prod_bd {r t : Int} (h1 : 0 ≤ r) (h2 : r ≤ 1000000) (h3 : 0 ≤ t) (h4 : t ≤ 1000000000) : 0 ≤ r * t ∧ r * t ≤ 1000000000000000 :=
  ⟨Int.mul_nonneg h1 h3, by have := Int.mul_le_mul h2 h4 h3 (by omega); omega⟩
def blErr (r m x a now : Int) : Int := if bErr r m x a ≠ 0 then bErr r m x a else if now < a ∨ 1099511627776 < now then 1 else 0
def blVal (r m x a now : Int) : Int := if blErr r m x a now = 0 then bLevel r m x a now else 0

def btErr (r m x a now n : Int) : Int := if bErr r m x a ≠ 0 then bErr r m x a else if now < a ∨ 1099511627776 < now ∨ n < 0 ∨ 1000000000 < n then 1 else 0
def btHas (r m x a now n : Int) : Int := if bLevel r m x a now < n then bLevel r m x a now else bLevel r m x a now - n
theorem bLevel_bd {r m x a now : Int} (h : bErr r m x a = 0) (h1 : a ≤ now) : 0 ≤ bLevel r m x a now ∧ bLevel r m x a now ≤ m := by
  have hk := bErr_ok h
  have hp := prod_bd (r := r) (t := min (now - a) 1000000000) hk.1 hk.2.1 (by omega) (by omega)
  unfold bLevel
  omega
theorem ceil_yes {r t v : Int} (hr : 0 < r) (h : (v + r - 1) / r ≤ t) : v ≤ r * t := by
  have h1 := Int.mul_ediv_add_emod (v + r - 1) r
  have h2 := Int.emod_nonneg (v + r - 1) (by omega : r ≠ 0)
  have h3 := Int.emod_lt_of_pos (v + r - 1) hr
  have h4 := Int.mul_le_mul_of_nonneg_left h (by omega : 0 ≤ r)
  omega
theorem ceil_no {r t v : Int} (hr : 0 < r) (h : ¬ (v + r - 1) / r ≤ t) : r * t < v := by
  have h1 := Int.mul_ediv_add_emod (v + r - 1) r
  have h2 := Int.emod_nonneg (v + r - 1) (by omega : r ≠ 0)
  have h4 := Int.mul_le_mul_of_nonneg_left (show t + 1 ≤ (v + r - 1) / r by omega) (by omega : 0 ≤ r)
  rw [Int.mul_add] at h4
  omega
theorem bLevel_full {r m x a now : Int} (h : bErr r m x a = 0) (h1 : a ≤ now) (hr : 0 < r) (hc : (m - x + r - 1) / r ≤ now - a) : bLevel r m x a now = m := by
  have hk := bErr_ok h
  have h2 := ceil_yes hr hc
  have h3 : m - x ≤ r * 1000000000 := by
    have := Int.mul_le_mul_of_nonneg_right (show 1 ≤ r by omega) (show (0 : Int) ≤ 1000000000 by omega)
    omega
  unfold bLevel
  rcases Int.le_total (now - a) 1000000000 with h4 | h4
  · rw [Int.min_eq_left h4]; omega
  · rw [Int.min_eq_right h4]; omega
theorem bLevel_more {r m x a now : Int} (h : bErr r m x a = 0) (h1 : a ≤ now) (hc : ¬ (0 < r ∧ (m - x + r - 1) / r ≤ now - a)) : bLevel r m x a now = x + r * (now - a) ∧ 0 ≤ r * (now - a) ∧ r * (now - a) ≤ 1000000000 := by
  have hk := bErr_ok h
  by_cases hr : 0 < r
  · have h2 := ceil_no (v := m - x) (t := now - a) hr (fun h => hc ⟨hr, h⟩)
    have h3 : now - a ≤ r * (now - a) := by
      have := Int.mul_le_mul_of_nonneg_right (show 1 ≤ r by omega) (show (0 : Int) ≤ now - a by omega)
      omega
    have h0 := Int.mul_nonneg hk.1 (show (0 : Int) ≤ now - a by omega)
    unfold bLevel
    rw [Int.min_eq_left (show now - a ≤ 1000000000 by omega)]
    omega
  · obtain rfl : r = 0 := by omega
    unfold bLevel
    simp only [Int.zero_mul]
    omega
def bRun (r m : Int) : Int → Int → List (Int × Int) → Int × Int × Int × List Bool
  | x, a, [] => (0, x, a, [])
  | x, a, d :: t =>
    if btErr r m x a d.1 d.2 ≠ 0 then (btErr r m x a d.1 d.2, 0, 0, [])
    else if (bRun r m (btHas r m x a d.1 d.2) d.1 t).1 ≠ 0 then ((bRun r m (btHas r m x a d.1 d.2) d.1 t).1, 0, 0, [])
    else (0, (bRun r m (btHas r m x a d.1 d.2) d.1 t).2.1, (bRun r m (btHas r m x a d.1 d.2) d.1 t).2.2.1, decide (d.2 ≤ bLevel r m x a d.1) :: (bRun r m (btHas r m x a d.1 d.2) d.1 t).2.2.2)
def bJoin (told : List Bool) (q : Int × Int × Int × List Bool) : Int × Int × Int × List Bool := if q.1 ≠ 0 then (q.1, 0, 0, []) else (0, q.2.1, q.2.2.1, told ++ q.2.2.2)
theorem bJoin_nil (r m x a : Int) (ds : List (Int × Int)) : bJoin [] (bRun r m x a ds) = bRun r m x a ds := by
  cases ds with
  | nil => rfl
  | cons d t =>
    unfold bJoin
    split
    · simp only [bRun] at *
      split
      · rfl
      · rename_i h1
        rw [if_neg h1] at *
        split
        · rfl
        · rename_i h2 h3
          rw [if_neg h3] at h2
          simp at h2
    · rename_i h0
      have h0' : (bRun r m x a (d :: t)).1 = 0 := by omega
      rw [List.nil_append]
      exact Prod.ext h0'.symm rfl
theorem bJoin_step {r m x a : Int} {told : List Bool} {d : Int × Int} {t : List (Int × Int)} (h : btErr r m x a d.1 d.2 = 0) :
    bJoin told (bRun r m x a (d :: t)) = bJoin (told ++ [decide (d.2 ≤ bLevel r m x a d.1)]) (bRun r m (btHas r m x a d.1 d.2) d.1 t) := by
  simp only [bRun]
  rw [if_neg (by omega)]
  unfold bJoin
  by_cases hz : (bRun r m (btHas r m x a d.1 d.2) d.1 t).1 ≠ 0
  · rw [if_pos hz, if_pos hz, if_pos hz]
  · rw [if_neg hz, if_neg hz, if_neg (by simp)]
    simp
theorem bJoin_err {r m x a : Int} {told : List Bool} {d : Int × Int} {t : List (Int × Int)} (h : btErr r m x a d.1 d.2 ≠ 0) : bJoin told (bRun r m x a (d :: t)) = (btErr r m x a d.1 d.2, 0, 0, []) := by
  simp only [bRun]
  rw [if_pos h]
  unfold bJoin
  rw [if_pos h]
theorem btErr_next {r m x a : Int} {now n : Int} (h : btErr r m x a now n = 0) : bErr r m (btHas r m x a now n) now = 0 := by
  unfold btErr at h
  split at h
  · omega
  rename_i h0
  split at h
  · omega
  have h0' : bErr r m x a = 0 := by omega
  have hk := bErr_ok h0'
  have hl := bLevel_bd (now := now) h0' (by omega)
  refine bErr_eq0 (by omega) ?_
  unfold btHas
  split <;> omega

end Go.Proofs.Ytkpechddgjbfkaa
