/-
  How many bits are set, by the library's sums of fields: plain.
-/
import Derived.Test.YtecnnfhebcnkbaaDoorPortN
namespace Go.Proofs.YtecnnfhebcnkbaaDoor
set_option linter.unusedVariables false
set_option linter.unusedSimpArgs false
/-- The sum of the first n digits of x, in the base 2 ^ w. -/
def dsum (w : Nat) : Nat → Nat → Nat
  | 0, _ => 0
  | n + 1, x => x % 2 ^ w + dsum w n (x / 2 ^ w)
/-- The first n digits are at most m, and there are no more. -/
def dmax (w m : Nat) : Nat → Nat → Prop
  | 0, x => x = 0
  | n + 1, x => x % 2 ^ w ≤ m ∧ dmax w m n (x / 2 ^ w)
/-- Neighbours added. -/
def nsum (w : Nat) : Nat → Nat → Nat
  | 0, _ => 0
  | n + 1, x => (x % 2 ^ w + x / 2 ^ w % 2 ^ w) + 2 ^ w * 2 ^ w * nsum w n (x / 2 ^ w / 2 ^ w)
def nmask (w : Nat) : Nat → Nat
  | 0 => 0
  | n + 1 => (2 ^ w - 1) + 2 ^ w * 2 ^ w * nmask w n
theorem land_split {k a b c d : Nat} (ha : a < 2 ^ k) (hc : c < 2 ^ k) : (a + 2 ^ k * b) &&& (c + 2 ^ k * d) = (a &&& c) + 2 ^ k * (b &&& d) := by
  have hac : a &&& c < 2 ^ k := Nat.and_lt_two_pow _ hc
  refine Nat.eq_of_testBit_eq fun i => ?_
  rw [Nat.testBit_and, Nat.add_comm a, Nat.add_comm c, Nat.add_comm (a &&& c), Nat.testBit_two_pow_mul_add _ ha, Nat.testBit_two_pow_mul_add _ hc, Nat.testBit_two_pow_mul_add _ hac]
  split <;> rw [Nat.testBit_and]
theorem nsum_dsum (w : Nat) (hw : 1 ≤ w) : ∀ (n x : Nat), dsum (w + w) n (nsum w n x) = dsum w (n + n) x
  | 0, x => rfl
  | n + 1, x => by
    have ih := nsum_dsum w hw n (x / 2 ^ w / 2 ^ w)
    have hp : 2 ≤ 2 ^ w := by have := Nat.pow_le_pow_right (n := 2) (by decide) hw; simpa using this
    have h1 : x % 2 ^ w < 2 ^ w := Nat.mod_lt _ (by omega)
    have h2 : x / 2 ^ w % 2 ^ w < 2 ^ w := Nat.mod_lt _ (by omega)
    have h3 : 2 ^ w * 2 ≤ 2 ^ w * 2 ^ w := Nat.mul_le_mul_left _ hp
    rw [show n + 1 + (n + 1) = (n + n) + 1 + 1 by omega]
    show (nsum w (n + 1) x) % 2 ^ (w + w) + dsum (w + w) n (nsum w (n + 1) x / 2 ^ (w + w)) = x % 2 ^ w + (x / 2 ^ w % 2 ^ w + dsum w (n + n) (x / 2 ^ w / 2 ^ w))
    have hr : (x % 2 ^ w + x / 2 ^ w % 2 ^ w) % (2 ^ w * 2 ^ w) = x % 2 ^ w + x / 2 ^ w % 2 ^ w := Nat.mod_eq_of_lt (by omega)
    have hq : (x % 2 ^ w + x / 2 ^ w % 2 ^ w) / (2 ^ w * 2 ^ w) = 0 := Nat.div_eq_of_lt (by omega)
    rw [Nat.pow_add, show nsum w (n + 1) x = (x % 2 ^ w + x / 2 ^ w % 2 ^ w) + 2 ^ w * 2 ^ w * nsum w n (x / 2 ^ w / 2 ^ w) from rfl, Nat.add_mul_mod_self_left, Nat.add_mul_div_left _ _ (by omega), hr, hq, Nat.zero_add, ih, Nat.add_assoc]
theorem nsum_dmax (w m : Nat) (hw : 1 ≤ w) (hm : m + m < 2 ^ w * 2 ^ w) : ∀ (n x : Nat), dmax w m (n + n) x → dmax (w + w) (m + m) n (nsum w n x)
  | 0, x, h => rfl
  | n + 1, x, h => by
    rw [show n + 1 + (n + 1) = (n + n) + 1 + 1 by omega] at h
    obtain ⟨h1, h2, h3⟩ := h
    have ih := nsum_dmax w m hw hm n _ h3
    have hp : 0 < 2 ^ w * 2 ^ w := by omega
    refine ⟨?_, ?_⟩
    · rw [Nat.pow_add, show nsum w (n + 1) x = (x % 2 ^ w + x / 2 ^ w % 2 ^ w) + 2 ^ w * 2 ^ w * nsum w n (x / 2 ^ w / 2 ^ w) from rfl, Nat.add_mul_mod_self_left, Nat.mod_eq_of_lt (by omega)]
      omega
    · rw [Nat.pow_add, show nsum w (n + 1) x = (x % 2 ^ w + x / 2 ^ w % 2 ^ w) + 2 ^ w * 2 ^ w * nsum w n (x / 2 ^ w / 2 ^ w) from rfl, Nat.add_mul_div_left _ _ hp, Nat.div_eq_of_lt (by omega), Nat.zero_add]
      exact ih
theorem nmask_at (w n x : Nat) (hw : 1 ≤ w) : x &&& nmask w (n + 1) = x % 2 ^ w + 2 ^ w * 2 ^ w * ((x / 2 ^ w / 2 ^ w) &&& nmask w n) := by
  have hp : 0 < 2 ^ w := Nat.two_pow_pos w
  have hlt : 2 ^ w - 1 < 2 ^ (w + w) := by rw [Nat.pow_add]; have := Nat.mul_le_mul_left (2 ^ w) hp; omega
  have e : x = x % 2 ^ (w + w) + 2 ^ (w + w) * (x / 2 ^ w / 2 ^ w) := by
    rw [Nat.div_div_eq_div_mul, ← Nat.pow_add]
    exact (Nat.mod_add_div x _).symm
  have h1 : x &&& nmask w (n + 1) = (x % 2 ^ (w + w) + 2 ^ (w + w) * (x / 2 ^ w / 2 ^ w)) &&& ((2 ^ w - 1) + 2 ^ (w + w) * nmask w n) := by
    rw [← e, Nat.pow_add]
    rfl
  rw [h1, land_split (Nat.mod_lt _ (Nat.two_pow_pos _)) hlt, Nat.and_two_pow_sub_one_eq_mod, Nat.pow_add, Nat.mod_mul_right_mod]
/-- Shift and mask, twice. -/
theorem nsum_of (w : Nat) (hw : 1 ≤ w) : ∀ (n x : Nat), ((x / 2 ^ w) &&& nmask w n) + (x &&& nmask w n) = nsum w n x
  | 0, x => by simp [nmask, nsum]
  | n + 1, x => by
    have ih := nsum_of w hw n (x / 2 ^ w / 2 ^ w)
    rw [nmask_at w n _ hw, nmask_at w n x hw]
    show _ = (x % 2 ^ w + x / 2 ^ w % 2 ^ w) + 2 ^ w * 2 ^ w * nsum w n (x / 2 ^ w / 2 ^ w)
    rw [← ih, Nat.mul_add]
    omega
/-- Shift, add, mask: where there is room for the sums. -/
theorem nsum_of2 (w m : Nat) (hw : 1 ≤ w) (hm : m + m < 2 ^ w) : ∀ (n x : Nat), dmax w m (n + n) x → ((x / 2 ^ w + x) &&& nmask w n) = nsum w n x
  | 0, x, h => by simp [nmask, nsum]
  | n + 1, x, h => by
    rw [show n + 1 + (n + 1) = (n + n) + 1 + 1 by omega] at h
    obtain ⟨h1, h2, h3⟩ := h
    have ih := nsum_of2 w m hw hm n _ h3
    have h4 : x / 2 ^ w / 2 ^ w % 2 ^ w ≤ m := by
      cases n with
      | zero => have : x / 2 ^ w / 2 ^ w = 0 := h3; rw [this]; simp
      | succ n => rw [show n + 1 + (n + 1) = (n + n + 1) + 1 by omega] at h3; exact h3.1
    rw [nmask_at w n _ hw]
    show _ = (x % 2 ^ w + x / 2 ^ w % 2 ^ w) + 2 ^ w * 2 ^ w * nsum w n (x / 2 ^ w / 2 ^ w)
    generalize hp : 2 ^ w = p at *
    have hp0 : 0 < p := by omega
    have e0 : x = x % p + p * (x / p) := (Nat.mod_add_div x p).symm
    have e1 : x / p = x / p % p + p * (x / p / p) := (Nat.mod_add_div _ p).symm
    have e2 : x / p / p = x / p / p % p + p * (x / p / p / p) := (Nat.mod_add_div _ p).symm
    generalize x % p = d0 at *
    generalize x / p = y at *
    generalize y % p = d1 at *
    generalize hz : y / p = z at *
    generalize z % p = d2 at *
    generalize z / p = u at *
    have s1 : y + x = (d0 + d1) + p * (z + y) := by rw [e0, Nat.mul_add]; omega
    have s2 : z + y = (d1 + d2) + p * (u + z) := by rw [e1]; rw [Nat.mul_add, ← Nat.add_assoc]; omega
    have m1 : (y + x) % p = d0 + d1 := by rw [s1, Nat.add_mul_mod_self_left, Nat.mod_eq_of_lt (by omega)]
    have m2 : (y + x) / p = z + y := by rw [s1, Nat.add_mul_div_left _ _ hp0, Nat.div_eq_of_lt (by omega), Nat.zero_add]
    have m3 : (z + y) / p = u + z := by rw [s2, Nat.add_mul_div_left _ _ hp0, Nat.div_eq_of_lt (by omega), Nat.zero_add]
    rw [m1, m2, m3, ih]
theorem dmax_one : ∀ (n x : Nat), x < 2 ^ n → dmax 1 1 n x
  | 0, x, h => by simp at h; exact h
  | n + 1, x, h => ⟨by omega, dmax_one n _ (by rw [Nat.pow_succ] at h; omega)⟩
theorem dsum_one : ∀ (n x : Nat), dsum 1 n x = ((List.range n).filter (fun k => x.testBit k)).length
  | 0, x => rfl
  | n + 1, x => by
    have ih := dsum_one n (x / 2)
    have hf : ((fun k => x.testBit k) ∘ Nat.succ) = fun k => (x / 2).testBit k := by
      funext k
      exact Nat.testBit_succ x k
    rw [List.range_succ_eq_map, List.filter_cons, List.filter_map, hf]
    show x % 2 ^ 1 + dsum 1 n (x / 2 ^ 1) = _
    rw [show 2 ^ 1 = 2 from rfl, ih, Nat.testBit_zero]
    rcases Nat.mod_two_eq_zero_or_one x with h | h
    · rw [h, if_neg (by decide), List.length_map]
      omega
    · rw [h, if_pos (by decide), List.length_cons, List.length_map]
      omega
set_option maxHeartbeats 2000000 in
/-- The last sums. -/
theorem fold8 (y : Nat) (h : dmax 8 8 8 y) : (y + y / 256 + (y + y / 256) / 65536 + (y + y / 256 + (y + y / 256) / 65536) / 4294967296) % 128 = dsum 8 8 y ∧ y < 18446744073709551616 / 16 := by
  simp only [dmax, show (2 : Nat) ^ 8 = 256 from rfl] at h
  simp only [dsum, show (2 : Nat) ^ 8 = 256 from rfl]
  obtain ⟨h0, h1, h2, h3, h4, h5, h6, h7, h8⟩ := h
  have q0 := Nat.mod_add_div y 256
  generalize y / 256 = y1 at *
  have q1 := Nat.mod_add_div y1 256
  generalize y1 / 256 = y2 at *
  have q2 := Nat.mod_add_div y2 256
  generalize y2 / 256 = y3 at *
  have q3 := Nat.mod_add_div y3 256
  generalize y3 / 256 = y4 at *
  have q4 := Nat.mod_add_div y4 256
  generalize y4 / 256 = y5 at *
  have q5 := Nat.mod_add_div y5 256
  generalize y5 / 256 = y6 at *
  have q6 := Nat.mod_add_div y6 256
  generalize y6 / 256 = y7 at *
  generalize y % 256 = e0 at *
  generalize y1 % 256 = e1 at *
  generalize y2 % 256 = e2 at *
  generalize y3 % 256 = e3 at *
  generalize y4 % 256 = e4 at *
  generalize y5 % 256 = e5 at *
  generalize y6 % 256 = e6 at *
  have q7 : y7 % 256 = y7 := by clear q0 q1 q2 q3 q4 q5 q6; omega
  have t7 : y7 ≤ 8 := by rw [← q7]; exact h7
  rw [q7]
  clear h7 h8 q7
  have b1 : y + y1 = (e0 + e1 + 256 * (e1 + e2)) + 65536 * (y2 + y3) := by omega
  have a1 : (y + y1) / 65536 = y2 + y3 := by rw [b1, Nat.add_mul_div_left _ _ (by decide), Nat.div_eq_of_lt (by omega), Nat.zero_add]
  rw [a1]
  have c2 : y2 + y3 = (e2 + e3 + 256 * (e3 + e4)) + 65536 * (y4 + y5) := by omega
  have b2 : y + y1 + (y2 + y3) = (e0 + e1 + 256 * (e1 + e2) + (e2 + e3 + 256 * (e3 + e4)) + 65536 * (e2 + e3 + 256 * (e3 + e4) + (e4 + e5 + 256 * (e5 + e6)))) + 4294967296 * (y4 + y5 + (y6 + y7)) := by
    have c3 : y4 + y5 = (e4 + e5 + 256 * (e5 + e6)) + 65536 * (y6 + y7) := by omega
    omega
  have a2 : (y + y1 + (y2 + y3)) / 4294967296 = y4 + y5 + (y6 + y7) := by rw [b2, Nat.add_mul_div_left _ _ (by decide), Nat.div_eq_of_lt (by omega), Nat.zero_add]
  rw [a2]
  clear b1 a1 b2 a2 c2
  refine ⟨?_, by omega⟩
  omega
def popc (x : Nat) : Nat := ((List.range 64).filter (fun k => x.testBit k)).length
theorem popc_le (x : Nat) : popc x ≤ 64 := by
  unfold popc
  exact Nat.le_trans (List.length_filter_le _ _) (by simp)
set_option maxHeartbeats 2000000 in
/-- All steps. -/
theorem popc_steps (x : Nat) (hx : x < 18446744073709551616) : ∃ y1 y2 y3 : Nat, ((x / 2) &&& 6148914691236517205) + (x &&& 6148914691236517205) = y1 ∧ ((y1 / 4) &&& 3689348814741910323) + (y1 &&& 3689348814741910323) = y2 ∧ ((y2 / 16 + y2) &&& 1085102592571150095) = y3 ∧
    (y3 + y3 / 256 + (y3 + y3 / 256) / 65536 + (y3 + y3 / 256 + (y3 + y3 / 256) / 65536) / 4294967296) % 128 = popc x ∧ y1 < 18446744073709551616 ∧ y2 < 9223372036854775808 ∧ y3 < 18446744073709551616 / 16 := by
  have hm1 : nmask 1 32 = 6148914691236517205 := by decide +kernel
  have hm2 : nmask 2 16 = 3689348814741910323 := by decide +kernel
  have hm3 : nmask 4 8 = 1085102592571150095 := by decide +kernel
  have d0 := dmax_one 64 x hx
  have d1 := nsum_dmax 1 1 (by decide) (by decide) 32 x d0
  have s1 := nsum_dsum 1 (by decide) 32 x
  have v1 := nsum_of 1 (by decide) 32 x
  generalize nsum 1 32 x = y1 at *
  have d2 := nsum_dmax 2 2 (by decide) (by decide) 16 y1 d1
  have s2 := nsum_dsum 2 (by decide) 16 y1
  have v2 := nsum_of 2 (by decide) 16 y1
  generalize nsum 2 16 y1 = y2 at *
  have d3 := nsum_dmax 4 4 (by decide) (by decide) 8 y2 d2
  have s3 := nsum_dsum 4 (by decide) 8 y2
  have v3 := nsum_of2 4 4 (by decide) (by decide) 8 y2 d2
  generalize nsum 4 8 y2 = y3 at *
  obtain ⟨f1, f2⟩ := fold8 y3 d3
  rw [hm1] at v1
  rw [hm2] at v2
  rw [hm3] at v3
  have hlt : ∀ a m : Nat, a &&& m ≤ m := fun a m => Nat.and_le_right
  refine ⟨y1, y2, y3, v1, v2, v3, ?_, ?_, ?_, f2⟩
  · rw [f1]
    show dsum (4 + 4) 8 y3 = _
    rw [s3]
    show dsum (2 + 2) 16 y2 = _
    rw [s2]
    show dsum (1 + 1) 32 y1 = _
    rw [s1]
    exact dsum_one 64 x
  · have := hlt (x / 2 ^ 1) 6148914691236517205
    have := hlt x 6148914691236517205
    omega
  · have := hlt (y1 / 2 ^ 2) 3689348814741910323
    have := hlt y1 3689348814741910323
    omega
end Go.Proofs.YtecnnfhebcnkbaaDoor
