/-
  A wheel of what is due: no program in sight.
-/
import Derived.Test.YtecnjhmpipfldaaFwB
namespace Go.Proofs.Ytecnjhmpipfldaa
set_option linter.unusedVariables false
set_option linter.unusedSimpArgs false
/-- A thing that is due: its Id, its time. -/
structure Du where
  (id t : Int)
deriving DecidableEq
abbrev Du.enc (d : Du) : List DV := [.v (.int .i64 d.id), .v (.int .i64 d.t)]
/-- The list of a time: digit by digit, the uppermost first; so many digits are left. -/
def lisR (n m : Nat) : Nat → Int
  | 0 => -1
  | k + 1 => if n / 16 ^ k % 16 = m / 16 ^ k % 16 then lisR n m k else 16 * (k : Int) + ((m / 16 ^ k % 16 : Nat) : Int)
def listOf (now t : Int) : Int := lisR now.toNat t.toNat 6
theorem lisR_at {n m k : Nat} (hne : n / 16 ^ k % 16 ≠ m / 16 ^ k % 16) : ∀ q, k < q → (∀ j, k < j → j < q → n / 16 ^ j % 16 = m / 16 ^ j % 16) → lisR n m q = 16 * (k : Int) + ((m / 16 ^ k % 16 : Nat) : Int)
  | 0, h, _ => absurd h (Nat.not_lt_zero _)
  | q + 1, h, hs => by
    by_cases e : k = q
    · subst e
      rw [lisR, if_neg hne]
    · rw [lisR, if_pos (hs q (by omega) (by omega))]
      exact lisR_at hne q (by omega) (fun j h1 h2 => hs j h1 (by omega))
/-- The uppermost digit in which two numbers differ. -/
theorem digit_ex {n m : Nat} (hnm : n < m) : ∀ q, m < 16 ^ q → ∃ k, k < q ∧ n / 16 ^ k % 16 < m / 16 ^ k % 16 ∧ n / 16 ^ (k + 1) = m / 16 ^ (k + 1)
  | 0, h => by simp at h; omega
  | q + 1, h => by
    by_cases e : n / 16 ^ q = m / 16 ^ q
    · obtain ⟨k, h1, h2, h3⟩ : ∃ k, k < q ∧ n / 16 ^ k % 16 < m / 16 ^ k % 16 ∧ n / 16 ^ (k + 1) = m / 16 ^ (k + 1) := by
        have hd := digit_ex (n := n % 16 ^ q) (m := m % 16 ^ q) (by
          have h1 := Nat.div_add_mod n (16 ^ q)
          have h2 := Nat.div_add_mod m (16 ^ q)
          rw [e] at h1
          omega) q (Nat.mod_lt _ (Nat.pow_pos (by decide)))
        obtain ⟨k, h1, h2, h3⟩ := hd
        have hp : 16 ^ q = 16 ^ (k + 1) * 16 ^ (q - (k + 1)) := by rw [← Nat.pow_add]; congr 1; omega
        have hp2 : 16 ^ q = 16 ^ k * (16 * 16 ^ (q - (k + 1))) := by rw [hp, Nat.pow_succ]; exact Nat.mul_assoc _ _ _
        have key : ∀ x : Nat, x % 16 ^ q / 16 ^ k % 16 = x / 16 ^ k % 16 := fun x => by
          rw [hp2, Nat.mod_mul_right_div_self, Nat.mod_mul_right_mod]
        refine ⟨k, h1, by rw [← key n, ← key m]; exact h2, ?_⟩
        have e1 := Nat.div_add_mod n (16 ^ q)
        have e2 := Nat.div_add_mod m (16 ^ q)
        have f1 : n / 16 ^ (k + 1) = 16 ^ (q - (k + 1)) * (n / 16 ^ q) + n % 16 ^ q / 16 ^ (k + 1) := by
          conv => lhs; rw [← e1]
          rw [Nat.add_comm]
          conv => lhs; rw [hp, Nat.mul_assoc, Nat.add_mul_div_left _ _ (Nat.pow_pos (by decide))]
          rw [← hp, Nat.add_comm]
        have f2 : m / 16 ^ (k + 1) = 16 ^ (q - (k + 1)) * (m / 16 ^ q) + m % 16 ^ q / 16 ^ (k + 1) := by
          conv => lhs; rw [← e2]
          rw [Nat.add_comm]
          conv => lhs; rw [hp, Nat.mul_assoc, Nat.add_mul_div_left _ _ (Nat.pow_pos (by decide))]
          rw [← hp, Nat.add_comm]
        rw [f1, f2, e, h3]
      exact ⟨k, by omega, h2, h3⟩
    · refine ⟨q, Nat.lt_succ_self q, ?_, ?_⟩
      · have hm : m / 16 ^ q < 16 := Nat.div_lt_of_lt_mul (by rw [← Nat.pow_succ]; exact h)
        have hle : n / 16 ^ q ≤ m / 16 ^ q := Nat.div_le_div_right (Nat.le_of_lt hnm)
        rw [Nat.mod_eq_of_lt (by omega), Nat.mod_eq_of_lt hm]
        omega
      · rw [Nat.div_eq_of_lt (by omega), Nat.div_eq_of_lt h]
/-- What is the same above is the same digit by digit. -/
theorem above {n m k : Nat} (h : n / 16 ^ (k + 1) = m / 16 ^ (k + 1)) {j : Nat} (hj : k < j) : n / 16 ^ j = m / 16 ^ j := by
  have e : 16 ^ j = 16 ^ (k + 1) * 16 ^ (j - (k + 1)) := by rw [← Nat.pow_add]; congr 1; omega
  rw [e, ← Nat.div_div_eq_div_mul, ← Nat.div_div_eq_div_mul, h]
theorem lisR_of {n m k q : Nat} (hk : k < q) (h1 : n / 16 ^ k % 16 ≠ m / 16 ^ k % 16) (h2 : n / 16 ^ (k + 1) = m / 16 ^ (k + 1)) : lisR n m q = 16 * (k : Int) + ((m / 16 ^ k % 16 : Nat) : Int) :=
  lisR_at h1 q hk (fun j hj _ => by rw [above h2 hj])
theorem xor_zero {n m : Nat} : n ^^^ m = 0 ↔ n = m := by
  constructor
  · intro h
    apply Nat.eq_of_testBit_eq
    intro i
    have h1 := congrArg (fun x => Nat.testBit x i) h
    simp only [Nat.testBit_xor, Nat.zero_testBit] at h1
    cases h2 : n.testBit i <;> cases h3 : m.testBit i <;> simp [h2, h3] at h1 ⊢
  · rintro rfl
    exact Nat.xor_self n
/-- The program's word for it. -/
theorem lis_log {n m : Nat} (hnm : n < m) (hm : m < 16777216) : lisR n m 6 = 16 * ((Nat.log2 (n ^^^ m) / 4 : Nat) : Int) + ((m / 16 ^ (Nat.log2 (n ^^^ m) / 4) % 16 : Nat) : Int) := by
  have hx : n ^^^ m ≠ 0 := fun e => by
    have := xor_zero.1 e
    omega
  have hlt : n ^^^ m < 2 ^ 24 := Nat.xor_lt_two_pow (by omega) (by omega)
  generalize hL : Nat.log2 (n ^^^ m) = L
  have h1 : 2 ^ L ≤ n ^^^ m := by rw [← hL]; exact Nat.log2_self_le hx
  have h2 : n ^^^ m < 2 ^ (L + 1) := by rw [← hL]; exact Nat.lt_log2_self
  have h24 : L < 24 := (Nat.pow_lt_pow_iff_right (by decide : 1 < 2)).1 (Nat.lt_of_le_of_lt h1 hlt)
  have sh : ∀ x j : Nat, x / 16 ^ j = x >>> (4 * j) := fun x j => by rw [Nat.shiftRight_eq_div_pow, Nat.pow_mul]
  have hxs : ∀ j : Nat, (n ^^^ m) >>> (4 * j) = n >>> (4 * j) ^^^ m >>> (4 * j) := fun j => Nat.shiftRight_xor_distrib
  have up : n / 16 ^ (L / 4 + 1) = m / 16 ^ (L / 4 + 1) := by
    rw [sh, sh]
    apply xor_zero.1
    rw [← hxs, Nat.shiftRight_eq_div_pow]
    exact Nat.div_eq_of_lt (Nat.lt_of_lt_of_le h2 (Nat.pow_le_pow_right (by decide) (by omega)))
  have ne : n / 16 ^ (L / 4) ≠ m / 16 ^ (L / 4) := fun e => by
    rw [sh, sh] at e
    have h3 := xor_zero.2 e
    rw [← hxs, Nat.shiftRight_eq_div_pow] at h3
    have h4 : 2 ^ (4 * (L / 4)) ≤ n ^^^ m := Nat.le_trans (Nat.pow_le_pow_right (by decide) (by omega)) h1
    have h5 := Nat.div_pos h4 (Nat.pow_pos (by decide))
    omega
  refine lisR_of (by omega) (fun e => ne ?_) up
  rw [Nat.pow_succ, ← Nat.div_div_eq_div_mul, ← Nat.div_div_eq_div_mul] at up
  omega
theorem lis_rng {n m : Nat} (hnm : n < m) (hm : m < 16777216) : 0 ≤ lisR n m 6 ∧ lisR n m 6 < 96 := by
  obtain ⟨k, h1, h2, h3⟩ := digit_ex hnm 6 (by simpa using hm)
  rw [lisR_of h1 (Nat.ne_of_lt h2) h3]
  omega
/-! A wheel of 96 lists. -/
abbrev WL := List (List Du)
def fil (now i : Int) (l : List Du) : List Du := l.filter fun d => decide (listOf now d.t = i)
/-- What the reference makes of things. -/
def wof (now : Int) (l : List Du) : WL := (List.range 96).map fun (i : Nat) => fil now i l
theorem wof_len (now : Int) (l : List Du) : (wof now l).length = 96 := by simp [wof]
theorem wof_get (now : Int) (l : List Du) {i : Nat} (h : i < 96) : (wof now l)[i]? = some (fil now i l) := by
  unfold wof
  rw [List.getElem?_map, List.getElem?_range h]
  rfl
/-- Each thing stands in its list. -/
def Stands (now : Int) (L : WL) : Prop := ∀ (i : Nat) (l : List Du), L[i]? = some l → ∀ d ∈ l, listOf now d.t = (i : Nat)
theorem fil_flat (now : Int) : ∀ (L : WL) (o i : Nat), (∀ (j : Nat) (l : List Du), L[j]? = some l → ∀ d ∈ l, listOf now d.t = ((o + j : Nat) : Int)) → fil now ((o + i : Nat) : Int) L.flatten = (L[i]?).getD []
  | [], o, i, h => by simp [fil]
  | l :: r, o, i, h => by
    have h0 := h 0 l rfl
    have hr : ∀ (j : Nat) (l' : List Du), r[j]? = some l' → ∀ d ∈ l', listOf now d.t = (((o + 1) + j : Nat) : Int) := fun j l' hj d hd => by
      rw [h (j + 1) l' (by simpa using hj) d hd]
      congr 1
      omega
    have e : fil now ((o + i : Nat) : Int) (l :: r).flatten = fil now ((o + i : Nat) : Int) l ++ fil now ((o + i : Nat) : Int) r.flatten := by
      simp [fil]
    rw [e]
    cases i with
    | zero =>
      have e1 : fil now ((o + 0 : Nat) : Int) l = l := by
        unfold fil
        rw [List.filter_eq_self]
        intro d hd
        exact decide_eq_true (h0 d hd)
      have e2 : fil now ((o + 0 : Nat) : Int) r.flatten = [] := by
        unfold fil
        rw [List.filter_eq_nil_iff]
        intro d hd
        obtain ⟨l', hl', hd'⟩ := List.mem_flatten.1 hd
        obtain ⟨j, hj⟩ := List.mem_iff_getElem?.1 hl'
        have := hr j l' hj d hd'
        simp only [decide_eq_true_eq]
        omega
      rw [e1, e2]
      simp
    | succ i =>
      have e1 : fil now ((o + (i + 1) : Nat) : Int) l = [] := by
        unfold fil
        rw [List.filter_eq_nil_iff]
        intro d hd
        have := h0 d hd
        simp only [decide_eq_true_eq]
        omega
      have ih := fil_flat now r (o + 1) i hr
      rw [e1, show o + (i + 1) = o + 1 + i by omega, ih]
      simp
theorem wof_eq (now : Int) (L : WL) (h96 : L.length = 96) : wof now L.flatten = L ↔ Stands now L := by
  constructor
  · intro h i l hi d hd
    have hlt : i < 96 := by rw [← h96]; exact (List.getElem?_eq_some_iff.1 hi).1
    have h2 := wof_get now L.flatten hlt
    rw [h, hi] at h2
    rw [Option.some.inj h2] at hd
    exact of_decide_eq_true (List.mem_filter.1 hd).2
  · intro h
    apply List.ext_getElem?
    intro i
    by_cases hlt : i < 96
    · rw [wof_get now _ hlt]
      have := fil_flat now L 0 i (fun j l hj d hd => by rw [Nat.zero_add]; exact h j l hj d hd)
      rw [Nat.zero_add] at this
      rw [this]
      obtain ⟨l, hl⟩ : ∃ l, L[i]? = some l := ⟨_, List.getElem?_eq_getElem (by omega)⟩
      rw [hl]
      rfl
    · rw [List.getElem?_eq_none (by rw [wof_len]; omega), List.getElem?_eq_none (by omega)]
/-- What Check and WheelRight answer. -/
def Fair (now : Int) (F : List Du) : Prop := (∀ d ∈ F, now < d.t ∧ d.t ≤ 16777215) ∧ (F.map Du.id).Nodup
open Classical in
noncomputable def wchk (now : Int) (L : WL) : Int := if 500 < L.flatten.length then 2 else if ¬ (0 ≤ now ∧ now ≤ 16777215) then 1 else if Fair now L.flatten ∧ Stands now L then 0 else 4
theorem wchk_cases (now : Int) (L : WL) : (500 < L.flatten.length ∧ wchk now L = 2) ∨ (L.flatten.length ≤ 500 ∧ ¬ (0 ≤ now ∧ now ≤ 16777215) ∧ wchk now L = 1) ∨
    (L.flatten.length ≤ 500 ∧ 0 ≤ now ∧ now ≤ 16777215 ∧ Fair now L.flatten ∧ Stands now L ∧ wchk now L = 0) ∨ (L.flatten.length ≤ 500 ∧ 0 ≤ now ∧ now ≤ 16777215 ∧ ¬ (Fair now L.flatten ∧ Stands now L) ∧ wchk now L = 4) := by
  unfold wchk
  by_cases h1 : 500 < L.flatten.length
  · exact .inl ⟨h1, if_pos h1⟩
  · rw [if_neg h1]
    by_cases h2 : 0 ≤ now ∧ now ≤ 16777215
    · rw [if_neg (not_not_intro h2)]
      by_cases h3 : Fair now L.flatten ∧ Stands now L
      · exact .inr (.inr (.inl ⟨by omega, h2.1, h2.2, h3.1, h3.2, if_pos h3⟩))
      · exact .inr (.inr (.inr ⟨by omega, h2.1, h2.2, h3, if_neg h3⟩))
    · exact .inr (.inl ⟨by omega, h2, if_pos h2⟩)
/-! The flattened lists, up to a place. -/
theorem flat_at {L : WL} {i : Nat} {l : List Du} (h : L[i]? = some l) : L.flatten = (L.take i).flatten ++ l ++ (L.drop (i + 1)).flatten := by
  have hlt := (List.getElem?_eq_some_iff.1 h).1
  conv => lhs; rw [← List.take_append_drop i L, List.drop_eq_getElem_cons hlt]
  rw [show L[i] = l from Option.some.inj ((List.getElem?_eq_getElem hlt).symm.trans h)]
  simp
/-- One more thing. -/
theorem wof_snoc {now : Int} {L : WL} (h96 : L.length = 96) (hs : Stands now L) (d : Du) {i : Nat} (hi : i < 96) (hd : listOf now d.t = (i : Nat)) : wof now (L.flatten ++ [d]) = L.set i ((L[i]?).getD [] ++ [d]) := by
  have hw := (wof_eq now L h96).2 hs
  apply List.ext_getElem?
  intro j
  by_cases hlt : j < 96
  · have h2 := wof_get now L.flatten hlt
    rw [hw] at h2
    rw [wof_get now _ hlt, List.getElem?_set]
    have e : fil now (j : Nat) (L.flatten ++ [d]) = fil now (j : Nat) L.flatten ++ fil now (j : Nat) [d] := by simp [fil]
    rw [e]
    by_cases hij : i = j
    · subst hij
      rw [if_pos rfl, if_pos (by omega), h2]
      simp [fil, hd]
    · rw [if_neg hij, h2]
      have : ¬ ((i : Int) = (j : Int)) := by omega
      simp [fil, hd, this]
  · rw [List.getElem?_eq_none (by rw [wof_len]; omega), List.getElem?_eq_none (by simp; omega)]
end Go.Proofs.Ytecnjhmpipfldaa
