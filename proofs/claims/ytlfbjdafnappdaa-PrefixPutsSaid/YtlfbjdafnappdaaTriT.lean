/-
  Tries in plain words: finding an address; all rows.
-/
import Derived.Test.YtlfbjdafnappdaaTriS
namespace Go.Proofs.Ytlfbjdafnappdaa
set_option linter.unusedVariables false
set_option linter.unusedSimpArgs false
/-- The bits of an address, the uppermost first. -/
def bitsL (a n : Nat) : B8 := (List.range n).map (fun i => UInt8.ofNat (48 + a / 2 ^ (31 - i) % 2))
theorem bitsL_len (a n : Nat) : (bitsL a n).length = n := by simp [bitsL]
theorem bitsL_succ (a n : Nat) : bitsL a (n + 1) = bitsL a n ++ [UInt8.ofNat (48 + a / 2 ^ (31 - n) % 2)] := by simp [bitsL, List.range_succ]
theorem bitsL_take (a n : Nat) : ∀ d, d ≤ n → (bitsL a n).take d = bitsL a d := by
  induction n with
  | zero => intro d hd; obtain rfl : d = 0 := by omega
            rfl
  | succ n ih =>
    intro d hd
    by_cases e : d = n + 1
    · subst e; rw [List.take_of_length_le (by rw [bitsL_len]; omega)]
    · rw [bitsL_succ, List.take_append_of_le_length (by rw [bitsL_len]; omega), ih d (by omega)]
theorem bitsL_pre {a d : Nat} (h : d ≤ 32) : bitsL a d <+: bitsL a 32 := by
  rw [← bitsL_take a 32 d h]
  exact List.take_prefix _ _
/-- The loop of NetOf. -/
def bI (b : B8) (i : Nat) : Nat := if i < b.length ∧ b.getD i 0 = 49 then 1 else 0
def accN (b : B8) : Nat → Nat
  | 0 => 0
  | i + 1 => accN b i * 2 + bI b i
def netA (b : B8) : Nat := accN b 32
theorem accN_lt (b : B8) : ∀ i, accN b i < 2 ^ i
  | 0 => Nat.one_pos
  | i + 1 => by
    have h := accN_lt b i
    have h2 : bI b i ≤ 1 := by unfold bI; split <;> omega
    show accN b i * 2 + bI b i < _
    rw [Nat.pow_succ]
    omega
theorem bI_app (b : B8) (c : UInt8) (i : Nat) : bI (b ++ [c]) i = bI b i + if i = b.length ∧ c = 49 then 1 else 0 := by
  unfold bI
  rcases Nat.lt_trichotomy i b.length with h | h | h
  · have e : (b ++ [c]).getD i 0 = b.getD i 0 := by simp [List.getD, List.getElem?_append_left h]
    rw [e, if_neg (show ¬ (i = b.length ∧ c = 49) by omega)]
    have e2 : i < (b ++ [c]).length := by simp; omega
    simp only [h, e2, true_and, Nat.add_zero]
  · subst h
    simp [List.getD]
  · rw [if_neg (by simp; omega), if_neg (by omega), if_neg (by omega)]
theorem accN_app (b : B8) (c : UInt8) : ∀ i, accN (b ++ [c]) i = accN b i + if b.length < i ∧ c = 49 then 2 ^ (i - b.length - 1) else 0
  | 0 => by simp [accN]
  | i + 1 => by
    show accN (b ++ [c]) i * 2 + bI (b ++ [c]) i = accN b i * 2 + bI b i + _
    rw [accN_app b c i, bI_app]
    by_cases hc : c = 49
    · simp only [hc, and_true]
      rcases Nat.lt_trichotomy i b.length with h | h | h
      · rw [if_neg (by omega), if_neg (by omega), if_neg (by omega)]; omega
      · rw [if_neg (by omega), if_pos h, if_pos (by omega), show i + 1 - b.length - 1 = 0 by omega]; omega
      · rw [if_pos (by omega), if_neg (by omega), if_pos (by omega), show i + 1 - b.length - 1 = (i - b.length - 1) + 1 by omega, Nat.pow_succ]; omega
    · simp only [hc, and_false, if_false]; omega
theorem netA_0 (b : B8) : netA (b ++ [48]) = netA b := by
  unfold netA
  rw [accN_app, if_neg (by simp)]
  rfl
theorem netA_1 (b : B8) (h : b.length ≤ 31) : netA (b ++ [49]) = netA b + 2 ^ (31 - b.length) := by
  unfold netA
  rw [accN_app, if_pos ⟨by omega, rfl⟩, show 32 - b.length - 1 = 31 - b.length by omega]
theorem netA_lt (b : B8) : netA b < 4294967296 := accN_lt b 32
theorem netA_nil : netA [] = 0 := by decide
theorem accN_mod (b : B8) : ∀ k, accN b (b.length + k) = accN b b.length * 2 ^ k
  | 0 => by simp
  | k + 1 => by
    show accN b (b.length + k) * 2 + bI b (b.length + k) = _
    have : bI b (b.length + k) = 0 := by unfold bI; rw [if_neg (by omega)]
    rw [accN_mod b k, this, Nat.pow_succ]
    simp [Nat.mul_assoc]
theorem netA_mul (b : B8) (h : b.length ≤ 32) : netA b = accN b b.length * 2 ^ (32 - b.length) := by
  have := accN_mod b (32 - b.length)
  rwa [show b.length + (32 - b.length) = 32 by omega] at this
theorem netA_bits (a : Nat) (ha : a < 4294967296) : ∀ d, d ≤ 32 → netA (bitsL a d) = a / 2 ^ (32 - d) * 2 ^ (32 - d)
  | 0, _ => by
    show netA [] = _
    rw [netA_nil, Nat.div_eq_of_lt (show a < 2 ^ (32 - 0) from ha), Nat.zero_mul]
  | d + 1, h => by
    have ih := netA_bits a ha d (by omega)
    have hl := bitsL_len a d
    have hp : 2 ^ (32 - d) = 2 ^ (31 - d) * 2 := by rw [← Nat.pow_succ, show (31 - d).succ = 32 - d by omega]
    have hq : a / 2 ^ (32 - d) = a / 2 ^ (31 - d) / 2 := by rw [Nat.div_div_eq_div_mul, hp]
    rw [bitsL_succ, show 32 - (d + 1) = 31 - d by omega]
    generalize a / 2 ^ (31 - d) = q at *
    have key : q / 2 * (2 ^ (31 - d) * 2) + q % 2 * 2 ^ (31 - d) = q * 2 ^ (31 - d) := by
      have : q = q / 2 * 2 + q % 2 := by omega
      conv => rhs; rw [this]
      rw [Nat.add_mul, Nat.mul_assoc, Nat.mul_comm 2]
    rcases Nat.mod_two_eq_zero_or_one q with h0 | h0
    · rw [h0, show UInt8.ofNat (48 + 0) = 48 by rfl, netA_0, ih, hq, hp]
      rw [h0] at key
      omega
    · rw [h0, show UInt8.ofNat (48 + 1) = 49 by rfl, netA_1 _ (by omega), ih, hq, hp, hl]
      rw [h0] at key
      omega
/-- The program's search. -/
def findT (a : Nat) : Tr → Nat → Option (Nat × Int) → Option (Nat × Int)
  | .nil, _, best => best
  | .node l r s v, d, best => if a / 2 ^ (31 - d) % 2 = 0 then findT a l (d + 1) (if s = true then some (d, v) else best) else findT a r (d + 1) (if s = true then some (d, v) else best)
/-- One step of the reference's. -/
def stepR (bits : B8) (st : Option Rw) (r : Rw) : Option Rw := if r.1 <+: bits ∧ (st = none ∨ (st.getD ([], 0)).1.length < r.1.length) then some r else st
def upR (a : Nat) (st : Option (Nat × Int)) : Option Rw := st.map (fun x => (bitsL a x.1, x.2))
theorem find_off (bits : B8) : ∀ (T : Tr) (b : B8) (st : Option Rw), ¬ b <+: bits → (rowsT T b).foldl (stepR bits) st = st := by
  intro T b st hb
  have : ∀ (rows : List Rw) (st : Option Rw), (∀ r ∈ rows, ¬ r.1 <+: bits) → rows.foldl (stepR bits) st = st := by
    intro rows
    induction rows with
    | nil => intro st _; rfl
    | cons r t ih =>
      intro st h
      rw [List.foldl_cons, ih _ (fun r hr => h r (List.mem_cons_of_mem _ hr))]
      unfold stepR
      rw [if_neg (fun e => h r List.mem_cons_self e.1)]
  refine this _ st fun r hr => ?_
  obtain ⟨q, _, _, e, -⟩ := (mem_rowsT T b r).1 hr
  intro h
  rw [e] at h
  exact hb ((List.prefix_append b q).trans h)
theorem find_eq (a : Nat) : ∀ (T : Tr) (d : Nat) (st : Option (Nat × Int)), d + T.deep ≤ 33 → (∀ x, st = some x → x.1 < d) → (rowsT T (bitsL a d)).foldl (stepR (bitsL a 32)) (upR a st) = upR a (findT a T d st)
  | .nil, d, st, _, _ => rfl
  | .node l r s v, d, st, hd, hst => by
    simp only [Tr.deep] at hd
    have hpre : bitsL a d <+: bitsL a 32 := bitsL_pre (by omega)
    have hset : (if s = true then [(bitsL a d, v)] else [] : List Rw).foldl (stepR (bitsL a 32)) (upR a st) = upR a (if s = true then some (d, v) else st) := by
      cases s
      · rfl
      · show stepR _ (upR a st) (bitsL a d, v) = some (bitsL a d, v)
        unfold stepR
        rw [if_pos]
        refine ⟨hpre, ?_⟩
        cases st with
        | none => exact .inl rfl
        | some x => exact .inr (by show (bitsL a x.1).length < (bitsL a d).length; rw [bitsL_len, bitsL_len]; exact hst x rfl)
    have hst' : ∀ x, (if s = true then some (d, v) else st) = some x → x.1 < d + 1 := fun x hx => by
      split at hx
      · obtain rfl := Option.some.inj hx; exact Nat.lt_succ_self d
      · exact Nat.lt_succ_of_lt (hst x hx)
    show ((if s = true then [(bitsL a d, v)] else []) ++ (rowsT l (bitsL a d ++ [48]) ++ rowsT r (bitsL a d ++ [49]))).foldl _ _ = _
    rw [List.foldl_append, List.foldl_append, hset]
    unfold findT
    generalize (if s = true then some (d, v) else st) = st1 at *
    have hsucc := bitsL_succ a d
    have hno : ∀ c : UInt8, ∀ T : Tr, T.deep ≤ 32 - d → c ≠ UInt8.ofNat (48 + a / 2 ^ (31 - d) % 2) → ∀ st, (rowsT T (bitsL a d ++ [c])).foldl (stepR (bitsL a 32)) st = st := by
      intro c T hT hc st
      by_cases h32 : d = 32
      · have : T = .nil := by
          cases T with
          | nil => rfl
          | node => simp only [Tr.deep] at hT; omega
        subst this
        rfl
      · refine find_off _ T _ st fun hp => hc ?_
        have h1 := bitsL_pre (a := a) (show d + 1 ≤ 32 by omega)
        rw [hsucc] at h1
        have h2 := List.prefix_of_prefix_length_le hp h1 (by simp)
        have h3 := List.IsPrefix.eq_of_length h2 (by simp)
        have := List.append_cancel_left h3
        simpa using this
    rcases Nat.mod_two_eq_zero_or_one (a / 2 ^ (31 - d)) with h0 | h0
    · rw [if_pos h0, hno 49 r (by omega) (by rw [h0]; decide)]
      rw [h0] at hsucc
      rw [show bitsL a d ++ [48] = bitsL a (d + 1) from hsucc.symm]
      exact find_eq a l (d + 1) st1 (by omega) hst'
    · rw [if_neg (by omega), hno 48 l (by omega) (by rw [h0]; decide)]
      rw [h0] at hsucc
      rw [show bitsL a d ++ [49] = bitsL a (d + 1) from hsucc.symm]
      exact find_eq a r (d + 1) st1 (by omega) hst'
/-- The program's walk over all. -/
def allT : Tr → Nat → Nat → List (Nat × Nat × Int)
  | .nil, _, _ => []
  | .node l r s v, a, d => (if s = true then [(a, d, v)] else []) ++ (allT l a (d + 1) ++ allT r (a + 2 ^ (31 - d)) (d + 1))
theorem all_eq : ∀ (T : Tr) (b : B8), b.length + T.deep ≤ 33 → allT T (netA b) b.length = (rowsT T b).map (fun r => (netA r.1, r.1.length, r.2))
  | .nil, b, _ => rfl
  | .node l r s v, b, h => by
    simp only [Tr.deep] at h
    have h0 : b.length + 1 = (b ++ [48]).length := by simp
    have h1 : b.length + 1 = (b ++ [49]).length := by simp
    unfold allT rowsT
    rw [List.map_append, List.map_append]
    have e0 := all_eq l (b ++ [48]) (by simp; omega)
    rw [netA_0, ← h0] at e0
    rw [e0]
    have e1 : allT r (netA b + 2 ^ (31 - b.length)) (b.length + 1) = (rowsT r (b ++ [49])).map (fun r => (netA r.1, r.1.length, r.2)) := by
      by_cases h32 : b.length = 32
      · have : r = .nil := by
          cases r with
          | nil => rfl
          | node => simp only [Tr.deep] at h; omega
        subst this
        rfl
      · have e1 := all_eq r (b ++ [49]) (by simp; omega)
        rw [netA_1 b (by omega), ← h1] at e1
        exact e1
    rw [e1]
    cases s <;> rfl
end Go.Proofs.Ytlfbjdafnappdaa
