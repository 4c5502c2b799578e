/-
  The text of a plan: numbers, words and lines, in the program's way and in the reference's; no program in sight.
-/
import Derived.Test.YtbcamncabckbnaaGreatDoorAdrP
import Derived.Lib.ParseIntBCases
namespace Go.Proofs.YtbcamncabckbnaaGreatDoor
open Go
set_option linter.unusedVariables false
set_option linter.unusedSimpArgs false
theorem dec_val : ∀ n : Nat, (Lib.decDigits n).all isD = true ∧ valD (Lib.decDigits n) = n ∧ 1 ≤ (Lib.decDigits n).length := fun n => by
  induction n using Nat.strongRecOn with
  | _ n ih =>
    have hd : ∀ k, k < 10 → isD (UInt8.ofNat (48 + k)) = true ∧ (UInt8.ofNat (48 + k)).toNat - 48 = k := fun k hk => by
      have : ∀ k : Fin 10, isD (UInt8.ofNat (48 + k.val)) = true ∧ (UInt8.ofNat (48 + k.val)).toNat - 48 = k.val := by decide +kernel
      exact this ⟨k, hk⟩
    rw [Lib.decDigits]
    split
    · rename_i h
      obtain ⟨h1, h2⟩ := hd n h
      generalize UInt8.ofNat (48 + n) = c at *
      exact ⟨by simp [h1], by simpa [valD] using h2, by simp⟩
    · rename_i h
      obtain ⟨i1, i2, i3⟩ := ih (n / 10) (by omega)
      obtain ⟨h1, h2⟩ := hd (n % 10) (Nat.mod_lt _ (by decide))
      generalize UInt8.ofNat (48 + n % 10) = c at *
      refine ⟨by simp [i1, h1], ?_, by simp⟩
      have : valD (Lib.decDigits (n / 10) ++ [c]) = 10 * valD (Lib.decDigits (n / 10)) + (c.toNat - 48) := by
        unfold valD
        rw [List.foldl_append]
        rfl
      rw [this, i2, h2]
      omega
/-- Digits so many that they fit are read as what they spell. -/
theorem pum (M : Nat) (hM : M ≤ 18446744073709551615) : ∀ (l : List UInt8) (acc : Nat), l.all isD = true → l.foldl (fun a b => 10 * a + (b.toNat - 48)) acc ≤ M → Lib.parseUintM M acc l = .ok (l.foldl (fun a b => 10 * a + (b.toNat - 48)) acc)
  | [], acc, _, _ => rfl
  | b :: l, acc, hd, hm => by
    have hb : 48 ≤ b.toNat ∧ b.toNat ≤ 57 := of_decide_eq_true (List.all_eq_true.1 hd b (by simp))
    have hl : l.all isD = true := List.all_eq_true.2 fun x hx => List.all_eq_true.1 hd x (by simp [hx])
    have hmono : ∀ (l : List UInt8) (a : Nat), a ≤ l.foldl (fun a b => 10 * a + (b.toNat - 48)) a := fun l => by
      induction l with
      | nil => intro a; exact Nat.le_refl _
      | cons c r ih => intro a; exact Nat.le_trans (show a ≤ 10 * a + (c.toNat - 48) by omega) (ih _)
    have h1 := hmono l (10 * acc + (b.toNat - 48))
    rw [List.foldl_cons] at hm ⊢
    rw [Lib.parseUintM, if_pos hb, if_neg (by omega), if_neg (by omega), Nat.mul_comm acc 10]
    exact pum M hM l _ hl hm
theorem pub_dec (n : Nat) (h : n ≤ 18446744073709551615) : Lib.parseUintB 64 (Lib.decDigits n) = .ok n := by
  obtain ⟨h1, h2, h3⟩ := dec_val n
  unfold Lib.parseUintB
  rw [if_neg (by intro q; rw [q] at h3; simp at h3)]
  have := pum (2 ^ 64 - 1) (by decide) (Lib.decDigits n) 0 h1 (by
    show valD (Lib.decDigits n) ≤ _
    rw [h2]
    exact h)
  rw [this]
  exact congrArg _ h2
/-- A number's text in the program: is it one, and which. -/
def vOk (s : List UInt8) : Bool := match Lib.parseUintB 64 s with
  | .ok n => decide (s.length ≤ 10) && decide (Lib.decDigits n = s)
  | _ => false
def vN (s : List UInt8) : Int := match Lib.parseUintB 64 s with
  | .ok n => IntKind.i64.wrap (n : Nat)
  | .range => -1
  | _ => 0
/-- And in the reference. -/
def rlong (s : List UInt8) : Nat × Bool :=
  if s.length < 10 then rnum s else (10 * (rnum (s.take 9)).1 + (rnum (s.drop 9)).1, (((rnum (s.take 9)).2 && (rnum (s.drop 9)).2) && decide (0 < (rnum (s.take 9)).1)) && decide (s.length = 10))
theorem rnum_dec {n : Nat} (h : (Lib.decDigits n).length ≤ 9) : rnum (Lib.decDigits n) = (n, true) := by
  obtain ⟨h1, h2, h3⟩ := dec_val n
  unfold rnum
  rw [if_pos ⟨h3, h, h1⟩, h2]
  simp
theorem rnum_inv {s : List UInt8} (h : (rnum s).2 = true) : s = Lib.decDigits (rnum s).1 ∧ s.length ≤ 9 := by
  unfold rnum at h ⊢
  split at h
  · rename_i hc
    rw [if_pos hc]
    exact ⟨(of_decide_eq_true h).symm, hc.2.1⟩
  · cases h
theorem rnum_fst_of {s : List UInt8} : (rnum s).1 < 1000000000 := by
  unfold rnum
  split
  · rename_i hc
    have hlt : ∀ (l : List UInt8) (a : Nat), l.all isD = true → l.foldl (fun a b => 10 * a + (b.toNat - 48)) a < (a + 1) * 10 ^ l.length := fun l => by
      induction l with
      | nil => intro a _; simp
      | cons b r ih =>
        intro a hd
        have hb : 48 ≤ b.toNat ∧ b.toNat ≤ 57 := of_decide_eq_true (List.all_eq_true.1 hd b (by simp))
        have := ih (10 * a + (b.toNat - 48)) (List.all_eq_true.2 fun x hx => List.all_eq_true.1 hd x (by simp [hx]))
        rw [List.foldl_cons, List.length_cons, Nat.pow_succ]
        refine Nat.lt_of_lt_of_le this ?_
        rw [← Nat.mul_assoc, Nat.mul_right_comm]
        refine Nat.mul_le_mul_right _ (by omega)
    have h1 := hlt s 0 hc.2.2
    have h2 : (10 : Nat) ^ s.length ≤ 10 ^ 9 := Nat.pow_le_pow_right (by decide) hc.2.1
    dsimp only
    unfold valD
    omega
  · decide
theorem rlong_inv {s : List UInt8} (h : (rlong s).2 = true) : s = Lib.decDigits (rlong s).1 ∧ s.length ≤ 10 ∧ (rlong s).1 < 10000000000 := by
  unfold rlong at h ⊢
  split at h
  · rename_i hc
    rw [if_pos hc]
    have := rnum_inv h
    have h3 := rnum_fst_of (s := s)
    exact ⟨this.1, by omega, by omega⟩
  · rename_i hc
    rw [if_neg hc]
    simp only [Bool.and_eq_true, decide_eq_true_eq] at h
    obtain ⟨⟨⟨h1, h2⟩, h3⟩, h4⟩ := h
    have e1 := (rnum_inv h1).1
    have e2 := (rnum_inv h2).1
    have ha := rnum_fst_of (s := s.take 9)
    have l2 : (s.drop 9).length = 1 := by rw [List.length_drop]; omega
    dsimp only
    generalize (rnum (s.take 9)).1 = a at *
    generalize (rnum (s.drop 9)).1 = b at *
    have hb : b < 10 := by
      apply Decidable.byContradiction
      intro q
      rw [e2, Lib.decDigits, dif_neg q] at l2
      have := (dec_val (b / 10)).2.2
      simp at l2
      rw [l2] at this
      simp at this
    refine ⟨?_, by omega, by omega⟩
    rw [Lib.decDigits, dif_neg (by omega), show (10 * a + b) / 10 = a by omega, show (10 * a + b) % 10 = b by omega, ← e1]
    have e3 : Lib.decDigits b = [UInt8.ofNat (48 + b)] := by rw [Lib.decDigits, dif_pos hb]
    rw [← e3, ← e2, List.take_append_drop]
theorem rlong_dec {n : Nat} (h : (Lib.decDigits n).length ≤ 10) : rlong (Lib.decDigits n) = (n, true) := by
  unfold rlong
  split
  · exact rnum_dec (by omega)
  · rename_i hc
    have h10 : ¬ n < 10 := fun q => by
      rw [Lib.decDigits, dif_pos q] at hc
      simp at hc
    have e : Lib.decDigits n = Lib.decDigits (n / 10) ++ [UInt8.ofNat (48 + n % 10)] := by
      conv => lhs; rw [Lib.decDigits, dif_neg h10]
    have l1 : (Lib.decDigits (n / 10)).length = 9 := by rw [e] at hc h; simp at hc h; omega
    have e1 : (Lib.decDigits n).take 9 = Lib.decDigits (n / 10) := by rw [e]; exact List.take_left' l1
    have e2 : (Lib.decDigits n).drop 9 = Lib.decDigits (n % 10) := by
      rw [e, List.drop_left' l1, Lib.decDigits, dif_pos (Nat.mod_lt _ (by decide))]
    have l2 : (Lib.decDigits (n % 10)).length ≤ 9 := by rw [Lib.decDigits, dif_pos (Nat.mod_lt _ (by decide))]; simp
    rw [e1, e2, rnum_dec (by omega), rnum_dec l2]
    have l3 : (Lib.decDigits n).length = 10 := by rw [e]; simp [l1]
    simp only [l3, decide_true, Bool.and_true, Bool.true_and, Prod.mk.injEq, decide_eq_true_eq]
    omega
/-- Both take the same texts for numbers, and tell the same number. -/
theorem v_same (s : List UInt8) : vOk s = (rlong s).2 ∧ ((rlong s).2 = true → vN s = ((rlong s).1 : Nat)) := by
  have key : (rlong s).2 = true → vOk s = true ∧ vN s = ((rlong s).1 : Nat) := fun h => by
    obtain ⟨h1, h2, h3⟩ := rlong_inv h
    have h4 := pub_dec (rlong s).1 (by omega)
    rw [← h1] at h4
    unfold vOk vN
    rw [h4]
    dsimp only
    rw [← h1, decide_eq_true h2, decide_eq_true rfl]
    refine ⟨rfl, ?_⟩
    show IntKind.i64.wrap _ = _
    have : IntKind.i64.wrap (((rlong s).1 : Nat) : Int) = (((rlong s).1 : Nat) : Int) := by
      rw [IntKind.wrap_i64]
      omega
    exact this
  refine ⟨?_, fun h => (key h).2⟩
  cases hr : (rlong s).2 with
  | true => exact (key hr).1
  | false =>
    cases hv : vOk s with
    | false => rfl
    | true =>
      unfold vOk at hv
      split at hv
      · rename_i n hn
        simp only [Bool.and_eq_true, decide_eq_true_eq] at hv
        have := rlong_dec (n := n) (by rw [hv.2]; exact hv.1)
        rw [hv.2] at this
        rw [this] at hr
        cases hr
      · cases hv
end Go.Proofs.YtbcamncabckbnaaGreatDoor
