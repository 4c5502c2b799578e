/-
  Addresses as texts: no program in sight.
-/
import Derived.Test.YtbcamncabckbnaaGreatDoorMacP
import Derived.Lib.ItoaNum
import Derived.Lib.ParseIntB
import Derived.Lib.Join
namespace Go.Proofs.YtbcamncabckbnaaGreatDoor
open Go
set_option linter.unusedVariables false
set_option linter.unusedSimpArgs false
/-- A number of at most three digits, as it is told. -/
def dS (n : Nat) : List UInt8 :=
  if n < 10 then [UInt8.ofNat (48 + n)] else if n < 100 then [UInt8.ofNat (48 + n / 10), UInt8.ofNat (48 + n % 10)] else [UInt8.ofNat (48 + n / 10 / 10), UInt8.ofNat (48 + n / 10 % 10), UInt8.ofNat (48 + n % 10)]
theorem dec_small {n : Nat} (h : n < 1000) : Lib.decDigits n = dS n := by
  unfold dS
  split
  · rename_i h1
    rw [Lib.decDigits, dif_pos h1]
  · rename_i h1
    rw [Lib.decDigits, dif_neg h1]
    split
    · rename_i h2
      rw [Lib.decDigits, dif_pos (by omega)]
      rfl
    · rename_i h2
      rw [Lib.decDigits, dif_neg (by omega), Lib.decDigits, dif_pos (by omega)]
      rfl
def isD (b : UInt8) : Bool := decide (48 ≤ b.toNat ∧ b.toNat ≤ 57)
/-- What digits spell. -/
def valD (l : List UInt8) : Nat := l.foldl (fun a b => 10 * a + (b.toNat - 48)) 0
/-- What ReadNum answers. -/
def rnum (w : List UInt8) : Nat × Bool := if 1 ≤ w.length ∧ w.length ≤ 9 ∧ w.all isD = true then (valD w, decide (Lib.decDigits (valD w) = w)) else (0, false)
def okp (w : List UInt8) : Bool := (rnum w).2 && decide ((rnum w).1 ≤ 255)
theorem dS_fin : ∀ n : Fin 256, valD (dS n.val) = n.val ∧ (dS n.val).all isD = true ∧ 1 ≤ (dS n.val).length ∧ (dS n.val).length ≤ 9 ∧ Lib.parseUintB 8 (dS n.val) = .ok n.val ∧ (46 : UInt8) ∉ dS n.val := by decide +kernel
theorem rnum_dS {n : Nat} (h : n < 256) : rnum (dS n) = (n, true) := by
  obtain ⟨h1, h2, h3, h4, -, -⟩ := dS_fin ⟨n, h⟩
  dsimp only at h1 h2 h3 h4
  unfold rnum
  rw [if_pos ⟨h3, h4, h2⟩, h1, dec_small (by omega)]
  simp
theorem okp_dS {n : Nat} (h : n < 256) : okp (dS n) = true := by
  unfold okp
  rw [rnum_dS h]
  simp
  omega
theorem okp_inv {w : List UInt8} (h : okp w = true) : ∃ n, n < 256 ∧ w = dS n ∧ (rnum w).1 = n := by
  unfold okp at h
  simp only [Bool.and_eq_true, decide_eq_true_iff] at h
  obtain ⟨h1, h2⟩ := h
  unfold rnum at h1 h2 ⊢
  split at h1
  · rename_i hc
    rw [if_pos hc] at h2 ⊢
    dsimp only at h1 h2 ⊢
    have h3 := of_decide_eq_true h1
    exact ⟨valD w, by omega, by rw [← dec_small (by omega)]; exact h3.symm, rfl⟩
  · cases h1
/-- What the program's text of an address is. -/
def showA (a : Nat) : List UInt8 := Lib.join [Lib.decDigits (a / 16777216 % 256), Lib.decDigits (a / 65536 % 256), Lib.decDigits (a / 256 % 256), Lib.decDigits (a % 256)] [46]
theorem showA_eq (a : Nat) : showA a = dS (a / 16777216 % 256) ++ 46 :: (dS (a / 65536 % 256) ++ 46 :: (dS (a / 256 % 256) ++ 46 :: dS (a % 256))) := by
  unfold showA
  rw [dec_small (by omega), dec_small (by omega), dec_small (by omega), dec_small (by omega)]
  simp [Lib.join, List.intercalate, List.intersperse]
theorem spl_showA (a : Nat) : spl 46 (showA a) = [dS (a / 16777216 % 256), dS (a / 65536 % 256), dS (a / 256 % 256), dS (a % 256)] := by
  have hn : ∀ n, (46 : UInt8) ∉ dS (n % 256) := fun n => (dS_fin ⟨n % 256, Nat.mod_lt _ (by decide)⟩).2.2.2.2.2
  rw [showA_eq, spl_app _ (hn _), spl_app _ (hn _), spl_app _ (hn _), spl_one (hn _)]
/-- The program's reading: the pieces, one by one; none: one was no number. -/
def foldA : Nat → List (List UInt8) → Option Nat
  | a, [] => some a
  | a, w :: r => match Lib.parseUintB 8 w with
    | .ok n => foldA ((a * 256 + n) % 4294967296) r
    | _ => none
def parA (s : List UInt8) : Nat × Int := match foldA 0 (spl 46 s) with
  | some a => if showA a = s then (a, 0) else (0, 10)
  | none => (0, 10)
/-- The reference's. -/
def txtA (ps : List (List UInt8)) : Nat × Int := if ps.length = 4 ∧ ps.all okp = true then (ps.foldl (fun a w => 256 * a + (rnum w).1) 0, 0) else (0, 10)
theorem foldA_dS {a n : Nat} (h : n < 256) (r : List (List UInt8)) : foldA a (dS n :: r) = foldA ((a * 256 + n) % 4294967296) r := by
  have := (dS_fin ⟨n, h⟩).2.2.2.2.1
  dsimp only at this
  rw [foldA, this]
theorem good_adr {n0 n1 n2 n3 : Nat} (h0 : n0 < 256) (h1 : n1 < 256) (h2 : n2 < 256) (h3 : n3 < 256) : foldA 0 [dS n0, dS n1, dS n2, dS n3] = some (16777216 * n0 + 65536 * n1 + 256 * n2 + n3) := by
  rw [foldA_dS h0, foldA_dS h1, foldA_dS h2, foldA_dS h3, foldA]
  congr 1
  omega
theorem adr_same (s : List UInt8) : parA s = txtA (spl 46 s) := by
  by_cases hg : (spl 46 s).length = 4 ∧ (spl 46 s).all okp = true
  · unfold txtA
    rw [if_pos hg]
    obtain ⟨h4, hall⟩ := hg
    rw [List.all_eq_true] at hall
    unfold parA
    generalize hq : spl 46 s = ps at h4 hall ⊢
    match ps, h4 with
    | [w0, w1, w2, w3], _ =>
      obtain ⟨n0, b0, rfl, e0⟩ := okp_inv (hall w0 (by simp))
      obtain ⟨n1, b1, rfl, e1⟩ := okp_inv (hall w1 (by simp))
      obtain ⟨n2, b2, rfl, e2⟩ := okp_inv (hall w2 (by simp))
      obtain ⟨n3, b3, rfl, e3⟩ := okp_inv (hall w3 (by simp))
      rw [good_adr b0 b1 b2 b3]
      have hs : showA (16777216 * n0 + 65536 * n1 + 256 * n2 + n3) = s := by
        obtain ⟨-, (⟨hh, -⟩ | ⟨r0, hr0, hq0⟩)⟩ := spl_inv hq
        · cases hh
        obtain ⟨-, (⟨hh, -⟩ | ⟨r1, hr1, hq1⟩)⟩ := spl_inv hq0
        · cases hh
        obtain ⟨-, (⟨hh, -⟩ | ⟨r2, hr2, hq2⟩)⟩ := spl_inv hq1
        · cases hh
        obtain ⟨-, (⟨-, h5⟩ | ⟨r, -, h5⟩)⟩ := spl_inv hq2
        · subst h5 hr2 hr1 hr0
          rw [showA_eq]
          rw [show (16777216 * n0 + 65536 * n1 + 256 * n2 + n3) / 16777216 % 256 = n0 by omega, show (16777216 * n0 + 65536 * n1 + 256 * n2 + n3) / 65536 % 256 = n1 by omega, show (16777216 * n0 + 65536 * n1 + 256 * n2 + n3) / 256 % 256 = n2 by omega, show (16777216 * n0 + 65536 * n1 + 256 * n2 + n3) % 256 = n3 by omega]
        · exact absurd h5 (spl_ne _ _)
      dsimp only
      rw [if_pos hs]
      simp only [List.foldl, e0, e1, e2, e3]
      congr 1
      omega
  · unfold txtA
    rw [if_neg hg]
    unfold parA
    split
    · rename_i a ha
      split
      · rename_i hs
        exfalso
        apply hg
        rw [← hs, spl_showA]
        have hk : ∀ n, okp (dS (n % 256)) = true := fun n => okp_dS (Nat.mod_lt _ (by decide))
        exact ⟨rfl, by simp [hk]⟩
      · rfl
    · rfl
end Go.Proofs.YtbcamncabckbnaaGreatDoor
