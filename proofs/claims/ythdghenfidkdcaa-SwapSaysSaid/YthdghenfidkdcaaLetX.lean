/-
  Letters: Write and Read, in the program and in the reference.
-/
import Derived.Test.YthdghenfidkdcaaNetX
namespace Go.Proofs.Ythdghenfidkdcaa
set_option linter.unusedVariables false
set_option linter.unusedSimpArgs false
theorem emS : (ByteArray.mk #[] : ByteArray) = mkS [] := rfl
abbrev dL (f t : Int) (d : List UInt8) : DV := .agg [.v (.int .i64 f), .v (.int .i64 t), .v (.string (mkS d))]
abbrev dSE (r : List UInt8 × Int) : DV := .tup [.v (.string (mkS r.1)), .v (.int .i64 r.2)]
def letHd (f t n : Int) : List UInt8 := wd f ++ wd t ++ wd n
def letC (f t : Int) (d : List UInt8) (a b : Int) : Int :=
  if foldI (wsum (und a b 17 ((d.length : Int) + 8) ++ letHd f t ((d.length : Int) + 8) ++ d)) = 65535 then 65535 else 65535 - foldI (wsum (und a b 17 ((d.length : Int) + 8) ++ letHd f t ((d.length : Int) + 8) ++ d))
def letW (f t : Int) (d : List UInt8) (a b : Int) : List UInt8 × Int :=
  if ¬ ((0 ≤ f ∧ f ≤ 65535) ∧ (0 ≤ t ∧ t ≤ 65535)) then ([], 1) else if 65507 < d.length then ([], 2) else (letHd f t ((d.length : Int) + 8) ++ wd (letC f t d a b) ++ d, 0)
theorem wsum_zero (f t n : Int) (d : List UInt8) (a b p m : Int) : wsum (und a b p m ++ (wd f ++ wd t) ++ wd n ++ wd 0 ++ d) = wsum (und a b p m ++ letHd f t n ++ d) := by
  have h1 : (und a b p m ++ (wd f ++ wd t) ++ wd n).length % 2 = 0 := by simp [und_len, wd_len]
  have h2 : (und a b p m ++ (wd f ++ wd t) ++ wd n ++ wd 0).length % 2 = 0 := by simp [und_len, wd_len]
  have h3 : wsum (wd 0) = 0 := by decide
  have e : und a b p m ++ letHd f t n = und a b p m ++ (wd f ++ wd t) ++ wd n := by unfold letHd; simp
  rw [e, wsum_app_even _ d h2, wsum_app_even _ _ h1, wsum_app_even _ d h1, h3]
  omega
end Go.Proofs.Ythdghenfidkdcaa
