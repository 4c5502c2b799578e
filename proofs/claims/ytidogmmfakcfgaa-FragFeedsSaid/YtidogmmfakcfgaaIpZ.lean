/-
  Packets: Read, in the program and in the reference.
-/
import Derived.Test.YtidogmmfakcfgaaIpV
import Derived.Test.YtidogmmfakcfgaaIpU
namespace Go.Proofs.Ytidogmmfakcfgaa
set_option linter.unusedVariables false
set_option linter.unusedSimpArgs false
theorem packetText_spec (p : Pk) (ho : p.opt.length ≤ 140737488351232) (hd : p.data.length ≤ 140737488351232) (hfr : 0 ≤ p.fr ∧ p.fr < 4294967296) (hto : 0 ≤ p.to ∧ p.to < 4294967296) : Spec Try.prog 18 [dP p] (dSI (pW p)) := by
  by_cases he : pErr p = 0
  · exact packetText_ok p he ho hd hfr hto
  · exact packetText_er p he ho hd hfr hto
theorem pW_err (p : Pk) : (pW p).2 = pErr p := by
  unfold pW
  split
  · rename_i h; exact h.symm
  · rfl
theorem rfR (p : Pk) (ho : p.opt.length ≤ 140737488351232) (hd : p.data.length ≤ 140737488351232) (hfr : 0 ≤ p.fr ∧ p.fr < 4294967296) (hto : 0 ≤ p.to ∧ p.to < 4294967296) : Spec Try.prog 18 [dP p] (.tup [.v (.string (mkS (pW p).1)), .v (.int .i64 (pErr p))]) := by
  have := packetText_spec p ho hd hfr hto
  rw [← pW_err]
  exact this
theorem rfC (p : Pk) (ho : p.opt.length ≤ 140737488351232) (hd : p.data.length ≤ 140737488351232) (hfr : 0 ≤ p.fr ∧ p.fr < 4294967296) (hto : 0 ≤ p.to ∧ p.to < 4294967296) : Spec Try.prog 33 [dP p] (.v (.int .i64 (pErr p))) := refused_spec p ho hd
theorem sumOfZ (l : List UInt8) (hl : l.length ≤ 9223372036854775800) : Spec Try.prog 56 [.v (.int .i64 0), .v (.string (mkS l))] (.v (.int .i64 (foldI (wsum l)))) := by
  have := sumOf_spec 0 (by decide) l hl
  rw [Int.zero_add] at this
  exact this
def hN (s : List UInt8) : Nat := 4 * (bN s 0 % 16)
def rdP (s : List UInt8) : Pk := ⟨(bN s 1 : Nat), wordAtI s 4, decide (wordAtI s 6 / 16384 = 1), decide (wordAtI s 6 / 8192 % 2 = 1), wordAtI s 6 % 8192, (bN s 8 : Nat), (bN s 9 : Nat), lgAt s 12, lgAt s 16, (s.drop 20).take (hN s - 20), (s.drop (hN s)).take ((wordAtI s 2).toNat - hN s)⟩
def pk0 : Pk := ⟨0, 0, false, false, 0, 0, 0, 0, 0, [], []⟩
def rpErr (s : List UInt8) : Int :=
  if s.length < 20 ∨ s.length < hN s ∨ (s.length : Int) < wordAtI s 2 then 3
  else if ¬ (69 ≤ bN s 0 ∧ bN s 0 ≤ 79) ∨ wordAtI s 2 < (hN s : Nat) ∨ 32768 ≤ wordAtI s 6 then 4
  else if ¬ pErr (rdP s) = 0 then 4
  else if ¬ foldI (wsum (s.take (hN s))) = 65535 then 5 else 0
def rpR (s : List UInt8) : Pk × Int := if rpErr s = 0 then (rdP s, 0) else (pk0, rpErr s)
theorem rpR_bad {s : List UInt8} {e : Int} (h : rpErr s = e) (h0 : e ≠ 0) : rpR s = (pk0, e) := by unfold rpR; rw [h, if_neg h0]
abbrev dPE (r : Pk × Int) : DV := .tup [dP r.1, .v (.int .i64 r.2)]
end Go.Proofs.Ytidogmmfakcfgaa
