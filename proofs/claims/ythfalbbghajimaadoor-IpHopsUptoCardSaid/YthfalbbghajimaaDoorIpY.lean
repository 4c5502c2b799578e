/-
  Packets: Write, in the program and in the reference.
-/
import Derived.Test.YthfalbbghajimaaDoorIpX
namespace Go.Proofs.YthfalbbghajimaaDoor
set_option linter.unusedVariables false
set_option linter.unusedSimpArgs false
theorem emP : (ByteArray.mk #[] : ByteArray) = mkS [] := rfl
abbrev dSI (r : List UInt8 × Int) : DV := .tup [.v (.string (mkS r.1)), .v (.int .i64 r.2)]
def fl (p : Pk) : Int := (if p.wh then 16384 else p.start) + (if p.mo then 8192 else 0)
def hdA (p : Pk) (F : Int) : List UInt8 := [u8 (64 + (20 + (p.opt.length : Int)) / 4), u8 p.tos] ++ wd (20 + (p.opt.length : Int) + (p.data.length : Int)) ++ wd p.id ++ wd F ++ [u8 p.life, u8 p.proto]
def hdB (p : Pk) : List UInt8 := lg p.fr ++ lg p.to ++ p.opt
theorem hdA_len (p : Pk) (F : Int) : (hdA p F).length = 10 := rfl
theorem hdB_len (p : Pk) : (hdB p).length = 8 + p.opt.length := by unfold hdB; simp [lg_len]; omega
def pTxtF (p : Pk) (F : Int) : List UInt8 := hdA p F ++ wd (65535 - foldI (wsum (hdA p F ++ hdB p))) ++ hdB p ++ p.data
def pW (p : Pk) : List UInt8 × Int := if pErr p = 0 then (pTxtF p (fl p), 0) else ([], pErr p)
theorem pErr_ok {p : Pk} (h : pErr p = 0) : p.arg ∧ p.form ∧ p.data.length + p.opt.length ≤ 65515 := by
  unfold pErr at h
  split at h
  · cases h
  · rename_i h1
    split at h
    · cases h
    · rename_i h2
      split at h
      · cases h
      · rename_i h3
        exact ⟨Decidable.not_not.1 h1, Decidable.not_not.1 h2, by omega⟩
end Go.Proofs.YthfalbbghajimaaDoor
