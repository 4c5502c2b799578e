/-
  strings.Count, Index and IndexByte at one byte, walked.
-/
import Derived.Test.YtbcamncabckbnaaGreatDoorMacP
import Derived.Test.YtbcamncabckbnaaGreatDoorStr
import Derived.Test.YtbcamncabckbnaaGreatDoorCodeF
namespace Go.Proofs.YtbcamncabckbnaaGreatDoor
set_option linter.unusedVariables false
set_option linter.unusedSimpArgs false
theorem count_spec (c : UInt8) (l : List UInt8) : Spec Tryz.prog 63 [.v (.string (mkS l)), .v (.string (mkS [c]))] (.v (.int .i64 (Lib.countByte l c : Nat))) := by
  have e1 : (mkS l).data.toList = l := by simp [mkS]
  have e2 : (mkS [c]).size = 1 := rfl
  have e3 : byteI (mkS [c]) 0 = ((c.toNat : Nat) : Int) := rfl
  have e4 : ((c.toNat : Nat) : Int).toNat.toUInt8 = c := UInt8.ofNat_toNat
  refine hspec_fn Tryz.func63 rfl ok_strings_Count okr_strings_Count rfl (by kernel_rfl) ?_
  intro Γ hW0 hN0 hL0
  have hW := hW0 rfl
  clear hW0 hN0 hL0
  unfold x_strings_Count r_strings_Count
  with_reducible refine auC ?_
  repeat' (first
    | (with_reducible refine auS ?_)
    | (simp only [e1, e2, e3, e4])
    | (with_reducible refine auD ?_)
    | ((with_reducible refine auB ?_ ?_); all_goals first | (intro h; first | exact auH | simp only [h, runR_t, runR_f] | skip) | skip)
    | fail)
  (all_goals first | exact auP | skip)
  all_goals with_reducible refine auF ?_
  all_goals (try first | with_reducible refine auR ?_ | exact auR0)
  all_goals (try simp only [hsM] at *)
  all_goals rfl
theorem ibyte_spec (l : List UInt8) (b : Int) : Spec Tryz.prog 83 [.v (.string (mkS l)), .v (.int .u8 b)] (.v (.int .i64 (Lib.indexByte l b.toNat.toUInt8))) := by
  have e1 : (mkS l).data.toList = l := by simp [mkS]
  refine hspec_fn Tryz.func83 rfl ok_stringslite_IndexByte okr_stringslite_IndexByte rfl (by kernel_rfl) ?_
  intro Γ hW0 hN0 hL0
  have hW := hW0 rfl
  clear hW0 hN0 hL0
  unfold x_stringslite_IndexByte r_stringslite_IndexByte
  with_reducible refine auC ?_
  repeat' (first
    | (with_reducible refine auS ?_)
    | (simp only [e1])
    | (with_reducible refine auD ?_)
    | ((with_reducible refine auB ?_ ?_); all_goals first | (intro h; first | exact auH | simp only [h, runR_t, runR_f] | skip) | skip)
    | fail)
  (all_goals first | exact auP | skip)
  all_goals with_reducible refine auF ?_
  all_goals (try first | with_reducible refine auR ?_ | exact auR0)
  all_goals (try simp only [hsM] at *)
theorem lindex_spec (c : UInt8) (l : List UInt8) : Spec Tryz.prog 67 [.v (.string (mkS l)), .v (.string (mkS [c]))] (.v (.int .i64 (Lib.indexByte l c))) := by
  have e4 : ((c.toNat : Nat) : Int).toNat.toUInt8 = c := UInt8.ofNat_toNat
  have hcal := ibyte_spec l (c.toNat : Nat)
  rw [e4] at hcal
  have e2 : (mkS [c]).size = 1 := rfl
  have e3 : byteI (mkS [c]) 0 = ((c.toNat : Nat) : Int) := rfl
  by_cases he : mkS [c] = mkS l
  · have hl : [c] = l := mkS_inj.1 he
    subst hl
    refine hspec_fn Tryz.func67 rfl ok_stringslite_Index okr_stringslite_Index rfl (by kernel_rfl) ?_
    intro Γ hW0 hN0 hL0
    have hW := hW0 rfl
    clear hW0 hN0 hL0
    unfold x_stringslite_Index r_stringslite_Index
    with_reducible refine auC ?_
    repeat' (first
      | (with_reducible refine auS ?_)
      | (first | (simp only [e2, e3]) | (with_reducible refine runR_call hcal ?_))
      | (with_reducible refine auD ?_)
      | ((with_reducible refine auB ?_ ?_); all_goals first | (intro h; first | exact auH | simp only [h, runR_t, runR_f] | skip) | skip)
      | fail)
    (all_goals first | exact auP | skip)
    all_goals with_reducible refine auF ?_
    all_goals (try first | with_reducible refine auR ?_ | exact auR0)
    all_goals (try simp only [hsM] at *)
    all_goals first
      | rfl
      | (rw [show Lib.indexByte [c] c = 0 by simp [Lib.indexByte]])
  · skip
    refine hspec_fn Tryz.func67 rfl ok_stringslite_Index okr_stringslite_Index rfl (by kernel_rfl) ?_
    intro Γ hW0 hN0 hL0
    have hW := hW0 rfl
    clear hW0 hN0 hL0
    unfold x_stringslite_Index r_stringslite_Index
    with_reducible refine auC ?_
    repeat' (first
      | (with_reducible refine auS ?_)
      | (first | (simp only [e2, e3]) | (simp only [he]) | (with_reducible refine runR_call hcal ?_))
      | (with_reducible refine auD ?_)
      | ((with_reducible refine auB ?_ ?_); all_goals first | (intro h; first | exact auH | simp only [h, runR_t, runR_f] | skip) | skip)
      | fail)
    (all_goals first | exact auP | skip)
    all_goals with_reducible refine auF ?_
    all_goals (try first | with_reducible refine auR ?_ | exact auR0)
    all_goals (try simp only [hsM] at *)
    all_goals rfl
theorem index_spec (c : UInt8) (l : List UInt8) : Spec Tryz.prog 55 [.v (.string (mkS l)), .v (.string (mkS [c]))] (.v (.int .i64 (Lib.indexByte l c))) := by
  have hcal := lindex_spec c l
  refine hspec_fn Tryz.func55 rfl ok_strings_Index okr_strings_Index rfl (by kernel_rfl) ?_
  intro Γ hW0 hN0 hL0
  have hW := hW0 rfl
  clear hW0 hN0 hL0
  unfold x_strings_Index r_strings_Index
  with_reducible refine auC ?_
  repeat' (first
    | (with_reducible refine auS ?_)
    | (with_reducible refine runR_call hcal ?_)
    | (with_reducible refine auD ?_)
    | ((with_reducible refine auB ?_ ?_); all_goals first | (intro h; first | exact auH | simp only [h, runR_t, runR_f] | skip) | skip)
    | fail)
  (all_goals first | exact auP | skip)
  all_goals with_reducible refine auF ?_
  all_goals (try first | with_reducible refine auR ?_ | exact auR0)
  all_goals (try simp only [hsM] at *)
end Go.Proofs.YtbcamncabckbnaaGreatDoor
