/-
  strings.Split at one byte, walked.
-/
import Derived.Test.YtcbcmaahgldlfaaDoorMacP
import Derived.Test.YtcbcmaahgldlfaaDoorMacX
namespace Go.Proofs.YtcbcmaahgldlfaaDoor
set_option linter.unusedVariables false
set_option linter.unusedSimpArgs false
theorem count_spec (l : List UInt8) : Spec Tryd.prog 19 [.v (.string (mkS l)), .v (.string (mkS [58]))] (.v (.int .i64 (Lib.countByte l 58 : Nat))) := by
  have e1 : (mkS l).data.toList = l := by simp [mkS]
  have e2 : (mkS [58]).size = 1 := rfl
  have e3 : byteI (mkS [58]) 0 = 58 := rfl
  have e4 : (58 : Int).toNat.toUInt8 = 58 := rfl
  refine hspec_fn Tryd.func19 rfl ok_strings_Count okr_strings_Count rfl (by kernel_rfl) ?_
  intro Γ hW0 hN0 hL0
  have hW := hW0 rfl
  clear hW0 hN0 hL0
  unfold x_strings_Count r_strings_Count
  refine auC ?_
  repeat' (first
    | (refine auS ?_)
    | (simp only [e1, e2, e3, e4])
    | (refine auD ?_)
    | (with_reducible refine runR_b (fun h => ?_) (fun h => ?_) <;> first | exact auH | simp only [h, runR_t, runR_f])
    | (with_reducible refine condK_bl ?_ ?_)
    | (with_reducible refine condK_b (fun h => ?_) (fun h => ?_) <;> first | exact auH | skip)
    | fail)
  (all_goals first | exact auP | skip)
  all_goals refine auF ?_
  all_goals (try first | refine auR ?_ | exact auR0)
  all_goals (try simp only [hsM] at *)
  all_goals rfl
theorem ibyte_spec (l : List UInt8) (b : Int) : Spec Tryd.prog 14 [.v (.string (mkS l)), .v (.int .u8 b)] (.v (.int .i64 (Lib.indexByte l b.toNat.toUInt8))) := by
  have e1 : (mkS l).data.toList = l := by simp [mkS]
  refine hspec_fn Tryd.func14 rfl ok_stringslite_IndexByte okr_stringslite_IndexByte rfl (by kernel_rfl) ?_
  intro Γ hW0 hN0 hL0
  have hW := hW0 rfl
  clear hW0 hN0 hL0
  unfold x_stringslite_IndexByte r_stringslite_IndexByte
  refine auC ?_
  repeat' (first
    | (refine auS ?_)
    | (simp only [e1])
    | (refine auD ?_)
    | (with_reducible refine runR_b (fun h => ?_) (fun h => ?_) <;> first | exact auH | simp only [h, runR_t, runR_f])
    | (with_reducible refine condK_bl ?_ ?_)
    | (with_reducible refine condK_b (fun h => ?_) (fun h => ?_) <;> first | exact auH | skip)
    | fail)
  (all_goals first | exact auP | skip)
  all_goals refine auF ?_
  all_goals (try first | refine auR ?_ | exact auR0)
  all_goals (try simp only [hsM] at *)
theorem sibyte_spec (l : List UInt8) (b : Int) : Spec Tryd.prog 11 [.v (.string (mkS l)), .v (.int .u8 b)] (.v (.int .i64 (Lib.indexByte l b.toNat.toUInt8))) := by
  have hcal := ibyte_spec l b
  refine hspec_fn Tryd.func11 rfl ok_strings_IndexByte okr_strings_IndexByte rfl (by kernel_rfl) ?_
  intro Γ hW0 hN0 hL0
  have hW := hW0 rfl
  clear hW0 hN0 hL0
  unfold x_strings_IndexByte r_strings_IndexByte
  refine auC ?_
  repeat' (first
    | (refine auS ?_)
    | (with_reducible refine runR_call hcal ?_)
    | (refine auD ?_)
    | (with_reducible refine runR_b (fun h => ?_) (fun h => ?_) <;> first | exact auH | simp only [h, runR_t, runR_f])
    | (with_reducible refine condK_bl ?_ ?_)
    | (with_reducible refine condK_b (fun h => ?_) (fun h => ?_) <;> first | exact auH | skip)
    | fail)
  (all_goals first | exact auP | skip)
  all_goals refine auF ?_
  all_goals (try first | refine auR ?_ | exact auR0)
  all_goals (try simp only [hsM] at *)
theorem lindex_spec (l : List UInt8) : Spec Tryd.prog 27 [.v (.string (mkS l)), .v (.string (mkS [58]))] (.v (.int .i64 (Lib.indexByte l 58))) := by
  have hcal := ibyte_spec l 58
  have e2 : (mkS [58]).size = 1 := rfl
  have e3 : byteI (mkS [58]) 0 = 58 := rfl
  by_cases he : mkS [58] = mkS l
  · have hl : [58] = l := mkS_inj.1 he
    subst hl
    refine hspec_fn Tryd.func27 rfl ok_stringslite_Index okr_stringslite_Index rfl (by kernel_rfl) ?_
    intro Γ hW0 hN0 hL0
    have hW := hW0 rfl
    clear hW0 hN0 hL0
    unfold x_stringslite_Index r_stringslite_Index
    refine auC ?_
    repeat' (first
      | (refine auS ?_)
      | (first | (simp only [e2, e3]) | (with_reducible refine runR_call hcal ?_))
      | (refine auD ?_)
      | (with_reducible refine runR_b (fun h => ?_) (fun h => ?_) <;> first | exact auH | simp only [h, runR_t, runR_f])
      | (with_reducible refine condK_bl ?_ ?_)
      | (with_reducible refine condK_b (fun h => ?_) (fun h => ?_) <;> first | exact auH | skip)
      | fail)
    (all_goals first | exact auP | skip)
    all_goals refine auF ?_
    all_goals (try first | refine auR ?_ | exact auR0)
    all_goals (try simp only [hsM] at *)
    all_goals rfl
  · skip
    refine hspec_fn Tryd.func27 rfl ok_stringslite_Index okr_stringslite_Index rfl (by kernel_rfl) ?_
    intro Γ hW0 hN0 hL0
    have hW := hW0 rfl
    clear hW0 hN0 hL0
    unfold x_stringslite_Index r_stringslite_Index
    refine auC ?_
    repeat' (first
      | (refine auS ?_)
      | (first | (simp only [e2, e3]) | (simp only [he]) | (with_reducible refine runR_call hcal ?_))
      | (refine auD ?_)
      | (with_reducible refine runR_b (fun h => ?_) (fun h => ?_) <;> first | exact auH | simp only [h, runR_t, runR_f])
      | (with_reducible refine condK_bl ?_ ?_)
      | (with_reducible refine condK_b (fun h => ?_) (fun h => ?_) <;> first | exact auH | skip)
      | fail)
    (all_goals first | exact auP | skip)
    all_goals refine auF ?_
    all_goals (try first | refine auR ?_ | exact auR0)
    all_goals (try simp only [hsM] at *)
    all_goals rfl
theorem index_spec (l : List UInt8) : Spec Tryd.prog 20 [.v (.string (mkS l)), .v (.string (mkS [58]))] (.v (.int .i64 (Lib.indexByte l 58))) := by
  have hcal := lindex_spec l
  refine hspec_fn Tryd.func20 rfl ok_strings_Index okr_strings_Index rfl (by kernel_rfl) ?_
  intro Γ hW0 hN0 hL0
  have hW := hW0 rfl
  clear hW0 hN0 hL0
  unfold x_strings_Index r_strings_Index
  refine auC ?_
  repeat' (first
    | (refine auS ?_)
    | (with_reducible refine runR_call hcal ?_)
    | (refine auD ?_)
    | (with_reducible refine runR_b (fun h => ?_) (fun h => ?_) <;> first | exact auH | simp only [h, runR_t, runR_f])
    | (with_reducible refine condK_bl ?_ ?_)
    | (with_reducible refine condK_b (fun h => ?_) (fun h => ?_) <;> first | exact auH | skip)
    | fail)
  (all_goals first | exact auP | skip)
  all_goals refine auF ?_
  all_goals (try first | refine auR ?_ | exact auR0)
  all_goals (try simp only [hsM] at *)
end Go.Proofs.YtcbcmaahgldlfaaDoor
