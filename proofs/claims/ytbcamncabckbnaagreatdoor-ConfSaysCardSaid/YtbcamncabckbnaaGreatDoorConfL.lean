/-
  The reference's kinds of a line's words.
-/
import Derived.Test.YtbcamncabckbnaaGreatDoorCutS
import Derived.Test.YtbcamncabckbnaaGreatDoorAdrZ
import Derived.Test.YtbcamncabckbnaaGreatDoorConfR
import Derived.Test.YtbcamncabckbnaaGreatDoorCallG
namespace Go.Proofs.YtbcamncabckbnaaGreatDoor
set_option linter.unusedVariables false
set_option linter.unusedSimpArgs false
set_option maxHeartbeats 2000000 in
theorem lineShape_spec (w : W8) : Spec Tryz.prog 50 [.v (.string (mkS w))] (.tup [.v (.string (mkS (shapeR w).1)), .v (.bool (shapeR w).2)]) := by
  have c1 : (ByteArray.mk #[111, 117, 116, 115, 105, 100, 101] : ByteArray) = mkS wOut := rfl
  have c2 : (ByteArray.mk #[112, 111, 114, 116, 115] : ByteArray) = mkS wPorts := rfl
  have c3 : (ByteArray.mk #[108, 105, 102, 101] : ByteArray) = mkS wLife := rfl
  have c4 : (ByteArray.mk #[114, 97, 116, 101] : ByteArray) = mkS wRate := rfl
  have c5 : (ByteArray.mk #[101, 108, 115, 101] : ByteArray) = mkS wElse := rfl
  have c6 : (ByteArray.mk #[112, 97, 115, 115] : ByteArray) = mkS wPass := rfl
  have c7 : (ByteArray.mk #[100, 114, 111, 112] : ByteArray) = mkS wDrop := rfl
  have d : ∀ a b : W8, decide (mkS a = mkS b) = decide (a = b) := fun a b => decide_eq_decide.2 mkS_inj
  unfold shapeR
  by_cases h1 : w = wOut
  · have f1 := decide_eq_true h1
    rw [if_pos h1]
    refine hspec_fn Tryz.func50 rfl ok_custref_lineShape okr_custref_lineShape rfl (by kernel_rfl) ?_
    intro Γ hW0 hN0 hL0
    have hW := hW0 rfl
    clear hW0 hN0 hL0
    unfold x_custref_lineShape r_custref_lineShape
    with_reducible refine auC ?_
    repeat' (first
      | (with_reducible refine auS ?_)
      | (simp only [c1, c2, c3, c4, c5, c6, c7, d, f1])
      | (with_reducible refine auD ?_)
      | ((with_reducible refine auB ?_ ?_); all_goals first | (intro h; first | exact auH | simp only [h, runR_t, runR_f] | skip) | skip)
      | fail)
    all_goals with_reducible refine auF ?_
    all_goals (try first | with_reducible refine auR ?_ | exact auR0)
    all_goals (try simp only [hsM] at *)
    all_goals rfl
  have f1 := decide_eq_false h1
  rw [if_neg h1]
  by_cases h2 : w = wPorts
  · have f2 := decide_eq_true h2
    rw [if_pos (.inl h2)]
    refine hspec_fn Tryz.func50 rfl ok_custref_lineShape okr_custref_lineShape rfl (by kernel_rfl) ?_
    intro Γ hW0 hN0 hL0
    have hW := hW0 rfl
    clear hW0 hN0 hL0
    unfold x_custref_lineShape r_custref_lineShape
    with_reducible refine auC ?_
    repeat' (first
      | (with_reducible refine auS ?_)
      | (simp only [c1, c2, c3, c4, c5, c6, c7, d, f1, f2])
      | (with_reducible refine auD ?_)
      | ((with_reducible refine auB ?_ ?_); all_goals first | (intro h; first | exact auH | simp only [h, runR_t, runR_f] | skip) | skip)
      | fail)
    all_goals with_reducible refine auF ?_
    all_goals (try first | with_reducible refine auR ?_ | exact auR0)
    all_goals (try simp only [hsM] at *)
    all_goals rfl
  have f2 := decide_eq_false h2
  by_cases h3 : w = wRate
  · have f3 := decide_eq_true h3
    rw [if_pos (.inr h3)]
    refine hspec_fn Tryz.func50 rfl ok_custref_lineShape okr_custref_lineShape rfl (by kernel_rfl) ?_
    intro Γ hW0 hN0 hL0
    have hW := hW0 rfl
    clear hW0 hN0 hL0
    unfold x_custref_lineShape r_custref_lineShape
    with_reducible refine auC ?_
    repeat' (first
      | (with_reducible refine auS ?_)
      | (simp only [c1, c2, c3, c4, c5, c6, c7, d, f1, f2, f3])
      | (with_reducible refine auD ?_)
      | ((with_reducible refine auB ?_ ?_); all_goals first | (intro h; first | exact auH | simp only [h, runR_t, runR_f] | skip) | skip)
      | fail)
    all_goals with_reducible refine auF ?_
    all_goals (try first | with_reducible refine auR ?_ | exact auR0)
    all_goals (try simp only [hsM] at *)
    all_goals rfl
  have f3 := decide_eq_false h3
  rw [if_neg (fun q => q.elim h2 h3)]
  by_cases h4 : w = wLife
  · have f4 := decide_eq_true h4
    rw [if_pos h4]
    refine hspec_fn Tryz.func50 rfl ok_custref_lineShape okr_custref_lineShape rfl (by kernel_rfl) ?_
    intro Γ hW0 hN0 hL0
    have hW := hW0 rfl
    clear hW0 hN0 hL0
    unfold x_custref_lineShape r_custref_lineShape
    with_reducible refine auC ?_
    repeat' (first
      | (with_reducible refine auS ?_)
      | (simp only [c1, c2, c3, c4, c5, c6, c7, d, f1, f2, f3, f4])
      | (with_reducible refine auD ?_)
      | ((with_reducible refine auB ?_ ?_); all_goals first | (intro h; first | exact auH | simp only [h, runR_t, runR_f] | skip) | skip)
      | fail)
    all_goals with_reducible refine auF ?_
    all_goals (try first | with_reducible refine auR ?_ | exact auR0)
    all_goals (try simp only [hsM] at *)
    all_goals rfl
  have f4 := decide_eq_false h4
  rw [if_neg h4]
  by_cases h5 : w = wElse
  · have f5 := decide_eq_true h5
    rw [if_pos h5]
    refine hspec_fn Tryz.func50 rfl ok_custref_lineShape okr_custref_lineShape rfl (by kernel_rfl) ?_
    intro Γ hW0 hN0 hL0
    have hW := hW0 rfl
    clear hW0 hN0 hL0
    unfold x_custref_lineShape r_custref_lineShape
    with_reducible refine auC ?_
    repeat' (first
      | (with_reducible refine auS ?_)
      | (simp only [c1, c2, c3, c4, c5, c6, c7, d, f1, f2, f3, f4, f5])
      | (with_reducible refine auD ?_)
      | ((with_reducible refine auB ?_ ?_); all_goals first | (intro h; first | exact auH | simp only [h, runR_t, runR_f] | skip) | skip)
      | fail)
    all_goals with_reducible refine auF ?_
    all_goals (try first | with_reducible refine auR ?_ | exact auR0)
    all_goals (try simp only [hsM] at *)
    all_goals rfl
  have f5 := decide_eq_false h5
  rw [if_neg h5]
  by_cases h6 : w = wPass
  · have f6 := decide_eq_true h6
    rw [if_pos (.inl h6)]
    refine hspec_fn Tryz.func50 rfl ok_custref_lineShape okr_custref_lineShape rfl (by kernel_rfl) ?_
    intro Γ hW0 hN0 hL0
    have hW := hW0 rfl
    clear hW0 hN0 hL0
    unfold x_custref_lineShape r_custref_lineShape
    with_reducible refine auC ?_
    repeat' (first
      | (with_reducible refine auS ?_)
      | (simp only [c1, c2, c3, c4, c5, c6, c7, d, f1, f2, f3, f4, f5, f6])
      | (with_reducible refine auD ?_)
      | ((with_reducible refine auB ?_ ?_); all_goals first | (intro h; first | exact auH | simp only [h, runR_t, runR_f] | skip) | skip)
      | fail)
    all_goals with_reducible refine auF ?_
    all_goals (try first | with_reducible refine auR ?_ | exact auR0)
    all_goals (try simp only [hsM] at *)
    all_goals rfl
  have f6 := decide_eq_false h6
  by_cases h7 : w = wDrop
  · have f7 := decide_eq_true h7
    rw [if_pos (.inr h7)]
    refine hspec_fn Tryz.func50 rfl ok_custref_lineShape okr_custref_lineShape rfl (by kernel_rfl) ?_
    intro Γ hW0 hN0 hL0
    have hW := hW0 rfl
    clear hW0 hN0 hL0
    unfold x_custref_lineShape r_custref_lineShape
    with_reducible refine auC ?_
    repeat' (first
      | (with_reducible refine auS ?_)
      | (simp only [c1, c2, c3, c4, c5, c6, c7, d, f1, f2, f3, f4, f5, f6, f7])
      | (with_reducible refine auD ?_)
      | ((with_reducible refine auB ?_ ?_); all_goals first | (intro h; first | exact auH | simp only [h, runR_t, runR_f] | skip) | skip)
      | fail)
    all_goals with_reducible refine auF ?_
    all_goals (try first | with_reducible refine auR ?_ | exact auR0)
    all_goals (try simp only [hsM] at *)
    all_goals rfl
  have f7 := decide_eq_false h7
  rw [if_neg (fun q => q.elim h6 h7)]
  refine hspec_fn Tryz.func50 rfl ok_custref_lineShape okr_custref_lineShape rfl (by kernel_rfl) ?_
  intro Γ hW0 hN0 hL0
  have hW := hW0 rfl
  clear hW0 hN0 hL0
  unfold x_custref_lineShape r_custref_lineShape
  with_reducible refine auC ?_
  repeat' (first
    | (with_reducible refine auS ?_)
    | (simp only [c1, c2, c3, c4, c5, c6, c7, d, f1, f2, f3, f4, f5, f6, f7])
    | (with_reducible refine auD ?_)
    | ((with_reducible refine auB ?_ ?_); all_goals first | (intro h; first | exact auH | simp only [h, runR_t, runR_f] | skip) | skip)
    | fail)
  all_goals with_reducible refine auF ?_
  all_goals (try first | with_reducible refine auR ?_ | exact auR0)
  all_goals (try simp only [hsM] at *)
  all_goals rfl
end Go.Proofs.YtbcamncabckbnaaGreatDoor
