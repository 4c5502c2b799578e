/-
  Two plans of like content are the same.
-/
import Derived.Test.YtbcamncabckbnaaGreatDoorConfO
namespace Go.Proofs.YtbcamncabckbnaaGreatDoor
set_option linter.unusedVariables false
set_option linter.unusedSimpArgs false
set_option maxHeartbeats 1000000 in
theorem rleq_same (l : List Rl) (c c' : Bool) (hl : l.length ≤ maxLen) : Spec Tryz.prog 36 [.snap 10 (l.map Rl.enc) c, .snap 10 (l.map Rl.enc) c'] (.v (.bool true)) := by
  unfold maxLen at hl
  refine hspec_fn Tryz.func36 rfl ok_slices_Equal_api_Rule okr_slices_Equal_api_Rule rfl (by kernel_rfl) ?_
  intro Γ hW0 hN0 hL0
  have hW := hW0 rfl
  clear hW0 hN0 hL0
  unfold x_slices_Equal_api_Rule r_slices_Equal_api_Rule
  with_reducible refine auC ?_
  repeat' (first
    | (with_reducible refine auS ?_)
    | fail
    | (with_reducible refine auD ?_)
    | ((with_reducible refine auB ?_ ?_); all_goals first | (intro h; first | exact auH | simp only [h, runR_t, runR_f] | skip) | skip)
    | fail)
  refine go_loopH (α := Nat) (fun k => [(⟨.d0, .d1, .d5⟩, .v (.int .i64 (k : Nat)))]) (fun _ => []) (fun _ => Γ.g0) (fun k => l.length - k) (fun k => k ≤ l.length) 0 (Nat.zero_le _) ?_ ?_
  · skip
    refine le_mk ?_ ?_ (Nat.le_refl _)
    all_goals first | with_reducible refine auE ?_ | exact auE0
    all_goals (repeat' (first | exact trivial | exact rfl | apply And.intro))
  · rintro k hk
    with_reducible refine auL ?_
    by_cases hlt : k < l.length
    · obtain ⟨t, ht⟩ : ∃ t, l[k]? = some t := ⟨_, List.getElem?_eq_getElem hlt⟩
      have ex := xget_map Rl.enc l k t ht
      repeat' (first
        | (with_reducible refine auS ?_)
        | fail
        | (with_reducible refine auD ?_)
        | ((with_reducible refine auB ?_ ?_); all_goals first | (intro h; first | exact auH | simp only [h, runR_t, runR_f] | skip) | skip)
        | (simp only [Int.toNat_natCast, ex]))
      (all_goals first | exact auP | skip)
      all_goals first
        | (exfalso; simp at h; done)
        | (refine nx_loop ⟨k + 1, Nat.succ_le_of_lt hlt, Nat.sub_lt_sub_left hlt (Nat.lt_succ_self k), ?_⟩
           (refine le_mk ?_ ?_ (Nat.le_refl _)); (all_goals first | with_reducible refine auE ?_ | exact auE0); (all_goals (repeat' (first | exact trivial | exact rfl | apply And.intro)))
           all_goals exact dint ((IntWalk.i64_in _ (by omega)).trans (by omega)))
    · skip
      repeat' (first
        | (with_reducible refine auS ?_)
        | fail
        | (with_reducible refine auD ?_)
        | ((with_reducible refine auB ?_ ?_); all_goals first | (intro h; first | exact auH | simp only [h, runR_t, runR_f] | skip) | skip)
        | fail)
      (all_goals first | exact auP | skip)
      all_goals with_reducible refine auF ?_
      all_goals (try first | with_reducible refine auR ?_ | exact auR0)
      all_goals (try simp only [hsM] at *)
theorem rleq_nil : Spec Tryz.prog 36 [.v (.slice none 0 0), .v (.slice none 0 0)] (.v (.bool true)) :=
  hspec_args (rleq_same [] false false (Nat.zero_le _)) (fun K w vs h => argsRel_mem h rfl (fun i d e hd he v hv => by
    cases i with
    | zero =>
      simp at hd he
      subst hd he
      exact nil_rel hv _ (.inr ⟨rfl, 10, rfl⟩)
    | succ i => cases i with
      | zero =>
        simp at hd he
        subst hd he
        exact nil_rel hv _ (.inr ⟨rfl, 10, rfl⟩)
      | succ i => simp at hd))
set_option maxHeartbeats 1000000 in
theorem samePlan_spec (p : Pl) (hl : p.rs.length ≤ maxLen) : Spec Tryz.prog 10 [(dPl p false), (dPl p false)] (.v (.bool true)) := by
  have h1 := rleq_same p.rs false false hl
  refine hspec_fn Tryz.func10 rfl ok_custref_SamePlan okr_custref_SamePlan rfl (by kernel_rfl) ?_
  intro Γ hW0 hN0 hL0
  have hW := hW0 rfl
  clear hW0 hN0 hL0
  unfold x_custref_SamePlan r_custref_SamePlan
  with_reducible refine auC ?_
  repeat' (first
    | (with_reducible refine auS ?_)
    | (first | (simp only [eq_self, decide_true, beq_self_eq_true, Bool.and_self]) | (with_reducible refine runR_call h1 ?_))
    | (with_reducible refine auD ?_)
    | ((with_reducible refine auB ?_ ?_); all_goals first | (intro h; first | exact auH | simp only [h, runR_t, runR_f] | skip) | skip)
    | fail)
  (all_goals first | exact auP | skip)
  all_goals first
    | (exfalso; simp at h; done)
    | skip
  all_goals with_reducible refine auF ?_
  all_goals (try first | with_reducible refine auR ?_ | exact auR0)
  all_goals (try simp only [hsM] at *)
  all_goals first
    | rfl
    | exact dbool (by simp)
set_option maxHeartbeats 1000000 in
theorem samePlan_nil (p : Pl) : Spec Tryz.prog 10 [(.agg (p.enc (.v (.slice none 0 0)))), (.agg (p.enc (.v (.slice none 0 0))))] (.v (.bool true)) := by
  have h1 := rleq_nil
  refine hspec_fn Tryz.func10 rfl ok_custref_SamePlan okr_custref_SamePlan rfl (by kernel_rfl) ?_
  intro Γ hW0 hN0 hL0
  have hW := hW0 rfl
  clear hW0 hN0 hL0
  unfold x_custref_SamePlan r_custref_SamePlan
  with_reducible refine auC ?_
  repeat' (first
    | (with_reducible refine auS ?_)
    | (first | (simp only [eq_self, decide_true, beq_self_eq_true, Bool.and_self]) | (with_reducible refine runR_call h1 ?_))
    | (with_reducible refine auD ?_)
    | ((with_reducible refine auB ?_ ?_); all_goals first | (intro h; first | exact auH | simp only [h, runR_t, runR_f] | skip) | skip)
    | fail)
  (all_goals first | exact auP | skip)
  all_goals first
    | (exfalso; simp at h; done)
    | skip
  all_goals with_reducible refine auF ?_
  all_goals (try first | with_reducible refine auR ?_ | exact auR0)
  all_goals (try simp only [hsM] at *)
  all_goals first
    | rfl
    | exact dbool (by simp)
end Go.Proofs.YtbcamncabckbnaaGreatDoor
