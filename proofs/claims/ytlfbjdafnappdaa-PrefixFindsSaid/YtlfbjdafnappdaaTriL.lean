/-
  Find and All, in the program and in the reference, at once.
-/
import Derived.Test.YtlfbjdafnappdaaTriK
namespace Go.Proofs.Ytlfbjdafnappdaa
set_option linter.unusedVariables false
set_option linter.unusedSimpArgs false
abbrev ntE (r : Rw) : List DV := ntC (netA r.1) r.1.length
abbrev vlE (r : Rw) : List DV := [.v (.int .i64 r.2)]
set_option maxHeartbeats 1000000 in
theorem nteq_same (l : List Rw) (c c' : Bool) (hl : l.length ≤ maxLen) : Spec Try.prog 11 [.snap 2 (l.map ntE) c, .snap 2 (l.map ntE) c'] (.v (.bool true)) := by
  unfold maxLen at hl
  refine hspec_fn Try.func11 rfl ok_slices_Equal_api_Net okr_slices_Equal_api_Net rfl (by kernel_rfl) ?_
  intro Γ hW0 hN0 hL0
  have hW := hW0 rfl
  clear hW0 hN0 hL0
  unfold x_slices_Equal_api_Net r_slices_Equal_api_Net
  with_reducible refine auC ?_
  repeat' (first
    | (with_reducible refine auS ?_)
    | fail
    | (with_reducible refine auD ?_)
    | ((with_reducible refine auB ?_ ?_); all_goals first | (intro h; first | exact auH | simp only [h, runR_t, runR_f] | skip) | skip)
    | fail)
  refine go_loopH (α := Nat) (fun k => [(⟨.d0, .d1, .d5⟩, .v (.int .i64 (k : Nat)))]) (fun _ => []) (fun _ => Γ.g0) (fun k => l.length - k) (fun k => k ≤ l.length) 0 (Nat.zero_le _) ?_ ?_
  · skip
    refine le_mk ?_ ?_ (Nat.le_refl _)
    all_goals first | with_reducible refine auE ?_ | exact auE0
    all_goals (repeat' (first | exact trivial | exact rfl | apply And.intro))
  · rintro k hk
    with_reducible refine auL ?_
    by_cases hlt : k < l.length
    · obtain ⟨t, ht⟩ : ∃ t, l[k]? = some t := ⟨_, List.getElem?_eq_getElem hlt⟩
      have ex := xget_map ntE l k t ht
      repeat' (first
        | (with_reducible refine auS ?_)
        | fail
        | (with_reducible refine auD ?_)
        | ((with_reducible refine auB ?_ ?_); all_goals first | (intro h; first | exact auH | simp only [h, runR_t, runR_f] | skip) | skip)
        | (simp only [Int.toNat_natCast, ex]))
      (all_goals first | exact auP | skip)
      all_goals first
        | (exfalso; simp at h; done)
        | (refine nx_loop ⟨k + 1, Nat.succ_le_of_lt hlt, Nat.sub_lt_sub_left hlt (Nat.lt_succ_self k), ?_⟩
           (refine le_mk ?_ ?_ (Nat.le_refl _)); (all_goals first | with_reducible refine auE ?_ | exact auE0); (all_goals (repeat' (first | exact trivial | exact rfl | apply And.intro)))
           all_goals exact dint ((IntWalk.i64_in _ (by omega)).trans (by omega)))
    · skip
      repeat' (first
        | (with_reducible refine auS ?_)
        | fail
        | (with_reducible refine auD ?_)
        | ((with_reducible refine auB ?_ ?_); all_goals first | (intro h; first | exact auH | simp only [h, runR_t, runR_f] | skip) | skip)
        | fail)
      (all_goals first | exact auP | skip)
      all_goals with_reducible refine auF ?_
      all_goals (try first | with_reducible refine auR ?_ | exact auR0)
      all_goals (try simp only [hsM] at *)
set_option maxHeartbeats 1000000 in
theorem vleq_same (l : List Rw) (c c' : Bool) (hl : l.length ≤ maxLen) : Spec Try.prog 12 [.snap 1 (l.map vlE) c, .snap 1 (l.map vlE) c'] (.v (.bool true)) := by
  unfold maxLen at hl
  refine hspec_fn Try.func12 rfl ok_slices_Equal_int okr_slices_Equal_int rfl (by kernel_rfl) ?_
  intro Γ hW0 hN0 hL0
  have hW := hW0 rfl
  clear hW0 hN0 hL0
  unfold x_slices_Equal_int r_slices_Equal_int
  with_reducible refine auC ?_
  repeat' (first
    | (with_reducible refine auS ?_)
    | fail
    | (with_reducible refine auD ?_)
    | ((with_reducible refine auB ?_ ?_); all_goals first | (intro h; first | exact auH | simp only [h, runR_t, runR_f] | skip) | skip)
    | fail)
  refine go_loopH (α := Nat) (fun k => [(⟨.d0, .d1, .d5⟩, .v (.int .i64 (k : Nat)))]) (fun _ => []) (fun _ => Γ.g0) (fun k => l.length - k) (fun k => k ≤ l.length) 0 (Nat.zero_le _) ?_ ?_
  · skip
    refine le_mk ?_ ?_ (Nat.le_refl _)
    all_goals first | with_reducible refine auE ?_ | exact auE0
    all_goals (repeat' (first | exact trivial | exact rfl | apply And.intro))
  · rintro k hk
    with_reducible refine auL ?_
    by_cases hlt : k < l.length
    · obtain ⟨t, ht⟩ : ∃ t, l[k]? = some t := ⟨_, List.getElem?_eq_getElem hlt⟩
      have ex := xget_map vlE l k t ht
      repeat' (first
        | (with_reducible refine auS ?_)
        | fail
        | (with_reducible refine auD ?_)
        | ((with_reducible refine auB ?_ ?_); all_goals first | (intro h; first | exact auH | simp only [h, runR_t, runR_f] | skip) | skip)
        | (simp only [Int.toNat_natCast, ex]))
      (all_goals first | exact auP | skip)
      all_goals first
        | (exfalso; simp at h; done)
        | (refine nx_loop ⟨k + 1, Nat.succ_le_of_lt hlt, Nat.sub_lt_sub_left hlt (Nat.lt_succ_self k), ?_⟩
           (refine le_mk ?_ ?_ (Nat.le_refl _)); (all_goals first | with_reducible refine auE ?_ | exact auE0); (all_goals (repeat' (first | exact trivial | exact rfl | apply And.intro)))
           all_goals exact dint ((IntWalk.i64_in _ (by omega)).trans (by omega)))
    · skip
      repeat' (first
        | (with_reducible refine auS ?_)
        | fail
        | (with_reducible refine auD ?_)
        | ((with_reducible refine auB ?_ ?_); all_goals first | (intro h; first | exact auH | simp only [h, runR_t, runR_f] | skip) | skip)
        | fail)
      (all_goals first | exact auP | skip)
      all_goals with_reducible refine auF ?_
      all_goals (try first | with_reducible refine auR ?_ | exact auR0)
      all_goals (try simp only [hsM] at *)
theorem nt_nil : Spec Try.prog 11 [.v (.slice none 0 0), .v (.slice none 0 0)] (.v (.bool true)) :=
  hspec_args (nteq_same [] false false (Nat.zero_le _)) (fun K w vs h => argsRel_mem h rfl (fun i d e hd he v hv => by
    match i, hd, he with
    | 0, hd, he =>
      obtain rfl := Option.some.inj hd
      obtain rfl := Option.some.inj he
      exact nil_rel hv _ (nil_snap 2)
    | 1, hd, he =>
      obtain rfl := Option.some.inj hd
      obtain rfl := Option.some.inj he
      exact nil_rel hv _ (nil_snap 2)
    | i + 2, hd, he => simp at hd))
theorem vl_nil : Spec Try.prog 12 [.v (.slice none 0 0), .v (.slice none 0 0)] (.v (.bool true)) :=
  hspec_args (vleq_same [] false false (Nat.zero_le _)) (fun K w vs h => argsRel_mem h rfl (fun i d e hd he v hv => by
    match i, hd, he with
    | 0, hd, he =>
      obtain rfl := Option.some.inj hd
      obtain rfl := Option.some.inj he
      exact nil_rel hv _ (nil_snap 1)
    | 1, hd, he =>
      obtain rfl := Option.some.inj hd
      obtain rfl := Option.some.inj he
      exact nil_rel hv _ (nil_snap 1)
    | i + 2, hd, he => simp at hd))
theorem lay_len' {L : List Nd} {T : Tr} (h : L = lay T 0) (h5 : L.length ≤ 500) : T.size ≤ 1000 := by
  have := lay_len T 0
  rw [← h] at this
  omega
/-- What both answer of an address. -/
theorem find_both (L : List Nd) (c : Bool) (a : Nat) (ha : a < 4294967296) : ∃ p q r s : Int, Spec Try.prog 5 [dTrie L c, .v (.int .u32 (a : Nat))] (.tup [.agg [.v (.int .u32 p), .v (.int .i64 q)], .v (.int .i64 r), .v (.int .i64 s)]) ∧
    Spec Try.prog 6 [dTrie L c, .v (.int .u32 (a : Nat))] (.tup [.agg [.v (.int .u32 p), .v (.int .i64 q)], .v (.int .i64 r), .v (.int .i64 s)]) := by
  have hrd := read_spec L c
  obtain ⟨h1, h2⟩ := right_read L
  unfold dRd at hrd
  by_cases he : (readG L).2 = 0
  · obtain ⟨z1, z2, z3, z4, z5⟩ := h2 he
    rw [he] at hrd h1
    have hri := right_spec L c
    rw [h1] at hri
    have hrow := rows_spec L c z1
    rw [z4] at hrow
    have hf := find_good L c _ a ha z3 hrd
    have ht := tfind_good L c a ha (rowsT (readG L).1 []) hri hrow (rowsR_ok z4) (by have := rowsR_len z4; omega)
    have e := find_eq a (readG L).1 0 none (by omega) (fun x h => by cases h)
    have e : (rowsT (readG L).1 []).foldl (stepR (bitsL a 32)) none = upR a (findT a (readG L).1 0 none) := e
    rw [e] at ht
    cases hG : findT a (readG L).1 0 none with
    | none =>
      rw [hG] at hf ht
      exact ⟨_, _, _, _, hf, ht⟩
    | some x =>
      obtain ⟨d, v⟩ := x
      rw [hG] at hf ht
      refine ⟨_, _, _, _, hf, ?_⟩
      have e2 : dTF (upR a (some (d, v))) = .tup [dNt (netA (bitsL a d)) (bitsL a d).length, .v (.int .i64 v), .v (.int .i64 0)] := rfl
      rw [e2, bitsL_len] at ht
      exact ht
  · have hf := find_bad L c _ a _ he hrd
    have ht := tfind_bad L c a (by rw [h1]; exact he)
    rw [h1] at ht
    exact ⟨_, _, _, _, hf, ht⟩
end Go.Proofs.Ytlfbjdafnappdaa
