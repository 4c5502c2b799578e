/-
  Tries in the reference: Remove.
-/
import Derived.Test.YtlfbjdafnappdaaPutL
namespace Go.Proofs.Ytlfbjdafnappdaa
set_option linter.unusedVariables false
set_option linter.unusedSimpArgs false
theorem trem_bad (L : List Nd) (c : Bool) (a l : Int) (he : rightG L ≠ 0) : Spec Try.prog 16 [dTrie L c, dNi a l] (dRes [] (rightG L)) := by
  have hr := right_spec L c
  refine res_nil ?_
  generalize rightG L = e at *
  have d2 : decide (e = 0) = false := decide_eq_false he
  refine hspec_fn Try.func16 rfl ok_custref_TrieRemove okr_custref_TrieRemove rfl (by kernel_rfl) ?_
  intro Γ hW0 hN0 hL0
  have hW := hW0 rfl
  clear hW0 hN0 hL0
  unfold x_custref_TrieRemove r_custref_TrieRemove
  with_reducible refine auC ?_
  repeat' (first
    | (with_reducible refine auS ?_)
    | (first | (simp only [d2]) | (with_reducible refine runR_call hr ?_))
    | (with_reducible refine auD ?_)
    | ((with_reducible refine auB ?_ ?_); all_goals first | ((with_reducible intro h); first | exact auH | simp only [h, runR_t, runR_f] | skip) | skip)
    | fail)
  (all_goals first | exact auP | skip)
  all_goals with_reducible refine auF ?_
  all_goals (try first | with_reducible refine auR ?_ | exact auR0)
  all_goals (try simp only [hsM] at *)
theorem rows_some (L : List Nd) (c : Bool) (hl : L.length ≤ 500) {X : List Rw} (hX : rowsR L = some X) : Spec Try.prog 9 [dTrie L c] (.tup [.snap 2 (rwR X) false, .v (.bool true)]) := by
  have h := rows_spec L c hl
  rw [hX] at h
  exact h
theorem trem_net (L : List Nd) (c : Bool) (a l : Int) (ha : 0 ≤ a ∧ a < 4294967296) (he : rightG L = 0) (hl : L.length ≤ 500) {X : List Rw} (hX : rowsR L = some X) (hn : isNet a l = false) : Spec Try.prog 16 [dTrie L c, dNi a l] (dRes [] 7) := by
  have hr := right_spec L c
  rw [he] at hr
  have hrow := rows_some L c hl hX
  have hnet := isNet_spec a l ha
  rw [hn] at hnet
  refine res_nil ?_
  refine hspec_fn Try.func16 rfl ok_custref_TrieRemove okr_custref_TrieRemove rfl (by kernel_rfl) ?_
  intro Γ hW0 hN0 hL0
  have hW := hW0 rfl
  clear hW0 hN0 hL0
  unfold x_custref_TrieRemove r_custref_TrieRemove
  with_reducible refine auC ?_
  repeat' (first
    | (with_reducible refine auS ?_)
    | (first | (with_reducible refine runR_call hr ?_) | (with_reducible refine runR_call hrow ?_) | (with_reducible refine runR_call hnet ?_))
    | (with_reducible refine auD ?_)
    | ((with_reducible refine auB ?_ ?_); all_goals first | ((with_reducible intro h); first | exact auH | simp only [h, runR_t, runR_f] | skip) | skip)
    | fail)
  (all_goals first | exact auP | skip)
  all_goals with_reducible refine auF ?_
  all_goals (try first | with_reducible refine auR ?_ | exact auR0)
  all_goals (try simp only [hsM] at *)
set_option maxHeartbeats 4000000 in
theorem trem_good (L : List Nd) (c : Bool) (A Lg : Nat) (hA : A < 4294967296) (hL : Lg ≤ 32) (he : rightG L = 0) (hl : L.length ≤ 500) {X : List Rw} (hX : rowsR L = some X) (hn : isNet A Lg = true) : Spec Try.prog 16 [dTrie L c, dNi A Lg]
    (if (dropR (bitsL A Lg) X).length < X.length then dRes (trieG (dropR (bitsL A Lg) X)) 0 else dRes [] 7) := by
  have hr := right_spec L c
  rw [he] at hr
  have hnet := isNet_spec A Lg (by omega)
  rw [hn] at hnet
  have hrow := rows_some L c hl hX
  have hbits := bitsOf_any A Lg hA hL
  have hlX : X.length ≤ 505 := by have := rowsR_len hX; omega
  have hw := rowsR_ok hX
  have hwd := rwOk_drop (q := bitsL A Lg) hw
  have hdl := drop_le (bitsL A Lg) X
  have hdr := fun n => drop_spec (bitsL A Lg) (rem1_spec (bitsL A Lg)) 4 X (by unfold maxLen; omega) n
  have hcl := rwclone_spec 4 X false (by unfold room maxLen; omega)
  have hto := fun (n : Nat) (full : Bool) => mspec_giveR (full := full) _ (rwR_len _) (trieOf_own (dropR (bitsL A Lg) X) false (by omega) hwd) 4 n
  have hlx := rwR_len X
  have hlD := rwR_len (dropR (bitsL A Lg) X)
  generalize bitsL A Lg = q at *
  generalize dropR q X = D at *
  generalize trieG D = Y at *
  have hlY := ndX_len Y
  by_cases h5 : D.length < X.length
  · rw [if_pos h5]
    have hd : decide ((D.length : Int) < ((X.length : Nat) : Int)) = true := decide_eq_true (by omega)
    refine hspec_fn Try.func16 rfl ok_custref_TrieRemove okr_custref_TrieRemove rfl (by kernel_rfl) ?_
    intro Γ hW0 hN0 hL0
    have hW := hW0 rfl
    clear hW0 hN0 hL0
    unfold x_custref_TrieRemove r_custref_TrieRemove
    with_reducible refine auC ?_
    repeat' (first
      | (refine go_leG (leG_freezeP hW ⟨.d0, .d1, .d1⟩ rfl rfl ⟨rfl, rfl, Nat.succ_pos _⟩) ?_)
      | (with_reducible refine auS ?_)
      | (first | (simp only [hlY, hd, hlx, hlD, decide_true, Bool.not_true, Bool.not_false]) | (with_reducible refine runR_call hr ?_) | (with_reducible refine runR_call hnet ?_) | (with_reducible refine runR_call hbits ?_) | (with_reducible refine runR_call hrow ?_) | (with_reducible refine runR_callO 4 hcl ?_) | ((with_reducible refine runR_callH 4 ?_ (hdr _) (fun _ _ _ h => h) ?_); (exact rfl)) | ((with_reducible refine atCall 25 ?_); (refine runR_callG [4] [5] [4, 5] rfl (by decide) rfl rfl (hto _ _) ?_)))
      | (with_reducible refine auD ?_)
      | ((with_reducible refine auB ?_ ?_); all_goals first | ((with_reducible intro h); first | exact auH | simp only [h, runR_t, runR_f] | skip) | skip)
      | fail)
    (all_goals first | exact auP | skip)
    have hnf := ndX_nf Y
    have e1 : xtake (xdrop (ndX Y) 0) Y.length = ndX Y := by rw [xdrop_eq, xtake_eq, List.drop_zero, List.take_of_length_le (Nat.le_of_eq hlY)]
    refine retq_le (leG_freezeO hW 2 5 (by decide) (ys := [[.snap 4 (ndX Y) false]]) rfl rfl ⟨⟨Or.inl ⟨rfl, rfl, by rw [Nat.zero_add]; exact Nat.le_of_eq hlY.symm, by rw [e1]⟩, rfl⟩, rfl⟩) ?_
    all_goals with_reducible refine ret_spec2 (by (try first | with_reducible refine auR ?_ | exact auR0); (repeat' (first | exact trivial | exact rfl | exact (by exact hnf _) | decide | apply And.intro))) ?_
    all_goals (try first | with_reducible refine auR ?_ | exact auR0)
  · rw [if_neg h5]
    refine res_nil ?_
    have hd : decide ((D.length : Int) < ((X.length : Nat) : Int)) = false := decide_eq_false (by omega)
    refine hspec_fn Try.func16 rfl ok_custref_TrieRemove okr_custref_TrieRemove rfl (by kernel_rfl) ?_
    intro Γ hW0 hN0 hL0
    have hW := hW0 rfl
    clear hW0 hN0 hL0
    unfold x_custref_TrieRemove r_custref_TrieRemove
    with_reducible refine auC ?_
    repeat' (first
      | (refine go_leG (leG_freezeP hW ⟨.d0, .d1, .d1⟩ rfl rfl ⟨rfl, rfl, Nat.succ_pos _⟩) ?_)
      | (with_reducible refine auS ?_)
      | (first | (simp only [hlY, hd, hlx, hlD, decide_true, Bool.not_true, Bool.not_false]) | (with_reducible refine runR_call hr ?_) | (with_reducible refine runR_call hnet ?_) | (with_reducible refine runR_call hbits ?_) | (with_reducible refine runR_call hrow ?_) | (with_reducible refine runR_callO 4 hcl ?_) | ((with_reducible refine runR_callH 4 ?_ (hdr _) (fun _ _ _ h => h) ?_); (exact rfl)) | ((with_reducible refine atCall 25 ?_); (refine runR_callG [4] [5] [4, 5] rfl (by decide) rfl rfl (hto _ _) ?_)))
      | (with_reducible refine auD ?_)
      | ((with_reducible refine auB ?_ ?_); all_goals first | ((with_reducible intro h); first | exact auH | simp only [h, runR_t, runR_f] | skip) | skip)
      | fail)
    (all_goals first | exact auP | skip)
    all_goals with_reducible refine auF ?_
    all_goals (try first | with_reducible refine auR ?_ | exact auR0)
    all_goals (try simp only [hsM] at *)
end Go.Proofs.Ytlfbjdafnappdaa
