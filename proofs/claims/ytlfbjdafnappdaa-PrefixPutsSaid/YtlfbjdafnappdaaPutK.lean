/-
  Tries in the reference: whether one is right (for Put and Remove).
-/
import Derived.Test.YtlfbjdafnappdaaPutI
namespace Go.Proofs.Ytlfbjdafnappdaa
set_option linter.unusedVariables false
set_option linter.unusedSimpArgs false
theorem rowsG_len (L : List Nd) : ∀ (f : Nat) (st : List (Nat × B8)) (out res : List Rw), rowsG L f st out = some res → res.length ≤ out.length + f
  | f, [], out, res, h => by
    rw [rowsG_nil] at h
    obtain rfl := Option.some.inj h
    omega
  | 0, _ :: _, out, res, h => by
    unfold rowsG at h
    simp at h
  | f + 1, (i, b) :: r, out, res, h => by
    rw [rowsG_succ] at h
    split at h
    · simp at h
    · split at h
      · have := rowsG_len L f _ _ res h
        have h2 : (outN (L.getD i nd0) b out).length ≤ out.length + 1 := by
          unfold outN
          split <;> simp
        omega
      · simp at h
theorem rowsR_len {L : List Nd} {X : List Rw} (h : rowsR L = some X) : X.length ≤ L.length + 1 := by
  unfold rowsR at h
  split at h
  · obtain rfl := Option.some.inj h
    exact Nat.zero_le _
  · have := rowsG_len L _ _ _ _ h
    simpa using this
theorem trieG_len {X : List Rw} (h : rwOk 33 X) : (trieG X).length ≤ 33 * X.length := by
  rw [← trieA_is h (begB_sorted X) (begB_mem X)]
  unfold trieA begB
  rw [List.length_map]
  have h1 := compact_le (sortB (prefs X))
  have h2 := sortB_len (prefs X)
  have h3 := prefs_len X (fun r hr => by have := (h r hr).2; omega)
  omega
theorem right_spec (L : List Nd) (c : Bool) : Spec Try.prog 8 [dTrie L c] (.v (.int .i64 (rightG L))) := by
  by_cases h5 : 500 < L.length
  · exact right_l L c h5
  have h1 : (L.map Nd.enc).length = L.length := List.length_map _
  have hrow := rows_spec L c (by omega)
  unfold rightG
  rw [if_neg h5]
  cases hq : rowsR L with
  | none =>
    rw [hq] at hrow
    unfold dRows at hrow
    refine hspec_fn Try.func8 rfl ok_custref_TrieRight okr_custref_TrieRight rfl (by kernel_rfl) ?_
    intro Γ hW0 hN0 hL0
    have hW := hW0 rfl
    clear hW0 hN0 hL0
    unfold x_custref_TrieRight r_custref_TrieRight
    with_reducible refine auC ?_
    repeat' (first
      | (with_reducible refine auS ?_)
      | (first | (simp only [h1]) | (with_reducible refine runR_call hrow ?_))
      | (with_reducible refine auD ?_)
      | ((with_reducible refine auB ?_ ?_); all_goals first | (intro h; first | exact auH | simp only [h, runR_t, runR_f] | skip) | skip)
      | fail)
    (all_goals first | exact auP | skip)
    all_goals with_reducible refine auF ?_
    all_goals (try first | with_reducible refine auR ?_ | exact auR0)
    all_goals (try simp only [hsM] at *)
  | some X =>
    rw [hq] at hrow
    unfold dRows at hrow
    have hw := rowsR_ok hq
    have hl := rowsR_len hq
    have hof := trieOf_spec X false (by omega) hw
    have hsame := same_spec L (trieG X) c false (by unfold maxLen; omega) (by have := trieG_len hw; unfold maxLen; omega)
    dsimp only
    by_cases he : L = trieG X
    · rw [decide_eq_true he] at hsame
      rw [if_pos he]
      refine hspec_fn Try.func8 rfl ok_custref_TrieRight okr_custref_TrieRight rfl (by kernel_rfl) ?_
      intro Γ hW0 hN0 hL0
      have hW := hW0 rfl
      clear hW0 hN0 hL0
      unfold x_custref_TrieRight r_custref_TrieRight
      with_reducible refine auC ?_
      repeat' (first
        | (with_reducible refine auS ?_)
        | (first | (simp only [h1]) | (with_reducible refine runR_call hrow ?_) | (with_reducible refine runR_call hof ?_) | (with_reducible refine runR_call hsame ?_))
        | (with_reducible refine auD ?_)
        | ((with_reducible refine auB ?_ ?_); all_goals first | (intro h; first | exact auH | simp only [h, runR_t, runR_f] | skip) | skip)
        | fail)
      (all_goals first | exact auP | skip)
      all_goals with_reducible refine auF ?_
      all_goals (try first | with_reducible refine auR ?_ | exact auR0)
      all_goals (try simp only [hsM] at *)
    · rw [decide_eq_false he] at hsame
      rw [if_neg he]
      refine hspec_fn Try.func8 rfl ok_custref_TrieRight okr_custref_TrieRight rfl (by kernel_rfl) ?_
      intro Γ hW0 hN0 hL0
      have hW := hW0 rfl
      clear hW0 hN0 hL0
      unfold x_custref_TrieRight r_custref_TrieRight
      with_reducible refine auC ?_
      repeat' (first
        | (with_reducible refine auS ?_)
        | (first | (simp only [h1]) | (with_reducible refine runR_call hrow ?_) | (with_reducible refine runR_call hof ?_) | (with_reducible refine runR_call hsame ?_))
        | (with_reducible refine auD ?_)
        | ((with_reducible refine auB ?_ ?_); all_goals first | (intro h; first | exact auH | simp only [h, runR_t, runR_f] | skip) | skip)
        | fail)
      (all_goals first | exact auP | skip)
      all_goals with_reducible refine auF ?_
      all_goals (try first | with_reducible refine auR ?_ | exact auR0)
      all_goals (try simp only [hsM] at *)
end Go.Proofs.Ytlfbjdafnappdaa
