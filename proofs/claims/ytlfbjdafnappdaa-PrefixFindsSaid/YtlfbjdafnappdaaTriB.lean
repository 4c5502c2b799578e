/-
  Tries in the program: All.
-/
import Derived.Test.YtlfbjdafnappdaaTriA
namespace Go.Proofs.Ytlfbjdafnappdaa
set_option linter.unusedVariables false
set_option linter.unusedSimpArgs false
/-- A nil slice in a cell, as a row of the call's own. -/
theorem go_rowG {Γ : Gm} {P : Program} {N : Nat} {R : St → Prop} {x : XC} {kk : List KI} {st : St} (j k sz : Nat) (hjk : j ≠ k) {n : Nat} (hp : lget st.H j = some ⟨n, 1, [[.v (.slice none 0 0)]]⟩) (h : Go Γ P N R x kk ⟨st.tm, lset (lset st.H j (some ⟨n, 1, [[.sl k st.gen sz 0 0 false]]⟩)) k (some ⟨st.gen, sz, []⟩), st.gen + 1⟩) : Go Γ P N R x kk st :=
  go_leG (le_leG (le_rowG j k sz 1 hjk (y := [.sl k st.gen sz 0 0 false]) hp rfl (fun i d d' h1 h2 => by
    match i, h1, h2 with
    | 0, h1, h2 =>
      obtain rfl := Option.some.inj h1
      obtain rfl := Option.some.inj h2
      exact .inr ⟨rfl, k, rfl⟩
    | i + 1, h1, h2 => simp at h1) Nat.one_pos)) h
theorem all_bad (L : List Nd) (c : Bool) (T : DV) (e : Int) (he : e ≠ 0) (hrd : Spec Try.prog 19 [dTrie L c] (.tup [T, .v (.int .i64 e)])) : Spec Try.prog 7 [dTrie L c] (.tup [.v (.slice none 0 0), .v (.slice none 0 0), .v (.int .i64 e)]) := by
  refine hspec_fn Try.func7 rfl ok_prefix_All okr_prefix_All rfl (by kernel_rfl) ?_
  intro Γ hW0 hN0 hL0
  have hW := hW0 rfl
  clear hW0 hN0 hL0
  unfold x_prefix_All r_prefix_All
  with_reducible refine auC ?_
  repeat' (first
    | (with_reducible refine auS ?_)
    | (with_reducible refine runR_call hrd ?_)
    | (with_reducible refine auD ?_)
    | ((with_reducible refine auB ?_ ?_); all_goals first | (intro h; first | exact auH | simp only [h, runR_t, runR_f] | skip) | skip)
    | fail)
  (all_goals first | exact auP | skip)
  all_goals with_reducible refine auF ?_
  all_goals (try first | with_reducible refine auR ?_ | exact auR0)
  all_goals (try simp only [hsM] at *)
set_option maxHeartbeats 2000000 in
theorem all_good (L : List Nd) (c : Bool) (T : Tr) (hd : T.deep ≤ 33) (hs : T.size ≤ 1000) (hrd : Spec Try.prog 19 [dTrie L c] (.tup [dTr T, .v (.int .i64 0)])) : Spec Try.prog 7 [dTrie L c] (.tup [.snap 2 (ntR (rowsT T [])) false, .snap 1 (vlR (rowsT T [])) false, .v (.int .i64 0)]) := by
  have c0 : ∀ nN nV nW rN rV, MSpec Try.prog 24 [dTr T, .agg [.v (.int .u32 0), .v (.int .i64 0)], .ptr 1 nN 1 0 0, .ptr 2 nV 1 0 0, .ptr 3 nW 1 0 0] [none, some ⟨nN, 1, [[.sl 6 rN 2 0 0 false]]⟩, some ⟨nV, 1, [[.sl 8 rV 1 0 0 false]]⟩, some ⟨nW, 1, [[.fn (.func 24) [] [.ptr 1 nN 1 0 0, .ptr 2 nV 1 0 0, .ptr 3 nW 1 0 0]]]⟩, none, none, some ⟨rN, 2, []⟩, none, some ⟨rV, 1, []⟩] 2 (fun m d H => d = .tup [] ∧ H = hAll nN nV nW m (m + 1) (rowsT T [])) := fun nN nV nW rN rV => by
    have := all_any T [] nN nV nW rN rV [] (by simpa using hd) (by simpa using hs)
    unfold AllS at this
    rw [netA_nil] at this
    exact this
  have x1 := ntR_len (rowsT T [])
  have x2 := vlR_len (rowsT T [])
  generalize rowsT T [] = X at *
  have e1 : xtake (xdrop (ntR X) 0) X.length = ntR X := by rw [xdrop_eq, xtake_eq, List.drop_zero, List.take_of_length_le (Nat.le_of_eq x1)]
  have e2 : xtake (xdrop (vlR X) 0) X.length = vlR X := by rw [xdrop_eq, xtake_eq, List.drop_zero, List.take_of_length_le (Nat.le_of_eq x2)]
  have hnA := ntR_nf X
  have hnB := vlR_nf X
  refine hspec_fn Try.func7 rfl ok_prefix_All okr_prefix_All rfl (by kernel_rfl) ?_
  intro Γ hW0 hN0 hL0
  have hW := hW0 rfl
  clear hW0 hN0 hL0
  unfold x_prefix_All r_prefix_All
  with_reducible refine auC ?_
  repeat' (first
    | ((with_reducible refine atGo ?_); first | (refine go_rowG 1 6 2 (by decide) rfl ?_) | (refine go_rowG 2 8 1 (by decide) rfl ?_) | fail)
    | (with_reducible refine auS ?_)
    | (first | (with_reducible refine runR_call hrd ?_) | ((with_reducible refine atCall 24 ?_); (refine runR_callG [9, 1, 2, 3, 10, 11, 6, 12, 8] [] [9, 1, 2, 3, 10, 11, 6, 12, 8] rfl (by decide) rfl rfl (c0 _ _ _ _ _) ?_)))
    | (with_reducible refine auD ?_)
    | ((with_reducible refine auB ?_ ?_); all_goals first | (intro h; first | exact auH | simp only [h, runR_t, runR_f] | skip) | skip)
    | fail)
  (all_goals first | exact auP | skip)
  refine retq_le (leG_freeze hW ⟨.d0, .d0, .d2⟩ rfl rfl ⟨rfl, rfl, by simp⟩) ?_
  refine retq_le (leG_freeze hW ⟨.d0, .d0, .d3⟩ rfl rfl ⟨rfl, rfl, by simp⟩) ?_
  simp only [e1, e2]
  all_goals with_reducible refine ret_spec2 (by (try first | with_reducible refine auR ?_ | exact auR0); (repeat' (first | exact trivial | exact rfl | exact (by first | exact hnA _ | exact hnB _) | decide | apply And.intro))) ?_
  all_goals (try first | with_reducible refine auR ?_ | exact auR0)
end Go.Proofs.Ytlfbjdafnappdaa
