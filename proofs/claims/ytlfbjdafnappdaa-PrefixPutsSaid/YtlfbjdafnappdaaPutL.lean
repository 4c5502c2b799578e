/-
  Tries in the reference: Put.
-/
import Derived.Test.YtlfbjdafnappdaaPutM
namespace Go.Proofs.Ytlfbjdafnappdaa
set_option linter.unusedVariables false
set_option linter.unusedSimpArgs false
theorem mspec_rel {P : Program} {f : FuncId} {ds : List DV} {H0 : HL} {c : Nat} {D D' : Nat → DV} {H1 : Nat → HL} (h : MSpec P f ds H0 c (fun m d H => d = D m ∧ H = H1 m)) (hD : ∀ K w v m, VRel K w (D m) v → VRel K w (D' m) v) : MSpec P f ds H0 c (fun m d H => d = D' m ∧ H = H1 m) :=
  ⟨h.1, fun K w vs g0 hI hlt ha => (h.2 K w vs g0 hI hlt ha).mono fun e w' ⟨v, q1, hr⟩ => ⟨v, q1, fun n hn => by
    obtain ⟨K', d, H2, ⟨e1, e2⟩, a1, a2, a3, hv⟩ := hr n hn
    subst e1
    exact ⟨K', D' n, H2, ⟨rfl, e2⟩, a1, a2, a3, hD _ _ _ _ hv⟩⟩⟩
theorem rows_own0 (c : Bool) (j : Nat) : MSpec Try.prog 9 [dTrie [] c] [] 1 (fun m d H => d = .tup [.sl j m 2 0 0 false, .v (.bool true)] ∧ H = [some ⟨m, 2, []⟩]) := by
  refine mspec_fn Try.func9 rfl ok_custref_TrieRows okr_custref_TrieRows rfl (by kernel_rfl) ?_
  intro Γ hW0 hN0 hL0
  have hW := hW0 rfl
  clear hW0 hN0 hL0
  unfold x_custref_TrieRows r_custref_TrieRows
  with_reducible refine auC ?_
  repeat' (first
    | (with_reducible refine auS ?_)
    | (simp only [List.map_nil, List.length_nil, Int.natCast_zero, decide_true])
    | (with_reducible refine auD ?_)
    | ((with_reducible refine auB ?_ ?_); all_goals first | ((with_reducible intro h); first | exact auH | simp only [h, runR_t, runR_f] | skip) | skip)
    | fail)
  (all_goals first | exact auP | skip)
  all_goals first
    | (exfalso; simp at h; done)
    | skip
  refine retqm_le (le_leG (le_row ⟨.d0, .d0, .d2⟩ 5 2 rfl rfl)) ?_
  refine ret_m [5] [Γ.g0 + 1] trivial (by decide) rfl (fun a ha => by simp at ha; subst ha; exact ⟨5, _, rfl, rfl⟩) (fun m => ⟨⟨j, m, .inl ⟨0, rfl, rfl⟩, rfl⟩, ⟨rfl, trivial⟩, rfl⟩) (fun m => ⟨⟨.inl ⟨0, rfl, rfl⟩, rfl, renMLL_nf [] trivial⟩, rfl⟩)
theorem rows_own (L : List Nd) (c : Bool) (hl : L.length ≤ 500) {X : List Rw} (hX : rowsR L = some X) (j : Nat) : MSpec Try.prog 9 [dTrie L c] [] 1 (fun m d H => d = .tup [.sl j m 2 0 X.length false, .v (.bool true)] ∧ H = [some ⟨m, 2, rwR X⟩]) := by
  unfold rowsR at hX
  by_cases h0 : L = []
  · subst h0
    rw [if_pos (show ([] : List Nd).length = 0 from rfl)] at hX
    obtain rfl := Option.some.inj hX
    exact rows_own0 c j
  · rw [if_neg (fun e => h0 (List.length_eq_zero_iff.1 e))] at hX
    have h := rows_core L c h0 hl
    rw [hX] at h
    exact mspec_rel h (fun K w v m hv => by
      cases hv with
      | tup hl hc =>
        refine .tup hl fun i d c hd hcc => ?_
        cases i with
        | zero =>
          obtain rfl := Option.some.inj hd
          exact sl_label (hc 0 _ c rfl hcc)
        | succ i => exact hc (i + 1) d c hd hcc)
theorem tput_bad (L : List Nd) (c : Bool) (a l v : Int) (he : rightG L ≠ 0) : Spec Try.prog 14 [dTrie L c, dNi a l, .v (.int .i64 v)] (dRes [] (rightG L)) := by
  have hr := right_spec L c
  refine res_nil ?_
  generalize rightG L = e at *
  have d2 : decide (e = 0) = false := decide_eq_false he
  refine hspec_fn Try.func14 rfl ok_custref_TriePut okr_custref_TriePut rfl (by kernel_rfl) ?_
  intro Γ hW0 hN0 hL0
  have hW := hW0 rfl
  clear hW0 hN0 hL0
  unfold x_custref_TriePut r_custref_TriePut
  with_reducible refine auC ?_
  repeat' (first
    | (with_reducible refine auS ?_)
    | (first | (simp only [d2]) | (with_reducible refine runR_call hr ?_))
    | (with_reducible refine auD ?_)
    | ((with_reducible refine auB ?_ ?_); all_goals first | ((with_reducible intro h); first | exact auH | simp only [h, runR_t, runR_f] | skip) | skip)
    | fail)
  (all_goals first | exact auP | skip)
  all_goals with_reducible refine auF ?_
  all_goals (try first | with_reducible refine auR ?_ | exact auR0)
  all_goals (try simp only [hsM] at *)
theorem tput_net (L : List Nd) (c : Bool) (a l v : Int) (ha : 0 ≤ a ∧ a < 4294967296) (he : rightG L = 0) (hn : isNet a l = false) : Spec Try.prog 14 [dTrie L c, dNi a l, .v (.int .i64 v)] (dRes [] 1) := by
  have hr := right_spec L c
  rw [he] at hr
  have hnet := isNet_spec a l ha
  rw [hn] at hnet
  refine res_nil ?_
  refine hspec_fn Try.func14 rfl ok_custref_TriePut okr_custref_TriePut rfl (by kernel_rfl) ?_
  intro Γ hW0 hN0 hL0
  have hW := hW0 rfl
  clear hW0 hN0 hL0
  unfold x_custref_TriePut r_custref_TriePut
  with_reducible refine auC ?_
  repeat' (first
    | (with_reducible refine auS ?_)
    | (first | (with_reducible refine runR_call hr ?_) | (with_reducible refine runR_call hnet ?_))
    | (with_reducible refine auD ?_)
    | ((with_reducible refine auB ?_ ?_); all_goals first | ((with_reducible intro h); first | exact auH | simp only [h, runR_t, runR_f] | skip) | skip)
    | fail)
  (all_goals first | exact auP | skip)
  all_goals with_reducible refine auF ?_
  all_goals (try first | with_reducible refine auR ?_ | exact auR0)
  all_goals (try simp only [hsM] at *)
/-- The rows after a put. -/
abbrev putR (q : B8) (v : Int) (X : List Rw) : List Rw := dropR q X ++ [(q, v)]
set_option maxHeartbeats 4000000 in
theorem tput_good (L : List Nd) (c : Bool) (A Lg : Nat) (v : Int) (hA : A < 4294967296) (hL : Lg ≤ 32) (he : rightG L = 0) (hl : L.length ≤ 500) {X : List Rw} (hX : rowsR L = some X) (hn : isNet A Lg = true) : Spec Try.prog 14 [dTrie L c, dNi A Lg, .v (.int .i64 v)]
    (if 500 < (trieG (putR (bitsL A Lg) v X)).length then dRes [] 2 else dRes (trieG (putR (bitsL A Lg) v X)) 0) := by
  have hr := right_spec L c
  rw [he] at hr
  have hnet := isNet_spec A Lg (by omega)
  rw [hn] at hnet
  have hro := rows_own L c hl hX 5
  have hbits := bitsOf_any A Lg hA hL
  have hlX : X.length ≤ 505 := by have := rowsR_len hX; omega
  have hw := rowsR_ok hX
  have hwz := rwOk_put (v := v) hw (bin_bits A Lg) (by rw [bitsL_len]; exact hL)
  have hdl := drop_le (bitsL A Lg) X
  have hdr := fun n => drop_spec (bitsL A Lg) (put1_spec (bitsL A Lg)) 5 X (by unfold maxLen; omega) n
  have hzl : (putR (bitsL A Lg) v X).length ≤ 510 := by unfold putR; rw [List.length_append, List.length_singleton]; omega
  have hto := fun (n : Nat) (full : Bool) => mspec_giveR (full := full) _ (rwR_len _) (trieOf_own (putR (bitsL A Lg) v X) false hzl hwz) 5 n
  have sA : rwR (dropR (bitsL A Lg) X) ++ [[.v (.string (mkS (bitsL A Lg))), .v (.int .i64 v)]] = rwR (putR (bitsL A Lg) v X) := by simp [putR, rwR, rwE]
  have sL : (dropR (bitsL A Lg) X).length + 1 = (putR (bitsL A Lg) v X).length := by simp [putR]
  have hlD := rwR_len (dropR (bitsL A Lg) X)
  generalize bitsL A Lg = q at *
  generalize putR q v X = Z at *
  generalize trieG Z = Y at *
  generalize dropR q X = D at *
  have hlY := ndX_len Y
  by_cases h5 : 500 < Y.length
  · rw [if_pos h5]
    refine res_nil ?_
    have hd : decide ((500 : Int) < ((Y.length : Nat) : Int)) = true := decide_eq_true (by omega)
    refine hspec_fn Try.func14 rfl ok_custref_TriePut okr_custref_TriePut rfl (by kernel_rfl) ?_
    intro Γ hW0 hN0 hL0
    have hW := hW0 rfl
    clear hW0 hN0 hL0
    unfold x_custref_TriePut r_custref_TriePut
    with_reducible refine auC ?_
    repeat' (first
      | (refine go_leG (leG_freezeP hW ⟨.d0, .d1, .d3⟩ rfl rfl ⟨rfl, rfl, Nat.succ_pos _⟩) ?_)
      | (with_reducible refine auS ?_)
      | (first | (simp only [hlY, hd, sA, hlD, sL, decide_true, Bool.not_true, Bool.not_false]) | (with_reducible refine runR_call hr ?_) | (with_reducible refine runR_call hnet ?_) | (with_reducible refine runR_call hbits ?_) | ((with_reducible refine atCall 9 ?_); (refine runR_callM [5] (by decide) rfl hro ?_)) | ((with_reducible refine runR_callH 5 ?_ (hdr _) (fun _ _ _ h => h) ?_); (exact rfl)) | ((with_reducible refine atCall 25 ?_); (refine runR_callG [5] [7] [5, 7] rfl (by decide) rfl rfl (hto _ _) ?_)))
      | (with_reducible refine auD ?_)
      | ((with_reducible refine auB ?_ ?_); all_goals first | ((with_reducible intro h); first | exact auH | simp only [h, runR_t, runR_f] | skip) | skip)
      | fail)
    (all_goals first | exact auP | skip)
    all_goals with_reducible refine auF ?_
    all_goals (try first | with_reducible refine auR ?_ | exact auR0)
    all_goals (try simp only [hsM] at *)
  · rw [if_neg h5]
    have hd : decide ((500 : Int) < ((Y.length : Nat) : Int)) = false := decide_eq_false (by omega)
    refine hspec_fn Try.func14 rfl ok_custref_TriePut okr_custref_TriePut rfl (by kernel_rfl) ?_
    intro Γ hW0 hN0 hL0
    have hW := hW0 rfl
    clear hW0 hN0 hL0
    unfold x_custref_TriePut r_custref_TriePut
    with_reducible refine auC ?_
    repeat' (first
      | (refine go_leG (leG_freezeP hW ⟨.d0, .d1, .d3⟩ rfl rfl ⟨rfl, rfl, Nat.succ_pos _⟩) ?_)
      | (with_reducible refine auS ?_)
      | (first | (simp only [hlY, hd, sA, hlD, sL, decide_true, Bool.not_true, Bool.not_false]) | (with_reducible refine runR_call hr ?_) | (with_reducible refine runR_call hnet ?_) | (with_reducible refine runR_call hbits ?_) | ((with_reducible refine atCall 9 ?_); (refine runR_callM [5] (by decide) rfl hro ?_)) | ((with_reducible refine runR_callH 5 ?_ (hdr _) (fun _ _ _ h => h) ?_); (exact rfl)) | ((with_reducible refine atCall 25 ?_); (refine runR_callG [5] [7] [5, 7] rfl (by decide) rfl rfl (hto _ _) ?_)))
      | (with_reducible refine auD ?_)
      | ((with_reducible refine auB ?_ ?_); all_goals first | ((with_reducible intro h); first | exact auH | simp only [h, runR_t, runR_f] | skip) | skip)
      | fail)
    (all_goals first | exact auP | skip)
    have hnf := ndX_nf Y
    have e1 : xtake (xdrop (ndX Y) 0) Y.length = ndX Y := by rw [xdrop_eq, xtake_eq, List.drop_zero, List.take_of_length_le (Nat.le_of_eq hlY)]
    refine retq_le (leG_freezeO hW 2 7 (by decide) (ys := [[.snap 4 (ndX Y) false]]) rfl rfl ⟨⟨Or.inl ⟨rfl, rfl, by rw [Nat.zero_add]; exact Nat.le_of_eq hlY.symm, by rw [e1]⟩, rfl⟩, rfl⟩) ?_
    all_goals with_reducible refine ret_spec2 (by (try first | with_reducible refine auR ?_ | exact auR0); (repeat' (first | exact trivial | exact rfl | exact (by exact hnf _) | decide | apply And.intro))) ?_
    all_goals (try first | with_reducible refine auR ?_ | exact auR0)
end Go.Proofs.Ytlfbjdafnappdaa
