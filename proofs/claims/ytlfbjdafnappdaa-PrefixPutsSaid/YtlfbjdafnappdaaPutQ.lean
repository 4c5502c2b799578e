/-
  Tries in the program: Put and Remove.
-/
import Derived.Test.YtlfbjdafnappdaaPutR
namespace Go.Proofs.Ytlfbjdafnappdaa
set_option linter.unusedVariables false
set_option linter.unusedSimpArgs false
/-- What is handed back: a trie and a number. -/
abbrev dRes (Y : List Nd) (e : Int) : DV := .tup [.agg [.snap 4 (ndX Y) false], .v (.int .i64 e)]
theorem nil_snapQ (sz : Nat) : nilP (.v (.slice none 0 0)) (.snap sz [] false) := .inr ⟨rfl, sz, rfl⟩
theorem res_nil {P : Program} {f : FuncId} {ds : List DV} {e : Int} (h : Spec P f ds (.tup [.agg [.v (.slice none 0 0)], .v (.int .i64 e)])) : Spec P f ds (dRes [] e) := spec_nil h ⟨⟨nil_snapQ 4, rfl⟩, .inl rfl, rfl⟩
theorem put_bad (L : List Nd) (c : Bool) (a l v : Int) (he : (readG L).2 ≠ 0) : Spec Try.prog 13 [dTrie L c, dNi a l, .v (.int .i64 v)] (dRes [] (readG L).2) := by
  have hrd := readO L c
  unfold ReadO at hrd
  have hlen := fun m => spH_len (readG L).1 m
  refine res_nil ?_
  generalize (readG L).1 = T at *
  generalize (readG L).2 = e at *
  have d2 : decide (e = 0) = false := decide_eq_false he
  refine hspec_fn Try.func13 rfl ok_prefix_Put okr_prefix_Put rfl (by kernel_rfl) ?_
  intro Γ hW0 hN0 hL0
  have hW := hW0 rfl
  clear hW0 hN0 hL0
  unfold x_prefix_Put r_prefix_Put
  with_reducible refine auC ?_
  repeat' (first
    | ((with_reducible refine atGo ?_); (refine go_pad6 ?_))
    | (with_reducible refine auS ?_)
    | (first | (simp only [d2]) | ((with_reducible refine atCall 19 ?_); (refine runR_read6 hrd (hlen _) ?_)))
    | (with_reducible refine auD ?_)
    | ((with_reducible refine auB ?_ ?_); all_goals first | (intro h; first | exact auH | simp only [h, runR_t, runR_f] | skip) | skip)
    | fail)
  (all_goals first | exact auP | skip)
  all_goals with_reducible refine auF ?_
  all_goals (try first | with_reducible refine auR ?_ | exact auR0)
  all_goals (try simp only [hsM] at *)
theorem put_net (L : List Nd) (c : Bool) (a l v : Int) (ha : 0 ≤ a ∧ a < 4294967296) (he : (readG L).2 = 0) (hn : isNet a l = false) : Spec Try.prog 13 [dTrie L c, dNi a l, .v (.int .i64 v)] (dRes [] 1) := by
  have hrd := readO L c
  unfold ReadO at hrd
  have hlen := fun m => spH_len (readG L).1 m
  refine res_nil ?_
  have hnet := net_spec a l ha
  rw [hn] at hnet
  rw [he] at hrd
  generalize (readG L).1 = T at *
  refine hspec_fn Try.func13 rfl ok_prefix_Put okr_prefix_Put rfl (by kernel_rfl) ?_
  intro Γ hW0 hN0 hL0
  have hW := hW0 rfl
  clear hW0 hN0 hL0
  unfold x_prefix_Put r_prefix_Put
  with_reducible refine auC ?_
  repeat' (first
    | ((with_reducible refine atGo ?_); (refine go_pad6 ?_))
    | (with_reducible refine auS ?_)
    | (first | ((with_reducible refine atCall 19 ?_); (refine runR_read6 hrd (hlen _) ?_)) | (with_reducible refine runR_call hnet ?_))
    | (with_reducible refine auD ?_)
    | ((with_reducible refine auB ?_ ?_); all_goals first | (intro h; first | exact auH | simp only [h, runR_t, runR_f] | skip) | skip)
    | fail)
  (all_goals first | exact auP | skip)
  all_goals with_reducible refine auF ?_
  all_goals (try first | with_reducible refine auR ?_ | exact auR0)
  all_goals (try simp only [hsM] at *)
set_option maxHeartbeats 4000000 in
theorem put_good (L : List Nd) (c : Bool) (A Lg : Nat) (v : Int) (hA : A < 4294967296) (hL : Lg ≤ 32) (he : (readG L).2 = 0) (hs : (readG L).1.size ≤ 1000) (hn : isNet A Lg = true) : Spec Try.prog 13 [dTrie L c, dNi A Lg, .v (.int .i64 v)]
    (if 500 < (lay (putT (readG L).1 (bitsF A 0 Lg) v) 0).length then dRes [] 2 else dRes (lay (putT (readG L).1 (bitsF A 0 Lg) v) 0) 0) := by
  have hrd := readO L c
  unfold ReadO at hrd
  have hlen := fun m => spH_len (readG L).1 m
  have hnet := net_spec A Lg (by omega)
  rw [hn] at hnet
  rw [he] at hrd
  generalize (readG L).1 = T at *
  have hps := putT_size T (bitsF A 0 Lg) v
  have hbl : (bitsF A 0 Lg).length = Lg := by simp [bitsF]
  have hput0 := fun nm => put_spec v A Lg hA hL Lg 0 T nm (Nat.zero_add _)
  unfold PutS at hput0
  obtain ⟨l1, r1, s1, v1, hT1⟩ := put_node_of (put_size T (bitsF A 0 Lg) v)
  have hflat0 := fun a => mspec_give (putT T (bitsF A 0 Lg) v) (lay (putT T (bitsF A 0 Lg) v) 0) (flat_spec _ (by omega)) a
  rw [hT1] at hput0 hflat0 hps ⊢
  have hput : ∀ nm, MSpec Try.prog 30 [spD T nm, dNi A Lg, .v (.int .i64 v), .v (.int .i64 0)] (none :: spH T nm) (Tr.node l1 r1 s1 v1).size (fun m D H => D = .ptr 0 m 4 0 0 ∧ H = none :: (List.replicate T.size none ++ spH (.node l1 r1 s1 v1) m)) := hput0
  have hflat : ∀ a, MSpec Try.prog 29 [.ptr 0 a 4 0 0] (spH (.node l1 r1 s1 v1) a) 1 (fun m d H => d = .agg [.sl 0 m 4 0 (lay (.node l1 r1 s1 v1) 0).length false] ∧ H = spH (.node l1 r1 s1 v1) a ++ [some ⟨m, 4, ndX (lay (.node l1 r1 s1 v1) 0)⟩]) := hflat0
  clear hput0 hflat0
  have hlen1 := fun m => spH_len (.node l1 r1 s1 v1) m
  generalize lay (.node l1 r1 s1 v1) 0 = Y at *
  generalize Tr.node l1 r1 s1 v1 = T1 at *
  have hlY := ndX_len Y
  have hrep : (List.replicate T.size none : HL).length = T.size := List.length_replicate
  by_cases h5 : 500 < Y.length
  · rw [if_pos h5]
    refine res_nil ?_
    have hd : decide ((500 : Int) < ((Y.length : Nat) : Int)) = true := decide_eq_true (by omega)
    refine hspec_fn Try.func13 rfl ok_prefix_Put okr_prefix_Put rfl (by kernel_rfl) ?_
    intro Γ hW0 hN0 hL0
    have hW := hW0 rfl
    clear hW0 hN0 hL0
    unfold x_prefix_Put r_prefix_Put
    with_reducible refine auC ?_
    repeat' (first
      | ((with_reducible refine atGo ?_); (refine go_pad6 ?_))
      | (with_reducible refine auS ?_)
      | (first | (simp only [hlY, hd]) | ((with_reducible refine atCall 19 ?_); (refine runR_read6 hrd (hlen _) ?_)) | (with_reducible refine runR_call hnet ?_) | ((with_reducible refine atCall 30 ?_); (refine runR_tree6 (hlen _) (hput _) (hlen1 _) ?_)) | ((with_reducible refine atCall 29 ?_); (refine runR_flat6 hrep (hlen1 _) (hflat _) ?_)))
      | (with_reducible refine auD ?_)
      | ((with_reducible refine auB ?_ ?_); all_goals first | (intro h; first | exact auH | simp only [h, runR_t, runR_f] | skip) | skip)
      | fail)
    (all_goals first | exact auP | skip)
    all_goals with_reducible refine auF ?_
    all_goals (try first | with_reducible refine auR ?_ | exact auR0)
    all_goals (try simp only [hsM] at *)
  · rw [if_neg h5]
    have hd : decide ((500 : Int) < ((Y.length : Nat) : Int)) = false := decide_eq_false (by omega)
    refine hspec_fn Try.func13 rfl ok_prefix_Put okr_prefix_Put rfl (by kernel_rfl) ?_
    intro Γ hW0 hN0 hL0
    have hW := hW0 rfl
    clear hW0 hN0 hL0
    unfold x_prefix_Put r_prefix_Put
    with_reducible refine auC ?_
    repeat' (first
      | ((with_reducible refine atGo ?_); (refine go_pad6 ?_))
      | (with_reducible refine auS ?_)
      | (first | (simp only [hlY, hd]) | ((with_reducible refine atCall 19 ?_); (refine runR_read6 hrd (hlen _) ?_)) | (with_reducible refine runR_call hnet ?_) | ((with_reducible refine atCall 30 ?_); (refine runR_tree6 (hlen _) (hput _) (hlen1 _) ?_)) | ((with_reducible refine atCall 29 ?_); (refine runR_flat6 hrep (hlen1 _) (hflat _) ?_)))
      | (with_reducible refine auD ?_)
      | ((with_reducible refine auB ?_ ?_); all_goals first | (intro h; first | exact auH | simp only [h, runR_t, runR_f] | skip) | skip)
      | fail)
    (all_goals first | exact auP | skip)
    have hnf := ndX_nf Y
    have e1 : xtake (xdrop (ndX Y) 0) Y.length = ndX Y := by rw [xdrop_eq, xtake_eq, List.drop_zero, List.take_of_length_le (Nat.le_of_eq hlY)]
    refine retq_le (leG_freezeO hW 2 5 (by decide) (ys := [[.snap 4 (ndX Y) false]]) rfl rfl ⟨⟨Or.inl ⟨rfl, rfl, by rw [Nat.zero_add]; exact Nat.le_of_eq hlY.symm, by rw [e1]⟩, rfl⟩, rfl⟩) ?_
    all_goals with_reducible refine ret_spec2 (by (try first | with_reducible refine auR ?_ | exact auR0); (repeat' (first | exact trivial | exact rfl | exact (by exact hnf _) | decide | apply And.intro))) ?_
    all_goals (try first | with_reducible refine auR ?_ | exact auR0)
theorem rem_bad (L : List Nd) (c : Bool) (a l : Int) (he : (readG L).2 ≠ 0) : Spec Try.prog 15 [dTrie L c, dNi a l] (dRes [] (readG L).2) := by
  have hrd := readO L c
  unfold ReadO at hrd
  have hlen := fun m => spH_len (readG L).1 m
  refine res_nil ?_
  generalize (readG L).1 = T at *
  generalize (readG L).2 = e at *
  have d2 : decide (e = 0) = false := decide_eq_false he
  refine hspec_fn Try.func15 rfl ok_prefix_Remove okr_prefix_Remove rfl (by kernel_rfl) ?_
  intro Γ hW0 hN0 hL0
  have hW := hW0 rfl
  clear hW0 hN0 hL0
  unfold x_prefix_Remove r_prefix_Remove
  with_reducible refine auC ?_
  repeat' (first
    | ((with_reducible refine atGo ?_); (refine go_pad6 ?_))
    | (with_reducible refine auS ?_)
    | (first | (simp only [d2]) | ((with_reducible refine atCall 19 ?_); (refine runR_read6 hrd (hlen _) ?_)))
    | (with_reducible refine auD ?_)
    | ((with_reducible refine auB ?_ ?_); all_goals first | (intro h; first | exact auH | simp only [h, runR_t, runR_f] | skip) | skip)
    | fail)
  (all_goals first | exact auP | skip)
  all_goals with_reducible refine auF ?_
  all_goals (try first | with_reducible refine auR ?_ | exact auR0)
  all_goals (try simp only [hsM] at *)
theorem rem_net (L : List Nd) (c : Bool) (a l : Int) (ha : 0 ≤ a ∧ a < 4294967296) (he : (readG L).2 = 0) (hn : isNet a l = false) : Spec Try.prog 15 [dTrie L c, dNi a l] (dRes [] 7) := by
  have hrd := readO L c
  unfold ReadO at hrd
  have hlen := fun m => spH_len (readG L).1 m
  refine res_nil ?_
  have hnet := net_spec a l ha
  rw [hn] at hnet
  rw [he] at hrd
  generalize (readG L).1 = T at *
  refine hspec_fn Try.func15 rfl ok_prefix_Remove okr_prefix_Remove rfl (by kernel_rfl) ?_
  intro Γ hW0 hN0 hL0
  have hW := hW0 rfl
  clear hW0 hN0 hL0
  unfold x_prefix_Remove r_prefix_Remove
  with_reducible refine auC ?_
  repeat' (first
    | ((with_reducible refine atGo ?_); (refine go_pad6 ?_))
    | (with_reducible refine auS ?_)
    | (first | ((with_reducible refine atCall 19 ?_); (refine runR_read6 hrd (hlen _) ?_)) | (with_reducible refine runR_call hnet ?_))
    | (with_reducible refine auD ?_)
    | ((with_reducible refine auB ?_ ?_); all_goals first | (intro h; first | exact auH | simp only [h, runR_t, runR_f] | skip) | skip)
    | fail)
  (all_goals first | exact auP | skip)
  all_goals with_reducible refine auF ?_
  all_goals (try first | with_reducible refine auR ?_ | exact auR0)
  all_goals (try simp only [hsM] at *)
set_option maxHeartbeats 4000000 in
theorem rem_good (L : List Nd) (c : Bool) (A Lg : Nat) (hA : A < 4294967296) (hL : Lg ≤ 32) (he : (readG L).2 = 0) (hs : (readG L).1.size ≤ 1000) (hn : isNet A Lg = true) : Spec Try.prog 15 [dTrie L c, dNi A Lg]
    (if (remT (readG L).1 (bitsF A 0 Lg)).2 = true then dRes (lay (remT (readG L).1 (bitsF A 0 Lg)).1 0) 0 else dRes [] 7) := by
  have hrd := readO L c
  unfold ReadO at hrd
  have hlen := fun m => spH_len (readG L).1 m
  have hnet := net_spec A Lg (by omega)
  rw [hn] at hnet
  rw [he] at hrd
  generalize (readG L).1 = T at *
  have hps := remT_size T (bitsF A 0 Lg)
  have hrem0 := fun nm => rem_spec A Lg hA hL Lg 0 T nm (Nat.zero_add _)
  unfold RemS at hrem0
  have hflat := fun a => mspec_give (remT T (bitsF A 0 Lg)).1 (lay (remT T (bitsF A 0 Lg)).1 0) (flat_spec _ (by omega)) a
  generalize (remT T (bitsF A 0 Lg)).2 = ok at *
  generalize (remT T (bitsF A 0 Lg)).1 = T1 at *
  have hrem : ∀ nm, MSpec Try.prog 34 [spD T nm, dNi A Lg, .v (.int .i64 0)] (none :: spH T nm) T1.size (fun m D H => D = .tup [spD T1 m, .v (.bool ok)] ∧ H = none :: (List.replicate T.size none ++ spH T1 m)) := hrem0
  clear hrem0
  have hlen1 := fun m => spH_len T1 m
  generalize lay T1 0 = Y at *
  have hlY := ndX_len Y
  have hrep : (List.replicate T.size none : HL).length = T.size := List.length_replicate
  cases ok with
  | false =>
    rw [if_neg (by decide)]
    refine res_nil ?_
    refine hspec_fn Try.func15 rfl ok_prefix_Remove okr_prefix_Remove rfl (by kernel_rfl) ?_
    intro Γ hW0 hN0 hL0
    have hW := hW0 rfl
    clear hW0 hN0 hL0
    unfold x_prefix_Remove r_prefix_Remove
    with_reducible refine auC ?_
    repeat' (first
      | ((with_reducible refine atGo ?_); (refine go_pad6 ?_))
      | (with_reducible refine auS ?_)
      | (first | (simp only [hlY]) | ((with_reducible refine atCall 19 ?_); (refine runR_read6 hrd (hlen _) ?_)) | (with_reducible refine runR_call hnet ?_) | ((with_reducible refine atCall 34 ?_); (refine runR_tree6 (hlen _) (hrem _) (hlen1 _) ?_)) | ((with_reducible refine atCall 29 ?_); (refine runR_flat6 hrep (hlen1 _) (hflat _) ?_)))
      | (with_reducible refine auD ?_)
      | ((with_reducible refine auB ?_ ?_); all_goals first | (intro h; first | exact auH | simp only [h, runR_t, runR_f] | skip) | skip)
      | fail)
    (all_goals first | exact auP | skip)
    all_goals with_reducible refine auF ?_
    all_goals (try first | with_reducible refine auR ?_ | exact auR0)
    all_goals (try simp only [hsM] at *)
  | true =>
    rw [if_pos rfl]
    refine hspec_fn Try.func15 rfl ok_prefix_Remove okr_prefix_Remove rfl (by kernel_rfl) ?_
    intro Γ hW0 hN0 hL0
    have hW := hW0 rfl
    clear hW0 hN0 hL0
    unfold x_prefix_Remove r_prefix_Remove
    with_reducible refine auC ?_
    repeat' (first
      | ((with_reducible refine atGo ?_); (refine go_pad6 ?_))
      | (with_reducible refine auS ?_)
      | (first | (simp only [hlY]) | ((with_reducible refine atCall 19 ?_); (refine runR_read6 hrd (hlen _) ?_)) | (with_reducible refine runR_call hnet ?_) | ((with_reducible refine atCall 34 ?_); (refine runR_tree6 (hlen _) (hrem _) (hlen1 _) ?_)) | ((with_reducible refine atCall 29 ?_); (refine runR_flat6 hrep (hlen1 _) (hflat _) ?_)))
      | (with_reducible refine auD ?_)
      | ((with_reducible refine auB ?_ ?_); all_goals first | (intro h; first | exact auH | simp only [h, runR_t, runR_f] | skip) | skip)
      | fail)
    (all_goals first | exact auP | skip)
    have hnf := ndX_nf Y
    have e1 : xtake (xdrop (ndX Y) 0) Y.length = ndX Y := by rw [xdrop_eq, xtake_eq, List.drop_zero, List.take_of_length_le (Nat.le_of_eq hlY)]
    refine retq_le (leG_freezeO hW 2 5 (by decide) (ys := [[.snap 4 (ndX Y) false]]) rfl rfl ⟨⟨Or.inl ⟨rfl, rfl, by rw [Nat.zero_add]; exact Nat.le_of_eq hlY.symm, by rw [e1]⟩, rfl⟩, rfl⟩) ?_
    all_goals with_reducible refine ret_spec2 (by (try first | with_reducible refine auR ?_ | exact auR0); (repeat' (first | exact trivial | exact rfl | exact (by exact hnf _) | decide | apply And.intro))) ?_
    all_goals (try first | with_reducible refine auR ?_ | exact auR0)
end Go.Proofs.Ytlfbjdafnappdaa
