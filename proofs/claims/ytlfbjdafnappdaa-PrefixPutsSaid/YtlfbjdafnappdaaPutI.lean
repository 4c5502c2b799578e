/-
  Tries in the reference: what is right (for Put and Remove).
-/
import Derived.Test.YtlfbjdafnappdaaPutH
namespace Go.Proofs.Ytlfbjdafnappdaa
set_option linter.unusedVariables false
set_option linter.unusedSimpArgs false
theorem trieOf_own (rows : List Rw) (c : Bool) (hr : rows.length ≤ 510) (hw : rwOk 33 rows) : MSpec Try.prog 25 [.snap 2 (rwR rows) c] [] 1 (fun m d H => d = .agg [.sl 0 m 4 0 (trieG rows).length false] ∧ H = [some ⟨m, 4, ndX (trieG rows)⟩]) := by
  have hb : ∀ r ∈ rows, r.1.length ≤ 32 := fun r hm => by have := (hw r hm).2; omega
  have hp := prefs_len rows hb
  have hsl := sortB_len (prefs rows)
  have hcl := compact_le (sortB (prefs rows))
  have h := trieOf_core rows c hr hb (prefs rows) (sortB (prefs rows)) (begB rows) rfl
    ⟨fun n => hspec_sl 3 (sort_spec0 (prefs rows) (by omega) n), fun n => hspec_sl 3 (hspec_as (by
      have := comp_spec0 (sortB (prefs rows)) (by omega) n
      rw [hsl] at this
      exact this) (fun _ _ _ => sl_label)), fun p => find_spec (begB rows) (begB_sorted rows) (by unfold begB; omega) p, fun p hm => by
      obtain ⟨r, h1, q, h2⟩ := (mem_prefs rows p).1 ((begB_mem rows p).1 hm)
      have := hb r h1
      rw [h2] at this
      simp at this
      omega, by unfold begB; omega⟩
  have e : ndR (begB rows) rows (begB rows) = (trieG rows).map Nd.enc := by
    rw [← trieA_is hw (begB_sorted rows) (begB_mem rows)]
    unfold trieA
    rw [List.map_map]
    rfl
  have e2 : (begB rows).length = (trieG rows).length := by
    rw [← trieA_is hw (begB_sorted rows) (begB_mem rows)]
    exact (List.length_map _).symm
  rw [e, e2] at h
  exact h
theorem trieOf_spec (rows : List Rw) (c : Bool) (hr : rows.length ≤ 510) (hw : rwOk 33 rows) : Spec Try.prog 25 [.snap 2 (rwR rows) c] (.agg [.snap 4 ((trieG rows).map Nd.enc) false]) :=
  spec_frz (trieOf_own rows c hr hw) (fun m => ⟨.inl ⟨rfl, rfl, by simp, by rw [xdrop_eq, xtake_eq, List.drop_zero, List.take_of_length_le (Nat.le_of_eq (List.length_map _))]⟩, rfl⟩) (fun g => ⟨ndX_nf _ g, trivial⟩)
set_option maxHeartbeats 1000000 in
theorem eqN_spec (L M : List Nd) (c c' : Bool) (hl : L.length ≤ maxLen) (hm : M.length ≤ maxLen) : Spec Try.prog 37 [.snap 4 (L.map Nd.enc) c, .snap 4 (M.map Nd.enc) c'] (.v (.bool (decide (L = M)))) := by
  unfold maxLen at hl hm
  have h1 : (L.map Nd.enc).length = L.length := List.length_map _
  have h2 : (M.map Nd.enc).length = M.length := List.length_map _
  by_cases hlen : L.length = M.length
  · skip
    refine hspec_fn Try.func37 rfl ok_slices_Equal_api_Node okr_slices_Equal_api_Node rfl (by kernel_rfl) ?_
    intro Γ hW0 hN0 hL0
    have hW := hW0 rfl
    clear hW0 hN0 hL0
    unfold x_slices_Equal_api_Node r_slices_Equal_api_Node
    with_reducible refine auC ?_
    repeat' (first
      | (with_reducible refine auS ?_)
      | (simp only [h1, h2])
      | (with_reducible refine auD ?_)
      | ((with_reducible refine auB ?_ ?_); all_goals first | (intro h; first | exact auH | simp only [h, runR_t, runR_f] | skip) | skip)
      | fail)
    (all_goals first | exact auP | skip)
    refine go_loopH (α := Nat) (fun k => [(⟨.d0, .d1, .d5⟩, .v (.int .i64 (k : Nat)))]) (fun _ => []) (fun _ => Γ.g0) (fun k => L.length - k) (fun k => k ≤ L.length ∧ L.take k = M.take k) 0 ⟨Nat.zero_le _, rfl⟩ ?_ ?_
    · skip
      refine le_mk ?_ ?_ (Nat.le_refl _)
      all_goals first | with_reducible refine auE ?_ | exact auE0
      all_goals (repeat' (first | exact trivial | exact rfl | apply And.intro))
    rintro k ⟨hk, ht⟩
    with_reducible refine auL ?_
    by_cases hlt : k < L.length
    · obtain ⟨x, hx⟩ : ∃ x, L[k]? = some x := ⟨_, List.getElem?_eq_getElem hlt⟩
      obtain ⟨y, hy⟩ : ∃ y, M[k]? = some y := ⟨_, List.getElem?_eq_getElem (by omega)⟩
      have ex := xget_map Nd.enc L k x hx
      have ey := xget_map Nd.enc M k y hy
      have wk : IntKind.i64.wrap ((k : Int) + 1) = ((k + 1 : Nat) : Int) := (IntWalk.i64_in _ (by omega)).trans (by omega)
      by_cases hxy : x = y
      · subst hxy
        have ht' : L.take (k + 1) = M.take (k + 1) := by rw [take_snoc hx, take_snoc hy, ht]
        obtain ⟨xa, xb, xs, xv⟩ := x
        have d1 : decide (xa = xa) = true := decide_eq_true rfl
        have d2 : decide (xb = xb) = true := decide_eq_true rfl
        have d3 : decide (xs = xs) = true := decide_eq_true rfl
        have d4 : decide (xv = xv) = true := decide_eq_true rfl
        repeat' (first
          | (with_reducible refine auS ?_)
          | fail
          | (with_reducible refine auD ?_)
          | ((with_reducible refine auB ?_ ?_); all_goals first | (intro h; first | exact auH | simp only [h, runR_t, runR_f] | skip) | skip)
          | (simp only [Int.toNat_natCast, ex, ey, h1, h2, d1, d2, d3, d4]))
        (all_goals first | exact auP | skip)
        all_goals first
          | (refine nx_loop ⟨k + 1, ⟨hlt, ht'⟩, (show L.length - (k + 1) < L.length - k by omega), ?_⟩
             (refine le_mk ?_ ?_ (Nat.le_refl _)); (all_goals first | with_reducible refine auE ?_ | exact auE0); (all_goals (repeat' (first | exact trivial | exact rfl | apply And.intro)))
             all_goals exact dint wk)
          | (exfalso; simp at h; done)
          | skip
      · have hf : decide (L = M) = false := decide_eq_false (fun e => by rw [e, hy] at hx; exact hxy (Option.some.inj hx).symm)
        rw [hf]
        obtain ⟨xa, xb, xs, xv⟩ := x
        obtain ⟨ya, yb, ys, yv⟩ := y
        have hne : ¬ (xa = ya ∧ xb = yb ∧ xs = ys ∧ xv = yv) := fun q => hxy (by rw [q.1, q.2.1, q.2.2.1, q.2.2.2])
        repeat' (first
          | (with_reducible refine auS ?_)
          | fail
          | (with_reducible refine auD ?_)
          | ((with_reducible refine auB ?_ ?_); all_goals first | (intro h; first | exact auH | simp only [h, runR_t, runR_f] | skip) | skip)
          | (simp only [Int.toNat_natCast, ex, ey, h1, h2]))
        (all_goals first | exact auP | skip)
        all_goals first
          | (exfalso; apply hne; simpa using h; done)
          | skip
        all_goals with_reducible refine auF ?_
        all_goals (try first | with_reducible refine auR ?_ | exact auR0)
        all_goals (try simp only [hsM] at *)
    · obtain rfl : k = L.length := by omega
      have he : L = M := by
        rw [List.take_length, hlen, List.take_length] at ht
        exact ht
      rw [decide_eq_true he]
      repeat' (first
        | (with_reducible refine auS ?_)
        | (simp only [h1, h2])
        | (with_reducible refine auD ?_)
        | ((with_reducible refine auB ?_ ?_); all_goals first | (intro h; first | exact auH | simp only [h, runR_t, runR_f] | skip) | skip)
        | fail)
      (all_goals first | exact auP | skip)
      all_goals with_reducible refine auF ?_
      all_goals (try first | with_reducible refine auR ?_ | exact auR0)
      all_goals (try simp only [hsM] at *)
  · rw [decide_eq_false (fun e => hlen (by rw [e]))]
    refine hspec_fn Try.func37 rfl ok_slices_Equal_api_Node okr_slices_Equal_api_Node rfl (by kernel_rfl) ?_
    intro Γ hW0 hN0 hL0
    have hW := hW0 rfl
    clear hW0 hN0 hL0
    unfold x_slices_Equal_api_Node r_slices_Equal_api_Node
    with_reducible refine auC ?_
    repeat' (first
      | (with_reducible refine auS ?_)
      | (simp only [h1, h2])
      | (with_reducible refine auD ?_)
      | ((with_reducible refine auB ?_ ?_); all_goals first | (intro h; first | exact auH | simp only [h, runR_t, runR_f] | skip) | skip)
      | fail)
    (all_goals first | exact auP | skip)
    all_goals with_reducible refine auF ?_
    all_goals (try first | with_reducible refine auR ?_ | exact auR0)
    all_goals (try simp only [hsM] at *)
theorem same_spec (L M : List Nd) (c c' : Bool) (hl : L.length ≤ maxLen) (hm : M.length ≤ maxLen) : Spec Try.prog 18 [dTrie L c, dTrie M c'] (.v (.bool (decide (L = M)))) := by
  have h := eqN_spec L M c c' hl hm
  generalize decide (L = M) = B at *
  refine hspec_fn Try.func18 rfl ok_custref_SameTrie okr_custref_SameTrie rfl (by kernel_rfl) ?_
  intro Γ hW0 hN0 hL0
  have hW := hW0 rfl
  clear hW0 hN0 hL0
  unfold x_custref_SameTrie r_custref_SameTrie
  with_reducible refine auC ?_
  repeat' (first
    | (with_reducible refine auS ?_)
    | (with_reducible refine runR_call h ?_)
    | (with_reducible refine auD ?_)
    | ((with_reducible refine auB ?_ ?_); all_goals first | (intro h; first | exact auH | simp only [h, runR_t, runR_f] | skip) | skip)
    | fail)
  (all_goals first | exact auP | skip)
  all_goals with_reducible refine auF ?_
  all_goals (try first | with_reducible refine auR ?_ | exact auR0)
  all_goals (try simp only [hsM] at *)
theorem right_l (L : List Nd) (c : Bool) (h5 : 500 < L.length) : Spec Try.prog 8 [dTrie L c] (.v (.int .i64 (rightG L))) := by
  have e : rightG L = 2 := by unfold rightG; rw [if_pos h5]
  have h1 : (L.map Nd.enc).length = L.length := List.length_map _
  rw [e]
  refine hspec_fn Try.func8 rfl ok_custref_TrieRight okr_custref_TrieRight rfl (by kernel_rfl) ?_
  intro Γ hW0 hN0 hL0
  have hW := hW0 rfl
  clear hW0 hN0 hL0
  unfold x_custref_TrieRight r_custref_TrieRight
  with_reducible refine auC ?_
  repeat' (first
    | (with_reducible refine auS ?_)
    | (simp only [h1])
    | (with_reducible refine auD ?_)
    | ((with_reducible refine auB ?_ ?_); all_goals first | (intro h; first | exact auH | simp only [h, runR_t, runR_f] | skip) | skip)
    | fail)
  (all_goals first | exact auP | skip)
  all_goals with_reducible refine auF ?_
  all_goals (try first | with_reducible refine auR ?_ | exact auR0)
  all_goals (try simp only [hsM] at *)
/-- What TrieRows answers, a nil slice as one of no rows. -/
def dRows : Option (List Rw) → DV
  | none => .tup [.snap 2 [] false, .v (.bool false)]
  | some X => .tup [.snap 2 (rwR X) false, .v (.bool true)]
theorem nil_snap (sz : Nat) : nilP (.v (.slice none 0 0)) (.snap sz [] false) := .inr ⟨rfl, sz, rfl⟩
theorem rows_spec (L : List Nd) (c : Bool) (hl : L.length ≤ 500) : Spec Try.prog 9 [dTrie L c] (dRows (rowsR L)) := by
  unfold rowsR
  by_cases h0 : L = []
  · subst h0
    rw [if_pos (show ([] : List Nd).length = 0 from rfl)]
    refine spec_nil (rows_0 c) ?_
    exact ⟨nil_snap 2, .inl rfl, rfl⟩
  · rw [if_neg (fun e => h0 (List.length_eq_zero_iff.1 e))]
    have h := rows_core L c h0 hl
    cases hq : rowsG L (L.length + 1) [(0, [])] [] with
    | none =>
      rw [hq] at h
      refine spec_nil (spec_m0 (D := .tup [.v (.slice none 0 0), .v (.bool false)]) h (fun g => ⟨trivial, trivial, trivial⟩)) ?_
      exact ⟨nil_snap 2, .inl rfl, rfl⟩
    | some X =>
      rw [hq] at h
      exact spec_frz h (fun m => ⟨.inl ⟨rfl, rfl, by simp, by rw [xdrop_eq, xtake_eq, List.drop_zero, List.take_of_length_le (Nat.le_of_eq (rwR_len X))]⟩, rfl, rfl⟩) (fun g => ⟨rwR_nf X g, trivial, trivial⟩)
end Go.Proofs.Ytlfbjdafnappdaa
