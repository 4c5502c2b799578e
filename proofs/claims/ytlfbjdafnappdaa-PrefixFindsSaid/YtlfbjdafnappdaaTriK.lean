/-
  Tries in the reference: whether one is right; the longest row that an address begins with.
-/
import Derived.Test.YtlfbjdafnappdaaTriI
namespace Go.Proofs.Ytlfbjdafnappdaa
set_option linter.unusedVariables false
set_option linter.unusedSimpArgs false
theorem rowsG_len (L : List Nd) : ∀ (f : Nat) (st : List (Nat × B8)) (out res : List Rw), rowsG L f st out = some res → res.length ≤ out.length + f
  | f, [], out, res, h => by
    rw [rowsG_nil] at h
    obtain rfl := Option.some.inj h
    omega
  | 0, _ :: _, out, res, h => by
    unfold rowsG at h
    simp at h
  | f + 1, (i, b) :: r, out, res, h => by
    rw [rowsG_succ] at h
    split at h
    · simp at h
    · split at h
      · have := rowsG_len L f _ _ res h
        have h2 : (outN (L.getD i nd0) b out).length ≤ out.length + 1 := by
          unfold outN
          split <;> simp
        omega
      · simp at h
theorem rowsR_len {L : List Nd} {X : List Rw} (h : rowsR L = some X) : X.length ≤ L.length + 1 := by
  unfold rowsR at h
  split at h
  · obtain rfl := Option.some.inj h
    exact Nat.zero_le _
  · have := rowsG_len L _ _ _ _ h
    simpa using this
theorem trieG_len {X : List Rw} (h : rwOk 33 X) : (trieG X).length ≤ 33 * X.length := by
  rw [← trieA_is h (begB_sorted X) (begB_mem X)]
  unfold trieA begB
  rw [List.length_map]
  have h1 := compact_le (sortB (prefs X))
  have h2 := sortB_len (prefs X)
  have h3 := prefs_len X (fun r hr => by have := (h r hr).2; omega)
  omega
theorem right_spec (L : List Nd) (c : Bool) : Spec Try.prog 8 [dTrie L c] (.v (.int .i64 (rightG L))) := by
  by_cases h5 : 500 < L.length
  · exact right_l L c h5
  have h1 : (L.map Nd.enc).length = L.length := List.length_map _
  have hrow := rows_spec L c (by omega)
  unfold rightG
  rw [if_neg h5]
  cases hq : rowsR L with
  | none =>
    rw [hq] at hrow
    unfold dRows at hrow
    refine hspec_fn Try.func8 rfl ok_custref_TrieRight okr_custref_TrieRight rfl (by kernel_rfl) ?_
    intro Γ hW0 hN0 hL0
    have hW := hW0 rfl
    clear hW0 hN0 hL0
    unfold x_custref_TrieRight r_custref_TrieRight
    with_reducible refine auC ?_
    repeat' (first
      | (with_reducible refine auS ?_)
      | (first | (simp only [h1]) | (with_reducible refine runR_call hrow ?_))
      | (with_reducible refine auD ?_)
      | ((with_reducible refine auB ?_ ?_); all_goals first | (intro h; first | exact auH | simp only [h, runR_t, runR_f] | skip) | skip)
      | fail)
    (all_goals first | exact auP | skip)
    all_goals with_reducible refine auF ?_
    all_goals (try first | with_reducible refine auR ?_ | exact auR0)
    all_goals (try simp only [hsM] at *)
  | some X =>
    rw [hq] at hrow
    unfold dRows at hrow
    have hw := rowsR_ok hq
    have hl := rowsR_len hq
    have hof := trieOf_spec X false (by omega) hw
    have hsame := same_spec L (trieG X) c false (by unfold maxLen; omega) (by have := trieG_len hw; unfold maxLen; omega)
    dsimp only
    by_cases he : L = trieG X
    · rw [decide_eq_true he] at hsame
      rw [if_pos he]
      refine hspec_fn Try.func8 rfl ok_custref_TrieRight okr_custref_TrieRight rfl (by kernel_rfl) ?_
      intro Γ hW0 hN0 hL0
      have hW := hW0 rfl
      clear hW0 hN0 hL0
      unfold x_custref_TrieRight r_custref_TrieRight
      with_reducible refine auC ?_
      repeat' (first
        | (with_reducible refine auS ?_)
        | (first | (simp only [h1]) | (with_reducible refine runR_call hrow ?_) | (with_reducible refine runR_call hof ?_) | (with_reducible refine runR_call hsame ?_))
        | (with_reducible refine auD ?_)
        | ((with_reducible refine auB ?_ ?_); all_goals first | (intro h; first | exact auH | simp only [h, runR_t, runR_f] | skip) | skip)
        | fail)
      (all_goals first | exact auP | skip)
      all_goals with_reducible refine auF ?_
      all_goals (try first | with_reducible refine auR ?_ | exact auR0)
      all_goals (try simp only [hsM] at *)
    · rw [decide_eq_false he] at hsame
      rw [if_neg he]
      refine hspec_fn Try.func8 rfl ok_custref_TrieRight okr_custref_TrieRight rfl (by kernel_rfl) ?_
      intro Γ hW0 hN0 hL0
      have hW := hW0 rfl
      clear hW0 hN0 hL0
      unfold x_custref_TrieRight r_custref_TrieRight
      with_reducible refine auC ?_
      repeat' (first
        | (with_reducible refine auS ?_)
        | (first | (simp only [h1]) | (with_reducible refine runR_call hrow ?_) | (with_reducible refine runR_call hof ?_) | (with_reducible refine runR_call hsame ?_))
        | (with_reducible refine auD ?_)
        | ((with_reducible refine auB ?_ ?_); all_goals first | (intro h; first | exact auH | simp only [h, runR_t, runR_f] | skip) | skip)
        | fail)
      (all_goals first | exact auP | skip)
      all_goals with_reducible refine auF ?_
      all_goals (try first | with_reducible refine auR ?_ | exact auR0)
      all_goals (try simp only [hsM] at *)
def dTF : Option Rw → DV
  | none => .tup [dNt 0 0, .v (.int .i64 0), .v (.int .i64 7)]
  | some r => .tup [dNt (netA r.1) r.1.length, .v (.int .i64 r.2), .v (.int .i64 0)]
theorem tfind_bad (L : List Nd) (c : Bool) (a : Nat) (he : rightG L ≠ 0) : Spec Try.prog 6 [dTrie L c, .v (.int .u32 (a : Nat))] (.tup [dNt 0 0, .v (.int .i64 0), .v (.int .i64 (rightG L))]) := by
  have hri := right_spec L c
  generalize rightG L = e at *
  refine hspec_fn Try.func6 rfl ok_custref_TrieFind okr_custref_TrieFind rfl (by kernel_rfl) ?_
  intro Γ hW0 hN0 hL0
  have hW := hW0 rfl
  clear hW0 hN0 hL0
  unfold x_custref_TrieFind r_custref_TrieFind
  with_reducible refine auC ?_
  repeat' (first
    | (with_reducible refine auS ?_)
    | (with_reducible refine runR_call hri ?_)
    | (with_reducible refine auD ?_)
    | ((with_reducible refine auB ?_ ?_); all_goals first | (intro h; first | exact auH | simp only [h, runR_t, runR_f] | skip) | skip)
    | fail)
  (all_goals first | exact auP | skip)
  all_goals with_reducible refine auF ?_
  all_goals (try first | with_reducible refine auR ?_ | exact auR0)
  all_goals (try simp only [hsM] at *)
  all_goals rfl
set_option maxHeartbeats 4000000 in
theorem tfind_good (L : List Nd) (c : Bool) (a : Nat) (ha : a < 4294967296) (X : List Rw) (hri : Spec Try.prog 8 [dTrie L c] (.v (.int .i64 0))) (hrow : Spec Try.prog 9 [dTrie L c] (.tup [.snap 2 (rwR X) false, .v (.bool true)])) (hw : rwOk 33 X) (hl : X.length ≤ 510) : Spec Try.prog 6 [dTrie L c, .v (.int .u32 (a : Nat))] (dTF (X.foldl (stepR (bitsL a 32)) none)) := by
  generalize hF : X.foldl (stepR (bitsL a 32)) none = F
  have hlx := rwR_len X
  have hbt := bitsOf_spec a ha
  refine hspec_fn Try.func6 rfl ok_custref_TrieFind okr_custref_TrieFind rfl (by kernel_rfl) ?_
  intro Γ hW0 hN0 hL0
  have hW := hW0 rfl
  clear hW0 hN0 hL0
  unfold x_custref_TrieFind r_custref_TrieFind
  with_reducible refine auC ?_
  repeat' (first
    | (with_reducible refine auS ?_)
    | (first | (simp only [hlx]) | (with_reducible refine runR_call hri ?_) | (with_reducible refine runR_call hrow ?_))
    | (with_reducible refine auD ?_)
    | ((with_reducible refine auB ?_ ?_); all_goals first | (intro h; first | exact auH | simp only [h, runR_t, runR_f] | skip) | skip)
    | fail)
  (all_goals first | exact auP | skip)
  refine go_loopH (α := Nat × Option Rw) (fun y => [(⟨.d0, .d1, .d3⟩, .v (.bool y.2.isSome)), (⟨.d0, .d3, .d4⟩, .v (.int .i64 (y.1 : Nat)))])
    (fun y => [(2, some ⟨Γ.g0 + 2, 2, [[.v (.string (mkS (y.2.getD ([], 0)).1)), .v (.int .i64 (y.2.getD ([], 0)).2)]]⟩), (3, none)]) (fun y => Γ.g0 + 3 + y.1) (fun y => X.length - y.1)
    (fun y => y.1 ≤ X.length ∧ (X.drop y.1).foldl (stepR (bitsL a 32)) y.2 = F ∧ (∀ r, y.2 = some r → r.1.length ≤ 32)) (0, none) ⟨Nat.zero_le _, hF, fun r h => by cases h⟩ ?_ ?_
  · skip
    refine le_mk ?_ ?_ (Nat.le_refl _)
    all_goals first | with_reducible refine auE ?_ | exact auE0
    all_goals (repeat' (first | exact trivial | exact rfl | apply And.intro))
  rintro ⟨i, st⟩ ⟨hi, hst, hsb⟩
  dsimp only at hi hst hsb ⊢
  with_reducible refine auL ?_
  by_cases hlt : i < X.length
  · obtain ⟨⟨b, v⟩, hx⟩ : ∃ t, X[i]? = some t := ⟨_, List.getElem?_eq_getElem hlt⟩
    have ex := xget_map rwE X i (b, v) hx
    have hbl := (hw (b, v) (List.mem_of_getElem? hx)).2
    dsimp only at hbl
    have hpre := hasPrefix_spec (bitsL a 32) b (by rw [bitsL_len]; omega) (by omega)
    have wi : IntKind.i64.wrap ((i : Int) + 1) = ((i + 1 : Nat) : Int) := (IntWalk.i64_in _ (by omega)).trans (by omega)
    have hdr : X.drop i = (b, v) :: X.drop (i + 1) := by rw [List.drop_eq_getElem_cons hlt, show X[i] = (b, v) from Option.some.inj ((List.getElem?_eq_getElem hlt).symm.trans hx)]
    rw [hdr, List.foldl_cons] at hst
    by_cases hp : b <+: bitsL a 32
    · rw [decide_eq_true hp] at hpre
      cases st with
      | none =>
        have hs : stepR (bitsL a 32) none (b, v) = some (b, v) := if_pos ⟨hp, .inl rfl⟩
        rw [hs] at hst
        dsimp only [Option.isSome, Option.getD]
        repeat' (first
          | (with_reducible refine auS ?_)
          | (first | (simp only [hlx, Int.toNat_natCast, ex, mkS_size]) | (with_reducible refine runR_call hbt ?_) | (with_reducible refine runR_call hpre ?_))
          | (with_reducible refine auD ?_)
          | ((with_reducible refine auB ?_ ?_); all_goals first | (intro h; first | exact auH | simp only [h, runR_t, runR_f] | skip) | skip)
          | fail)
        (all_goals first | exact auP | skip)
        refine nx_loop ⟨(i + 1, some (b, v)), ⟨hlt, hst, fun r hr => by rw [← Option.some.inj hr]; show b.length ≤ 32; omega⟩, (show X.length - (i + 1) < X.length - i by omega), ?_⟩
        refine le_mk ?_ ?_ (Nat.le_refl _)
        all_goals first | with_reducible refine auE ?_ | exact auE0
        all_goals (repeat' (first | exact trivial | exact rfl | apply And.intro))
        all_goals exact dint wi
      | some r =>
        obtain ⟨rb, rv⟩ := r
        have hrb := hsb (rb, rv) rfl
        dsimp only at hrb
        dsimp only [Option.isSome, Option.getD]
        by_cases hlen : rb.length < b.length
        · have hs : stepR (bitsL a 32) (some (rb, rv)) (b, v) = some (b, v) := if_pos ⟨hp, .inr hlen⟩
          rw [hs] at hst
          have hd : decide (((rb.length : Nat) : Int) < ((b.length : Nat) : Int)) = true := decide_eq_true (by omega)
          repeat' (first
            | (with_reducible refine auS ?_)
            | (first | (simp only [hlx, Int.toNat_natCast, ex, mkS_size, hd]) | (with_reducible refine runR_call hbt ?_) | (with_reducible refine runR_call hpre ?_))
            | (with_reducible refine auD ?_)
            | ((with_reducible refine auB ?_ ?_); all_goals first | (intro h; first | exact auH | simp only [h, runR_t, runR_f] | skip) | skip)
            | fail)
          (all_goals first | exact auP | skip)
          refine nx_loop ⟨(i + 1, some (b, v)), ⟨hlt, hst, fun r hr => by rw [← Option.some.inj hr]; show b.length ≤ 32; omega⟩, (show X.length - (i + 1) < X.length - i by omega), ?_⟩
          refine le_mk ?_ ?_ (Nat.le_refl _)
          all_goals first | with_reducible refine auE ?_ | exact auE0
          all_goals (repeat' (first | exact trivial | exact rfl | apply And.intro))
          all_goals exact dint wi
        · have hs : stepR (bitsL a 32) (some (rb, rv)) (b, v) = some (rb, rv) := if_neg (fun q => q.2.elim (fun e => by cases e) hlen)
          rw [hs] at hst
          have hd : decide (((rb.length : Nat) : Int) < ((b.length : Nat) : Int)) = false := decide_eq_false (by omega)
          repeat' (first
            | (with_reducible refine auS ?_)
            | (first | (simp only [hlx, Int.toNat_natCast, ex, mkS_size, hd]) | (with_reducible refine runR_call hbt ?_) | (with_reducible refine runR_call hpre ?_))
            | (with_reducible refine auD ?_)
            | ((with_reducible refine auB ?_ ?_); all_goals first | (intro h; first | exact auH | simp only [h, runR_t, runR_f] | skip) | skip)
            | fail)
          (all_goals first | exact auP | skip)
          refine nx_loop ⟨(i + 1, some (rb, rv)), ⟨hlt, hst, hsb⟩, (show X.length - (i + 1) < X.length - i by omega), ?_⟩
          refine le_mk ?_ ?_ (Nat.le_refl _)
          all_goals first | with_reducible refine auE ?_ | exact auE0
          all_goals (repeat' (first | exact trivial | exact rfl | apply And.intro))
          all_goals exact dint wi
    · rw [decide_eq_false hp] at hpre
      have hs : stepR (bitsL a 32) st (b, v) = st := if_neg (fun q => hp q.1)
      rw [hs] at hst
      repeat' (first
        | (with_reducible refine auS ?_)
        | (first | (simp only [hlx, Int.toNat_natCast, ex, mkS_size]) | (with_reducible refine runR_call hbt ?_) | (with_reducible refine runR_call hpre ?_))
        | (with_reducible refine auD ?_)
        | ((with_reducible refine auB ?_ ?_); all_goals first | (intro h; first | exact auH | simp only [h, runR_t, runR_f] | skip) | skip)
        | fail)
      (all_goals first | exact auP | skip)
      refine nx_loop ⟨(i + 1, st), ⟨hlt, hst, hsb⟩, (show X.length - (i + 1) < X.length - i by omega), ?_⟩
      refine le_mk ?_ ?_ (Nat.le_refl _)
      all_goals first | with_reducible refine auE ?_ | exact auE0
      all_goals (repeat' (first | exact trivial | exact rfl | apply And.intro))
      all_goals exact dint wi
  · obtain rfl : i = X.length := by omega
    rw [List.drop_length] at hst
    have hst : st = F := hst
    subst hst
    cases st with
    | none =>
      show Go _ _ _ (RetQ _ _ _ (fun d H => d = .tup [dNt 0 0, .v (.int .i64 0), .v (.int .i64 7)] ∧ H = [])) _ _ _
      dsimp only [Option.isSome, Option.getD]
      repeat' (first
        | (with_reducible refine auS ?_)
        | (simp only [hlx])
        | (with_reducible refine auD ?_)
        | ((with_reducible refine auB ?_ ?_); all_goals first | (intro h; first | exact auH | simp only [h, runR_t, runR_f] | skip) | skip)
        | fail)
      (all_goals first | exact auP | skip)
      all_goals with_reducible refine auF ?_
      all_goals (try first | with_reducible refine auR ?_ | exact auR0)
      all_goals (try simp only [hsM] at *)
      all_goals rfl
    | some r =>
      obtain ⟨rb, rv⟩ := r
      have hrb := hsb (rb, rv) rfl
      dsimp only at hrb
      have hno := netOf_spec rb (by omega)
      show Go _ _ _ (RetQ _ _ _ (fun d H => d = .tup [dNt (netA rb) rb.length, .v (.int .i64 rv), .v (.int .i64 0)] ∧ H = [])) _ _ _
      dsimp only [Option.isSome, Option.getD]
      repeat' (first
        | (with_reducible refine auS ?_)
        | (first | (simp only [hlx]) | (with_reducible refine runR_call hno ?_))
        | (with_reducible refine auD ?_)
        | ((with_reducible refine auB ?_ ?_); all_goals first | (intro h; first | exact auH | simp only [h, runR_t, runR_f] | skip) | skip)
        | fail)
      (all_goals first | exact auP | skip)
      all_goals with_reducible refine auF ?_
      all_goals (try first | with_reducible refine auR ?_ | exact auR0)
      all_goals (try simp only [hsM] at *)
end Go.Proofs.Ytlfbjdafnappdaa
