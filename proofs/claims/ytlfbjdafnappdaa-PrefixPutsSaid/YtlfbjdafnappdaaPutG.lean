/-
  Tries in the reference: the trie that rows make.
-/
import Derived.Test.YtlfbjdafnappdaaPutD
import Derived.Test.YtlfbjdafnappdaaPutE
namespace Go.Proofs.Ytlfbjdafnappdaa
set_option linter.unusedVariables false
set_option linter.unusedSimpArgs false
theorem prefs_snoc (X : List Rw) (r : Rw) : prefs (X ++ [r]) = prefs X ++ (List.range (r.1.length + 1)).map (fun n => r.1.take n) := by simp [prefs]
theorem prefs_len (X : List Rw) (h : ∀ r ∈ X, r.1.length ≤ 32) : (prefs X).length ≤ 33 * X.length := by
  induction X with
  | nil => exact Nat.le_refl _
  | cons r X ih =>
    have h1 := ih (fun r hr => h r (List.mem_cons_of_mem _ hr))
    have h2 := h r List.mem_cons_self
    unfold prefs at h1 ⊢
    rw [List.flatMap_cons, List.length_append, List.length_map, List.length_range, List.length_cons]
    omega
theorem anyV_snoc (X : List Rw) (r : Rw) (b : B8) : anyV (X ++ [r]) b = (anyV X b || decide (r.1 = b)) := by simp [anyV]
theorem lastV_snoc (X : List Rw) (r : Rw) (b : B8) : lastV (X ++ [r]) b = if r.1 = b then r.2 else lastV X b := by simp [lastV]
/-- The row of beginnings is read alone from here on. -/
theorem go_frz {Γ : Gm} {P : Program} {N : Nat} {R : St → Prop} {xc : XC} {kk : List KI} {st : St} (hW : ∀ g, ¬ Γ.W0 g) (k : Nat) (s : Sl) (A : List B8) {n : Nat} (hs : st.tm.get s = .sl k n 1 0 A.length false) (ho : lget st.H k = some ⟨n, 1, stR A⟩) (h : Go Γ P N R xc kk ⟨st.tm.set s (.snap 1 (stR A) false), lset st.H k none, st.gen⟩) : Go Γ P N R xc kk st := by
  refine go_leG (leG_freeze hW s hs ho ⟨rfl, rfl, by simp⟩) ?_
  have e : xtake (xdrop (stR A) 0) A.length = stR A := by rw [xdrop_eq, xtake_eq, List.drop_zero, List.take_of_length_le (Nat.le_of_eq (stR_len A))]
  dsimp only
  rw [e]
  exact h
structure TmS where
  (k : Nat) (nm g : Nat)
structure TjS where
  (j : Nat) (K : Int) (x0 x1 : Int)
structure TlS where
  (k : Nat) (Q : List B8) (nm g : Nat)
/-- What the walk needs of the library's functions at these rows. -/
structure LibOk (rows : List Rw) (P S A : List B8) : Prop where
  sort : ∀ n, HSpec Try.prog 41 [.sl 3 n 1 0 P.length false] [some ⟨n, 1, stR P⟩] (fun d H => d = .tup [] ∧ H = [some ⟨n, 1, stR S⟩])
  comp : ∀ n, HSpec Try.prog 42 [.sl 3 n 1 0 P.length false] [some ⟨n, 1, stR S⟩] (fun d H => d = .sl 3 n 1 0 A.length false ∧ H = [some ⟨n, 1, stR A⟩])
  find : ∀ p : B8, ∃ k : Nat, Spec Try.prog 43 [.snap 1 (stR A) false, .v (.string (mkS p))] (.tup [.v (.int .i64 (k : Nat)), .v (.bool (decide (p ∈ A)))]) ∧ (p ∈ A → idxA A p = (k : Nat))
  len : ∀ p ∈ A, p.length ≤ 32
  lenA : A.length ≤ 20000
abbrev ndR (A : List B8) (rows : List Rw) (l : List B8) : List (List DV) := l.map fun b => (ndA A rows b).enc
set_option maxHeartbeats 8000000 in
theorem trieOf_core (rows : List Rw) (c : Bool) (hr : rows.length ≤ 510) (hb : ∀ r ∈ rows, r.1.length ≤ 32) (P S A : List B8) (hP : prefs rows = P) (hlib : LibOk rows P S A) : MSpec Try.prog 25 [.snap 2 (rwR rows) c] [] 1 (fun m d H => d = .agg [.sl 0 m 4 0 A.length false] ∧ H = [some ⟨m, 4, ndR A rows A⟩]) := by
  have hlr := rwR_len rows
  refine mspec_fn Try.func25 rfl ok_custref_TrieOf okr_custref_TrieOf rfl (by kernel_rfl) ?_
  intro Γ hW0 hN0 hL0
  have hW := hW0 rfl
  clear hW0 hN0 hL0
  unfold x_custref_TrieOf r_custref_TrieOf
  with_reducible refine auC ?_
  repeat' (first
    | (with_reducible refine auS ?_)
    | (simp only [hlr])
    | (with_reducible refine auD ?_)
    | ((with_reducible refine auB ?_ ?_); all_goals first | (intro h; first | exact auH | simp only [h, runR_t, runR_f] | skip) | skip)
    | fail)
  (all_goals first | exact auP | skip)
  apply go_le
  · exact le_row ⟨.d0, .d0, .d3⟩ 3 1 rfl rfl
  with_reducible refine auL ?_
  refine go_loopH (α := TlS) (fun y => [(⟨.d0, .d0, .d3⟩, .sl 3 y.nm 1 0 y.Q.length false), (⟨.d0, .d2, .d2⟩, .v (.int .i64 (y.k : Nat)))])
    (fun y => [(1, none), (2, none), (3, some ⟨y.nm, 1, stR y.Q⟩)]) (fun y => y.g) (fun y => rows.length - y.k)
    (fun y => y.k ≤ rows.length ∧ y.Q = prefs (rows.take y.k)) ⟨0, [], Γ.g0 + 1, Γ.g0 + 2⟩ ⟨Nat.zero_le _, rfl⟩ ?_ ?_
  · skip
    refine le_mk ?_ ?_ (Nat.le_refl _)
    all_goals first | with_reducible refine auE ?_ | exact auE0
    all_goals (repeat' (first | exact trivial | exact rfl | apply And.intro))
  rintro ⟨k, Q, nm, g⟩ ⟨hk, hQ⟩
  dsimp only at hk hQ ⊢
  with_reducible refine auL ?_
  by_cases hlt : k < rows.length
  · obtain ⟨⟨b, v⟩, ht⟩ : ∃ t, rows[k]? = some t := ⟨_, List.getElem?_eq_getElem hlt⟩
    have ex := xget_map rwE rows k (b, v) ht
    have hbl := hb (b, v) (List.mem_of_getElem? ht)
    dsimp only at hbl
    have hts := take_snoc ht
    have hpl := prefs_len (rows.take k) (fun r h => hb r (List.mem_of_mem_take h))
    rw [List.length_take] at hpl
    have w1 : IntKind.i64.wrap ((b.length : Int) + 1) = ((b.length + 1 : Nat) : Int) := (IntWalk.i64_in _ (by omega)).trans (by omega)
    have wk : IntKind.i64.wrap ((k : Int) + 1) = ((k + 1 : Nat) : Int) := (IntWalk.i64_in _ (by omega)).trans (by omega)
    repeat' (first
      | (with_reducible refine auS ?_)
      | (simp only [hlr, Int.toNat_natCast, ex, mkS_size, w1])
      | (with_reducible refine auD ?_)
      | ((with_reducible refine auB ?_ ?_); all_goals first | (intro h; first | exact auH | simp only [h, runR_t, runR_f] | skip) | skip)
      | fail)
    (all_goals first | exact auP | skip)
    refine go_loopH (α := TlS) (fun y => [(⟨.d0, .d0, .d3⟩, .sl 3 y.nm 1 0 y.Q.length false), (⟨.d0, .d3, .d2⟩, .v (.int .i64 (y.k : Nat)))])
      (fun y => [(2, none), (3, some ⟨y.nm, 1, stR y.Q⟩)]) (fun y => y.g) (fun y => b.length + 1 - y.k)
      (fun y => y.k ≤ b.length + 1 ∧ y.Q = Q ++ (List.range y.k).map (fun n => b.take n)) ⟨0, Q, nm, g + 1⟩ ⟨Nat.zero_le _, (List.append_nil _).symm⟩ ?_ ?_
    · skip
      refine le_mk ?_ ?_ (Nat.le_refl _)
      all_goals first | with_reducible refine auE ?_ | exact auE0
      all_goals (repeat' (first | exact trivial | exact rfl | apply And.intro))
    rintro ⟨j, Q1, nm1, g1⟩ ⟨hj, hQ1⟩
    dsimp only at hj hQ1 ⊢
    with_reducible refine auL ?_
    have hl1 := stR_len Q1
    have hq1 : Q1.length ≤ 33 * k + j := by rw [hQ1, hQ]; simp only [List.length_append, List.length_map, List.length_range]; omega
    by_cases hlt1 : j < b.length + 1
    · have e1 : (mkS b).extract 0 j = mkS (b.take j) := by rw [mkS_ext]; simp
      have e2 := stR_snoc Q1 (b.take j)
      have wj : IntKind.i64.wrap ((j : Int) + 1) = ((j + 1 : Nat) : Int) := (IntWalk.i64_in _ (by omega)).trans (by omega)
      repeat' (first
        | (with_reducible refine auS ?_)
        | (simp only [Int.toNat_natCast, mkS_size, e1, e2, hl1])
        | (with_reducible refine auD ?_)
        | ((with_reducible refine auB ?_ ?_); all_goals first | (intro h; first | exact auH | simp only [h, runR_t, runR_f] | skip) | skip)
        | (first | ((with_reducible refine atN ?_); first | (refine runR_n ⟨by trivial, by trivial, by trivial, by trivial, hl1.symm⟩ ?_) | (refine runR_n ⟨by trivial, by (try rw [hl1]); unfold room maxLen; simp only [List.length_cons, List.length_nil]; omega⟩ ?_) | (refine runR_n (by simp only [mkS_size]; omega) ?_)) | fail))
      (all_goals first | exact auP | skip)
      refine nx_loop ⟨⟨j + 1, Q1 ++ [b.take j], g1 + 1, g1 + 2⟩, ⟨hlt1, (by rw [hQ1, List.range_succ]; simp)⟩, (show b.length + 1 - (j + 1) < b.length + 1 - j by omega), ?_⟩
      refine le_mk ?_ ?_ (Nat.le_refl _)
      all_goals first | with_reducible refine auE ?_ | exact auE0
      all_goals (repeat' (first | exact trivial | exact rfl | apply And.intro))
      all_goals first
        | exact dint wj
        | (simp; done)
        | skip
    · obtain rfl : j = b.length + 1 := by omega
      repeat' (first
        | (with_reducible refine auS ?_)
        | fail
        | (with_reducible refine auD ?_)
        | ((with_reducible refine auB ?_ ?_); all_goals first | (intro h; first | exact auH | simp only [h, runR_t, runR_f] | skip) | skip)
        | fail)
      (all_goals first | exact auP | skip)
      refine nx_loop ⟨⟨k + 1, Q1, nm1, g1⟩, ⟨hlt, (by rw [hQ1, hQ, hts, prefs_snoc])⟩, (show rows.length - (k + 1) < rows.length - k by omega), ?_⟩
      refine le_mk ?_ ?_ (Nat.le_refl _)
      all_goals first | with_reducible refine auE ?_ | exact auE0
      all_goals (repeat' (first | exact trivial | exact rfl | apply And.intro))
      all_goals exact dint wk
  · obtain rfl : k = rows.length := by omega
    rw [List.take_length, hP] at hQ
    subst hQ
    have hso := hlib.sort
    have hco := hlib.comp
    repeat' (first
      | ((with_reducible refine atGo ?_); first | (refine go_frz hW 3 ⟨.d0, .d0, .d3⟩ A rfl rfl ?_) | (refine go_rowG 4 8 4 (by decide) rfl ?_) | fail)
      | (with_reducible refine auS ?_)
      | (first | ((with_reducible refine runR_callH 3 ?_ (hso _) (fun _ _ _ h => h) ?_); (exact rfl)) | ((with_reducible refine runR_callH 3 ?_ (hco _) (fun _ _ _ h => h) ?_); (exact rfl)))
      | (with_reducible refine auD ?_)
      | ((with_reducible refine auB ?_ ?_); all_goals first | (intro h; first | exact auH | simp only [h, runR_t, runR_f] | skip) | skip)
      | fail)
    (all_goals first | exact auP | skip)
    have hlA := stR_len A
    refine go_loopH (α := TmS) (fun y => [(⟨.d0, .d5, .d4⟩, .v (.int .i64 (y.k : Nat)))])
      (fun y => [(4, some ⟨g, 1, [[.sl 8 y.nm 4 0 y.k false]]⟩), (5, none), (6, none), (7, none), (8, some ⟨y.nm, 4, ndR A rows (A.take y.k)⟩)]) (fun y => y.g) (fun y => A.length - y.k)
      (fun y => y.k ≤ A.length) ⟨0, g + 1, g + 2⟩ (Nat.zero_le _) ?_ ?_
    · skip
      refine le_mk ?_ ?_ (Nat.le_refl _)
      all_goals first | with_reducible refine auE ?_ | exact auE0
      all_goals (repeat' (first | exact trivial | exact rfl | apply And.intro))
    rintro ⟨k, nm2, g2⟩ hk
    dsimp only at hk ⊢
    with_reducible refine auL ?_
    by_cases hlt : k < A.length
    · obtain ⟨b, hb2⟩ : ∃ b, A[k]? = some b := ⟨_, List.getElem?_eq_getElem hlt⟩
      have ex : xget (stR A) k = [.v (.string (mkS b))] := xget_map (fun b => [DV.v (.string (mkS b))]) A k b hb2
      have hbl := hlib.len b (List.mem_of_getElem? hb2)
      have hts := take_snoc hb2
      have wk : IntKind.i64.wrap ((k : Int) + 1) = ((k + 1 : Nat) : Int) := (IntWalk.i64_in _ (by have := hlib.lenA; omega)).trans (by omega)
      have n1 : Spec Try.prog 27 [.v (.int .i64 1)] (.v (.string (mkS [49]))) := num_spec 1 (by decide)
      have n0 : Spec Try.prog 27 [.v (.int .i64 0)] (.v (.string (mkS [48]))) := num_spec 0 (by decide)
      have w0 : IntKind.i64.wrap ((0 : Int) + 1) = 1 := by decide
      have w1 : IntKind.i64.wrap ((1 : Int) + 1) = 2 := by decide
      repeat' (first
        | (with_reducible refine auS ?_)
        | (simp only [hlA, Int.toNat_natCast, ex])
        | (with_reducible refine auD ?_)
        | ((with_reducible refine auB ?_ ?_); all_goals first | (intro h; first | exact auH | simp only [h, runR_t, runR_f] | skip) | skip)
        | fail)
      (all_goals first | exact auP | skip)
      refine go_loopH (α := TjS) (fun y => [(⟨.d0, .d6, .d0⟩, .v (.int .i64 y.K))])
        (fun y => [(5, some ⟨g2, 4, [[.v (.int .i64 y.x0), .v (.int .i64 y.x1), .v (.bool false), .v (.int .i64 0)]]⟩)]) (fun y => g2 + 1) (fun y => 2 - y.j)
        (fun y => y.j ≤ 2 ∧ (y.j = 0 → y.K = 0 ∧ y.x0 = 0 ∧ y.x1 = 0) ∧ (y.j = 1 → y.K = 1 ∧ y.x0 = idxA A (b ++ [48]) ∧ y.x1 = 0) ∧ (y.j = 2 → y.K = 2 ∧ y.x0 = idxA A (b ++ [48]) ∧ y.x1 = idxA A (b ++ [49])))
        ⟨0, 0, 0, 0⟩ ⟨Nat.zero_le _, fun _ => ⟨rfl, rfl, rfl⟩, fun h => absurd (show (0 : Nat) = 1 from h) (by decide), fun h => absurd (show (0 : Nat) = 2 from h) (by decide)⟩ ?_ ?_
      · skip
        refine le_mk ?_ ?_ (Nat.le_refl _)
        all_goals first | with_reducible refine auE ?_ | exact auE0
        all_goals (repeat' (first | exact trivial | exact rfl | apply And.intro))
      rintro ⟨j, K, x0, x1⟩ ⟨hj, h0', h1', h2'⟩
      dsimp only at hj h0' h1' h2' ⊢
      obtain rfl | rfl | rfl : j = 0 ∨ j = 1 ∨ j = 2 := by omega
      · obtain ⟨rfl, rfl, rfl⟩ := h0' rfl
        clear h0' h1' h2'
        with_reducible refine auL ?_
        obtain ⟨i, hf, hi⟩ := hlib.find (b ++ [48])
        by_cases hm : (b ++ [48]) ∈ A
        · have hidx := hi hm
          rw [decide_eq_true hm] at hf
          repeat' (first
            | (with_reducible refine auS ?_)
            | (first | (simp only [mkS_size, mkS_app, w0, w1]) | (with_reducible refine runR_call hf ?_) | (with_reducible refine runR_call n0 ?_) | (with_reducible refine runR_call n1 ?_) | fail)
            | (with_reducible refine auD ?_)
            | ((with_reducible refine auB ?_ ?_); all_goals first | (intro h; first | exact auH | simp only [h, runR_t, runR_f] | skip) | skip)
            | (first | ((with_reducible refine atN ?_); (refine runR_n (by simp only [mkS_size, List.length_singleton]; omega) ?_)) | fail))
          (all_goals first | exact auP | skip)
          refine nx_loop ⟨⟨1, 1, idxA A (b ++ [48]), 0⟩, ⟨(show 1 ≤ 2 by decide), fun h => absurd (show (1 : Nat) = 0 from h) (by decide), fun _ => ⟨rfl, rfl, rfl⟩, fun h => absurd (show (1 : Nat) = 2 from h) (by decide)⟩, (show 2 - 1 < 2 - 0 by decide), ?_⟩
          rw [hidx]
          refine le_mk ?_ ?_ (Nat.le_refl _)
          all_goals first | with_reducible refine auE ?_ | exact auE0
          all_goals (repeat' (first | exact trivial | exact rfl | apply And.intro))
        · have hidx : idxA A (b ++ [48]) = 0 := if_neg hm
          rw [decide_eq_false hm] at hf
          repeat' (first
            | (with_reducible refine auS ?_)
            | (first | (simp only [mkS_size, mkS_app, w0, w1]) | (with_reducible refine runR_call hf ?_) | (with_reducible refine runR_call n0 ?_) | (with_reducible refine runR_call n1 ?_) | fail)
            | (with_reducible refine auD ?_)
            | ((with_reducible refine auB ?_ ?_); all_goals first | (intro h; first | exact auH | simp only [h, runR_t, runR_f] | skip) | skip)
            | (first | ((with_reducible refine atN ?_); (refine runR_n (by simp only [mkS_size, List.length_singleton]; omega) ?_)) | fail))
          (all_goals first | exact auP | skip)
          refine nx_loop ⟨⟨1, 1, idxA A (b ++ [48]), 0⟩, ⟨(show 1 ≤ 2 by decide), fun h => absurd (show (1 : Nat) = 0 from h) (by decide), fun _ => ⟨rfl, rfl, rfl⟩, fun h => absurd (show (1 : Nat) = 2 from h) (by decide)⟩, (show 2 - 1 < 2 - 0 by decide), ?_⟩
          rw [hidx]
          refine le_mk ?_ ?_ (Nat.le_refl _)
          all_goals first | with_reducible refine auE ?_ | exact auE0
          all_goals (repeat' (first | exact trivial | exact rfl | apply And.intro))
      · obtain ⟨rfl, rfl, rfl⟩ := h1' rfl
        clear h0' h1' h2'
        with_reducible refine auL ?_
        obtain ⟨i, hf, hi⟩ := hlib.find (b ++ [49])
        by_cases hm : (b ++ [49]) ∈ A
        · have hidx := hi hm
          rw [decide_eq_true hm] at hf
          repeat' (first
            | (with_reducible refine auS ?_)
            | (first | (simp only [mkS_size, mkS_app, w0, w1]) | (with_reducible refine runR_call hf ?_) | (with_reducible refine runR_call n0 ?_) | (with_reducible refine runR_call n1 ?_) | fail)
            | (with_reducible refine auD ?_)
            | ((with_reducible refine auB ?_ ?_); all_goals first | (intro h; first | exact auH | simp only [h, runR_t, runR_f] | skip) | skip)
            | (first | ((with_reducible refine atN ?_); (refine runR_n (by simp only [mkS_size, List.length_singleton]; omega) ?_)) | fail))
          (all_goals first | exact auP | skip)
          refine nx_loop ⟨⟨2, 2, idxA A (b ++ [48]), idxA A (b ++ [49])⟩, ⟨(show 2 ≤ 2 by decide), fun h => absurd (show (2 : Nat) = 0 from h) (by decide), fun h => absurd (show (2 : Nat) = 1 from h) (by decide), fun _ => ⟨rfl, rfl, rfl⟩⟩, (show 2 - 2 < 2 - 1 by decide), ?_⟩
          rw [hidx]
          refine le_mk ?_ ?_ (Nat.le_refl _)
          all_goals first | with_reducible refine auE ?_ | exact auE0
          all_goals (repeat' (first | exact trivial | exact rfl | apply And.intro))
        · have hidx : idxA A (b ++ [49]) = 0 := if_neg hm
          rw [decide_eq_false hm] at hf
          repeat' (first
            | (with_reducible refine auS ?_)
            | (first | (simp only [mkS_size, mkS_app, w0, w1]) | (with_reducible refine runR_call hf ?_) | (with_reducible refine runR_call n0 ?_) | (with_reducible refine runR_call n1 ?_) | fail)
            | (with_reducible refine auD ?_)
            | ((with_reducible refine auB ?_ ?_); all_goals first | (intro h; first | exact auH | simp only [h, runR_t, runR_f] | skip) | skip)
            | (first | ((with_reducible refine atN ?_); (refine runR_n (by simp only [mkS_size, List.length_singleton]; omega) ?_)) | fail))
          (all_goals first | exact auP | skip)
          refine nx_loop ⟨⟨2, 2, idxA A (b ++ [48]), idxA A (b ++ [49])⟩, ⟨(show 2 ≤ 2 by decide), fun h => absurd (show (2 : Nat) = 0 from h) (by decide), fun h => absurd (show (2 : Nat) = 1 from h) (by decide), fun _ => ⟨rfl, rfl, rfl⟩⟩, (show 2 - 2 < 2 - 1 by decide), ?_⟩
          rw [hidx]
          refine le_mk ?_ ?_ (Nat.le_refl _)
          all_goals first | with_reducible refine auE ?_ | exact auE0
          all_goals (repeat' (first | exact trivial | exact rfl | apply And.intro))
      · obtain ⟨rfl, rfl, rfl⟩ := h2' rfl
        clear h0' h1' h2'
        with_reducible refine auL ?_
        have hnd : ndA A rows b = ⟨idxA A (b ++ [48]), idxA A (b ++ [49]), anyV rows b, lastV rows b⟩ := rfl
        have hnR : ndR A rows (A.take k) ++ [(ndA A rows b).enc] = ndR A rows (A.take (k + 1)) := by rw [hts]; simp
        rw [hnd] at hnR
        have hlR : (ndR A rows (A.take k)).length = k := by simp; omega
        generalize idxA A (b ++ [48]) = I0 at *
        generalize idxA A (b ++ [49]) = I1 at *
        repeat' (first
          | (with_reducible refine auS ?_)
          | (simp only [hlr])
          | (with_reducible refine auD ?_)
          | ((with_reducible refine auB ?_ ?_); all_goals first | (intro h; first | exact auH | simp only [h, runR_t, runR_f] | skip) | skip)
          | fail)
        (all_goals first | exact auP | skip)
        refine go_loopH (α := Nat) (fun y => [(⟨.d1, .d0, .d4⟩, .v (.int .i64 (y : Nat)))])
          (fun y => [(5, some ⟨g2, 4, [[.v (.int .i64 I0), .v (.int .i64 I1), .v (.bool (anyV (rows.take y) b)), .v (.int .i64 (lastV (rows.take y) b))]]⟩), (6, none)]) (fun y => g2 + 1 + y) (fun y => rows.length - y)
          (fun y => y ≤ rows.length) 0 (Nat.zero_le _) ?_ ?_
        · skip
          refine le_mk ?_ ?_ (Nat.le_refl _)
          all_goals first | with_reducible refine auE ?_ | exact auE0
          all_goals (repeat' (first | exact trivial | exact rfl | apply And.intro))
        intro i hi
        dsimp only at hi ⊢
        with_reducible refine auL ?_
        by_cases hlt2 : i < rows.length
        · obtain ⟨⟨rb, rv⟩, ht⟩ : ∃ t, rows[i]? = some t := ⟨_, List.getElem?_eq_getElem hlt2⟩
          have ex := xget_map rwE rows i (rb, rv) ht
          have hts := take_snoc ht
          have wi : IntKind.i64.wrap ((i : Int) + 1) = ((i + 1 : Nat) : Int) := (IntWalk.i64_in _ (by omega)).trans (by omega)
          have ha : anyV (rows.take (i + 1)) b = (anyV (rows.take i) b || decide (rb = b)) := by rw [hts, anyV_snoc]
          have hv : lastV (rows.take (i + 1)) b = if rb = b then rv else lastV (rows.take i) b := by rw [hts, lastV_snoc]
          by_cases he : rb = b
          · have hd : decide (mkS rb = mkS b) = true := decide_eq_true (mkS_inj.2 he)
            rw [decide_eq_true he, Bool.or_true] at ha
            rw [if_pos he] at hv
            repeat' (first
              | (with_reducible refine auS ?_)
              | (simp only [hlr, Int.toNat_natCast, ex, hd])
              | (with_reducible refine auD ?_)
              | ((with_reducible refine auB ?_ ?_); all_goals first | (intro h; first | exact auH | simp only [h, runR_t, runR_f] | skip) | skip)
              | fail)
            (all_goals first | exact auP | skip)
            refine nx_loop ⟨i + 1, hlt2, (show rows.length - (i + 1) < rows.length - i by omega), ?_⟩
            refine le_mk ?_ ?_ (Nat.le_refl _)
            all_goals first | with_reducible refine auE ?_ | exact auE0
            all_goals (repeat' (first | exact trivial | exact rfl | apply And.intro))
            all_goals first
              | exact dint wi
              | (rw [ha]; done)
              | (rw [hv]; done)
              | (rw [ha, hv]; done)
              | skip
          · have hd : decide (mkS rb = mkS b) = false := decide_eq_false (fun q => he (mkS_inj.1 q))
            rw [decide_eq_false he, Bool.or_false] at ha
            rw [if_neg he] at hv
            repeat' (first
              | (with_reducible refine auS ?_)
              | (simp only [hlr, Int.toNat_natCast, ex, hd])
              | (with_reducible refine auD ?_)
              | ((with_reducible refine auB ?_ ?_); all_goals first | (intro h; first | exact auH | simp only [h, runR_t, runR_f] | skip) | skip)
              | fail)
            (all_goals first | exact auP | skip)
            refine nx_loop ⟨i + 1, hlt2, (show rows.length - (i + 1) < rows.length - i by omega), ?_⟩
            refine le_mk ?_ ?_ (Nat.le_refl _)
            all_goals first | with_reducible refine auE ?_ | exact auE0
            all_goals (repeat' (first | exact trivial | exact rfl | apply And.intro))
            all_goals first
              | exact dint wi
              | (rw [ha]; done)
              | (rw [hv]; done)
              | (rw [ha, hv]; done)
              | skip
        · obtain rfl : i = rows.length := by omega
          simp only [List.take_length]
          repeat' (first
            | (with_reducible refine auS ?_)
            | (simp only [hlr, hnR, hlR])
            | (with_reducible refine auD ?_)
            | ((with_reducible refine auB ?_ ?_); all_goals first | (intro h; first | exact auH | simp only [h, runR_t, runR_f] | skip) | skip)
            | (first | ((with_reducible refine atN ?_); first | (refine runR_n ⟨by trivial, by trivial, by trivial, by trivial, hlR.symm⟩ ?_) | (refine runR_n ⟨by trivial, by (try rw [hlR]); have := hlib.lenA; unfold room maxLen; (try simp only [List.length_cons, List.length_nil]); omega⟩ ?_)) | fail))
          (all_goals first | exact auP | skip)
          refine nx_loop ⟨⟨k + 1, g2 + 1 + rows.length + 1, g2 + 1 + rows.length + 2⟩, hlt, (show A.length - (k + 1) < A.length - k by omega), ?_⟩
          refine le_mk ?_ ?_ (Nat.le_refl _)
          all_goals first | with_reducible refine auE ?_ | exact auE0
          all_goals (repeat' (first | exact trivial | exact rfl | apply And.intro))
          all_goals exact dint wk
    · obtain rfl : k = A.length := by omega
      repeat' (first
        | (with_reducible refine auS ?_)
        | (simp only [hlA])
        | (with_reducible refine auD ?_)
        | ((with_reducible refine auB ?_ ?_); all_goals first | (intro h; first | exact auH | simp only [h, runR_t, runR_f] | skip) | skip)
        | fail)
      (all_goals first | exact auP | skip)
      simp only [List.take_length]
      have hlN : (ndR A rows A).length = A.length := by simp
      have hnf : ∀ g, nfLL g (ndR A rows A) := fun g => nfLL_map (fun x => by simp [nfL, nfD])
      have e1 : xtake (xdrop (ndR A rows A) 0) A.length = ndR A rows A := by rw [xdrop_eq, xtake_eq, List.drop_zero, List.take_of_length_le (Nat.le_of_eq hlN)]
      refine ret_m [8] [nm2] ⟨⟨rfl, rfl, Nat.succ_pos _, Nat.le_refl 1⟩, trivial⟩ (by decide) rfl (fun a ha => by simp at ha; subst ha; exact ⟨8, _, rfl, rfl⟩) (fun m => ⟨⟨0, m, .inl ⟨0, rfl, rfl⟩, rfl⟩, rfl⟩) (fun m => ⟨⟨.inl ⟨0, rfl, rfl⟩, rfl, renMLL_nf _ (hnf _)⟩, rfl⟩)
end Go.Proofs.Ytlfbjdafnappdaa
