/-
  Tries in the reference: the rows that a trie seems to hold, as a row of the caller's own.
-/
import Derived.Test.YtlfbjdafnappdaaPutC
namespace Go.Proofs.Ytlfbjdafnappdaa
set_option linter.unusedVariables false
set_option linter.unusedSimpArgs false
abbrev rwE (r : Rw) : List DV := [.v (.string (mkS r.1)), .v (.int .i64 r.2)]
abbrev rwR (X : List Rw) : List (List DV) := X.map rwE
abbrev vsE (x : Nat × B8) : List DV := [.v (.int .i64 (x.1 : Nat)), .v (.string (mkS x.2))]
def tdR (st : List (Nat × B8)) : List (List DV) := st.reverse.map vsE
theorem rwR_len (X : List Rw) : (rwR X).length = X.length := List.length_map _
theorem rwR_nf (X : List Rw) (g : Nat) : nfLL g (rwR X) := nfLL_map (fun x => by simp [nfL, nfD])
theorem rwR_one (X : List Rw) : allOnes (rwR X) = true := allOnes_map (f := rwE) (fun x => rfl) X
theorem rwO_snoc (X : List Rw) (r : Rw) : rwR X ++ [rwE r] = rwR (X ++ [r]) := by simp
theorem tdR_len (st : List (Nat × B8)) : (tdR st).length = st.length := by simp [tdR]
theorem tdR_cons (x : Nat × B8) (r : List (Nat × B8)) : tdR r ++ [vsE x] = tdR (x :: r) := by simp [tdR]
theorem tdR_top (x : Nat × B8) (r : List (Nat × B8)) : xget (tdR (x :: r)) r.length = vsE x := by
  rw [← tdR_cons, xget_get, List.getElem?_append_right (by rw [tdR_len]; exact Nat.le_refl _), tdR_len, Nat.sub_self]
  rfl
theorem tdR_pop (x : Nat × B8) (r : List (Nat × B8)) : xtake (tdR (x :: r)) r.length = tdR r := by
  rw [← tdR_cons, xtake_eq, List.take_left' (tdR_len r)]
theorem le_sl {st : St} (s : Sl) (k' : Nat) {k n sz lo len : Nat} {full : Bool} (hs : st.tm.get s = .sl k n sz lo len full) : Le st ⟨st.tm.set s (.sl k' n sz lo len full), st.H, st.gen⟩ := by
  intro Γ N K a w hR
  refine ⟨K, hR.inv, hR.fresh, hR.g0, hR.size, hR.defers, fun q => ?_⟩
  show VRel K w ((st.tm.set s _).get q) _
  rw [Env.get_set]
  by_cases e : q = s
  · rw [if_pos e, e]
    have := hR.tm s
    rw [hs] at this
    exact sl_label this
  · rw [if_neg e]
    exact hR.tm q
/-- What was taken off the stack is gone. -/
theorem go_pop {Γ : Gm} {P : Program} {N : Nat} {R : St → Prop} {xc : XC} {kk : List KI} {st : St} (k : Nat) (s : Sl) {n : Nat} {x : Nat × B8} {r : List (Nat × B8)} (hs : st.tm.get s = .sl k n 2 0 r.length false) (ho : lget st.H k = some ⟨n, 2, tdR (x :: r)⟩) (h : Go Γ P N R xc kk ⟨st.tm, lset st.H k (some ⟨n, 2, tdR r⟩), st.gen⟩) : Go Γ P N R xc kk st := by
  refine go_leG (le_leG (le_trim k r.length ho (by show 0 < 2; omega))) ?_
  rw [tdR_pop]
  exact h
def cRw : Option (List Rw) → Nat
  | none => 0
  | some X => 1
def dRw : Option (List Rw) → Nat → DV
  | none, _ => .tup [.v (.slice none 0 0), .v (.bool false)]
  | some X, m => .tup [.sl 0 m 2 0 X.length false, .v (.bool true)]
def hRw : Option (List Rw) → Nat → HL
  | none, _ => []
  | some X, m => [some ⟨m, 2, rwR X⟩]
theorem rows_0 (c : Bool) : Spec Try.prog 9 [dTrie [] c] (.tup [.v (.slice none 0 0), .v (.bool true)]) := by
  refine hspec_fn Try.func9 rfl ok_custref_TrieRows okr_custref_TrieRows rfl (by kernel_rfl) ?_
  intro Γ hW0 hN0 hL0
  have hW := hW0 rfl
  clear hW0 hN0 hL0
  unfold x_custref_TrieRows r_custref_TrieRows
  with_reducible refine auC ?_
  repeat' (first
    | (with_reducible refine auS ?_)
    | (simp only [List.map_nil, List.length_nil, Int.natCast_zero, decide_true])
    | (with_reducible refine auD ?_)
    | ((with_reducible refine auB ?_ ?_); all_goals first | (intro h; first | exact auH | simp only [h, runR_t, runR_f] | skip) | skip)
    | fail)
  (all_goals first | exact auP | skip)
  all_goals first
    | (exfalso; simp at h; done)
    | skip
  all_goals with_reducible refine auF ?_
  all_goals (try first | with_reducible refine auR ?_ | exact auR0)
  all_goals (try simp only [hsM] at *)
structure TdS where
  (n : Nat) (st : List (Nat × B8)) (out : List Rw) (nO nT g : Nat)
structure TiS where
  (j : Nat) (K : Int) (Q : List (Nat × B8)) (nT g : Nat)
set_option maxHeartbeats 8000000 in
theorem rows_core (L : List Nd) (c : Bool) (h0 : L ≠ []) (hl : L.length ≤ 500) : MSpec Try.prog 9 [dTrie L c] [] (cRw (rowsG L (L.length + 1) [(0, [])] [])) (fun m d H => d = dRw (rowsG L (L.length + 1) [(0, [])] []) m ∧ H = hRw (rowsG L (L.length + 1) [(0, [])] []) m) := by
  generalize hR : rowsG L (L.length + 1) [(0, [])] [] = R
  have hlen : (L.map Nd.enc).length = L.length := List.length_map _
  have hpos : 0 < L.length := List.length_pos_iff.2 h0
  have hz : ¬ ((L.length : Nat) : Int) = 0 := by omega
  refine mspec_fn Try.func9 rfl ok_custref_TrieRows okr_custref_TrieRows rfl (by kernel_rfl) ?_
  intro Γ hW0 hN0 hL0
  have hW := hW0 rfl
  clear hW0 hN0 hL0
  unfold x_custref_TrieRows r_custref_TrieRows
  with_reducible refine auC ?_
  repeat' (first
    | (with_reducible refine auS ?_)
    | (simp only [hlen])
    | (with_reducible refine auD ?_)
    | ((with_reducible refine auB ?_ ?_); all_goals first | (intro h; first | exact auH | simp only [h, runR_t, runR_f] | skip) | skip)
    | fail)
  (all_goals first | exact auP | skip)
  apply go_le
  · exact le_row ⟨.d0, .d0, .d4⟩ 5 2 rfl rfl
  apply go_le
  · exact le_place 1 7 rfl (fun _ => rfl)
  apply go_le
  · exact le_sl ⟨.d0, .d0, .d5⟩ 7 rfl
  with_reducible refine auL ?_
  refine go_loopH (α := TdS) (fun y => [(⟨.d0, .d0, .d4⟩, .sl 5 y.nO 2 0 y.out.length false), (⟨.d0, .d0, .d5⟩, .sl 7 y.nT 2 0 y.st.length false), (⟨.d0, .d0, .d6⟩, .v (.int .i64 (y.n : Nat)))])
    (fun y => [(1, none), (2, none), (3, none), (4, none), (5, some ⟨y.nO, 2, rwR y.out⟩), (6, none), (7, some ⟨y.nT, 2, tdR y.st⟩)])
    (fun y => y.g) (fun y => L.length + 2 - y.n)
    (fun y => y.n ≤ L.length + 1 ∧ y.out.length ≤ y.n ∧ y.st.length ≤ y.n + 1 ∧ (∀ x ∈ y.st, x.1 < L.length ∧ x.2.length ≤ 33) ∧ rowsG L (L.length + 1 - y.n) y.st y.out = R)
    ⟨0, [(0, [])], [], Γ.g0 + 2, Γ.g0 + 1, Γ.g0 + 3⟩ ⟨Nat.zero_le _, Nat.le_refl _, Nat.le_refl _, fun x hx => by rw [List.mem_singleton.1 hx]; exact ⟨hpos, Nat.zero_le _⟩, hR⟩ ?_ ?_
  · skip
    refine le_mk ?_ ?_ (Nat.le_refl _)
    all_goals first | with_reducible refine auE ?_ | exact auE0
    all_goals (repeat' (first | exact trivial | exact rfl | apply And.intro))
    all_goals first
      | rfl
      | skip
  rintro ⟨n, st, out, nO, nT, g⟩ ⟨hn, ho, hst, hm, hR⟩
  dsimp only at hn ho hst hm hR ⊢
  with_reducible refine auL ?_
  cases st with
  | nil =>
    rw [rowsG_nil] at hR
    subst hR
    show Go _ _ _ (RetQM _ _ 0 1 (fun m d H => d = .tup [.sl 0 m 2 0 out.length false, .v (.bool true)] ∧ H = [some ⟨m, 2, rwR out⟩])) _ _ _
    have hlo := rwR_len out
    have hnf := rwR_nf out
    have e1 : xtake (xdrop (rwR out) 0) out.length = rwR out := by rw [xdrop_eq, xtake_eq, List.drop_zero, List.take_of_length_le (Nat.le_of_eq hlo)]
    repeat' (first
      | (with_reducible refine auS ?_)
      | fail
      | (with_reducible refine auD ?_)
      | ((with_reducible refine auB ?_ ?_); all_goals first | (intro h; first | exact auH | simp only [h, runR_t, runR_f] | skip) | skip)
      | fail)
    (all_goals first | exact auP | skip)
    refine ret_m [5] [nO] trivial (by decide) rfl (fun a ha => by simp at ha; subst ha; exact ⟨5, _, rfl, rfl⟩) (fun m => ⟨⟨0, m, .inl ⟨0, rfl, rfl⟩, rfl⟩, ⟨rfl, trivial⟩, rfl⟩) (fun m => ⟨⟨.inl ⟨0, rfl, rfl⟩, rfl, renMLL_nf _ (hnf _)⟩, rfl⟩)
  | cons hd r =>
    obtain ⟨i, b⟩ := hd
    obtain ⟨hi, hb⟩ := hm (i, b) List.mem_cons_self
    have hrm := fun x hx => hm x (List.mem_cons_of_mem _ hx)
    dsimp only at hi hb
    simp only [List.length_cons] at hst
    have htop := tdR_top (i, b) r
    have hlT := tdR_len ((i, b) :: r)
    have ew1 : IntKind.i64.wrap (((r.length + 1 : Nat) : Int) - 1) = ((r.length : Nat) : Int) := (IntWalk.i64_in _ (by omega)).trans (by omega)
    have ewL : IntKind.i64.wrap ((L.length : Int) - 1) = (L.length : Int) - 1 := IntWalk.i64_in _ (by omega)
    have ewn : IntKind.i64.wrap ((n : Int) + 1) = ((n + 1 : Nat) : Int) := (IntWalk.i64_in _ (by omega)).trans (by omega)
    obtain ⟨x, hx⟩ : ∃ x, L[i]? = some x := ⟨_, List.getElem?_eq_getElem hi⟩
    have ex := xget_map Nd.enc L i x hx
    by_cases hnL : n = L.length + 1
    · have : R = none := by rw [← hR, hnL, Nat.sub_self]; rfl
      subst this
      show Go _ _ _ (RetQM _ _ 0 0 (fun m d H => d = .tup [.v (.slice none 0 0), .v (.bool false)] ∧ H = [])) _ _ _
      repeat' (first
        | ((with_reducible refine atGo ?_); (refine go_pop (x := (i, b)) (r := r) 7 ⟨.d0, .d0, .d5⟩ rfl rfl ?_))
        | (with_reducible refine auS ?_)
        | (first | (simp only [hlen, mkS_size, Int.toNat_natCast, Nat.zero_add, Int.sub_zero, ew1, htop, hlT, ex]) | fail)
        | (with_reducible refine auD ?_)
        | ((with_reducible refine auB ?_ ?_); all_goals first | (intro h; first | exact auH | simp only [h, runR_t, runR_f] | skip) | skip)
        | fail)
      (all_goals first | exact auP | skip)
      all_goals refine ret_m [] [] trivial (by decide) rfl (fun a ha => by simp at ha) (fun m => ⟨⟨rfl, trivial⟩, ⟨rfl, trivial⟩, rfl⟩) (fun m => rfl)
    obtain ⟨f, hf⟩ : ∃ f, L.length + 1 - n = f + 1 := ⟨L.length - n, by omega⟩
    rw [hf, rowsG_succ, getD_of hx] at hR
    by_cases hb32 : 32 < b.length
    · rw [if_pos hb32] at hR
      subst hR
      show Go _ _ _ (RetQM _ _ 0 0 (fun m d H => d = .tup [.v (.slice none 0 0), .v (.bool false)] ∧ H = [])) _ _ _
      repeat' (first
        | ((with_reducible refine atGo ?_); (refine go_pop (x := (i, b)) (r := r) 7 ⟨.d0, .d0, .d5⟩ rfl rfl ?_))
        | (with_reducible refine auS ?_)
        | (first | (simp only [hlen, mkS_size, Int.toNat_natCast, Nat.zero_add, Int.sub_zero, ew1, htop, hlT, ex]) | fail)
        | (with_reducible refine auD ?_)
        | ((with_reducible refine auB ?_ ?_); all_goals first | (intro h; first | exact auH | simp only [h, runR_t, runR_f] | skip) | skip)
        | fail)
      (all_goals first | exact auP | skip)
      all_goals refine ret_m [] [] trivial (by decide) rfl (fun a ha => by simp at ha) (fun m => ⟨⟨rfl, trivial⟩, ⟨rfl, trivial⟩, rfl⟩) (fun m => rfl)
    rw [if_neg hb32] at hR
    have hsO := rwO_snoc out (b, x.v)
    have hlO := rwR_len out
    have hoO := rwR_one out
    have bt1 := between_spec x.b 0 ((L.length : Int) - 1)
    have bt0 := between_spec x.a 0 ((L.length : Int) - 1)
    obtain ⟨xa, xb, xs, xv⟩ := x
    dsimp only at hR hsO bt1 bt0
    have hpsh : ∀ (y : Int) (c : UInt8) (Q : List (Nat × B8)), 0 < y → tdR Q ++ [[.v (.int .i64 y), .v (.string (mkS (b ++ [c])))]] = tdR ((y.toNat, b ++ [c]) :: Q) := fun y c Q h => by
      rw [← tdR_cons]
      have : ((y.toNat : Nat) : Int) = y := by omega
      simp only [vsE, this]
    have n1 : Spec Try.prog 27 [.v (.int .i64 1)] (.v (.string (mkS [49]))) := num_spec 1 (by decide)
    have n0 : Spec Try.prog 27 [.v (.int .i64 0)] (.v (.string (mkS [48]))) := num_spec 0 (by decide)
    have w1 : IntKind.i64.wrap ((1 : Int) - 1) = 0 := by decide
    have w0 : IntKind.i64.wrap ((0 : Int) - 1) = -1 := by decide
    have hrl : r.length ≤ n := by omega
    have htd : ∀ (s : Bool), (todoN ⟨xa, xb, s, xv⟩ b r).length ≤ r.length + 2 := fun s => by
      unfold todoN
      dsimp only
      split <;> split <;> simp
    have hmem : ∀ (s : Bool), inB xb L = true → inB xa L = true → ∀ x ∈ todoN ⟨xa, xb, s, xv⟩ b r, x.1 < L.length ∧ x.2.length ≤ 33 := fun s h1 h2 x hx => by
      have h1 := of_decide_eq_true h1
      have h2 := of_decide_eq_true h2
      unfold todoN at hx
      dsimp only at hx
      rcases List.mem_append.1 hx with hx | hx
      · split at hx
        · rw [List.mem_singleton.1 hx]; exact ⟨by show xa.toNat < _; omega, by simp; omega⟩
        · simp at hx
      · rcases List.mem_append.1 hx with hx | hx
        · split at hx
          · rw [List.mem_singleton.1 hx]; exact ⟨by show xb.toNat < _; omega, by simp; omega⟩
          · simp at hx
        · exact hrm x hx
    cases xs
    · have hR : (if inB xb L = true ∧ inB xa L = true then rowsG L f (todoN ⟨xa, xb, false, xv⟩ b r) out else none) = R := by
        have e : outN ⟨xa, xb, false, xv⟩ b out = out := by simp [outN]
        rw [e] at hR
        exact hR
      repeat' (first
        | ((with_reducible refine atGo ?_); (refine go_pop (x := (i, b)) (r := r) 7 ⟨.d0, .d0, .d5⟩ rfl rfl ?_))
        | (with_reducible refine auS ?_)
        | (first | (simp only [hlen, mkS_size, Int.toNat_natCast, Nat.zero_add, Int.sub_zero, ew1, htop, hlT, ex]) | fail)
        | (with_reducible refine auD ?_)
        | ((with_reducible refine auB ?_ ?_); all_goals first | (intro h; first | exact auH | simp only [h, runR_t, runR_f] | skip) | skip)
        | fail)
      (all_goals first | exact auP | skip)
      refine go_loopH (α := TiS) (fun y => [(⟨.d0, .d0, .d5⟩, .sl 7 y.nT 2 0 y.Q.length false), (⟨.d0, .d1, .d1⟩, .v (.int .i64 y.K))]) (fun y => [(6, none), (7, some ⟨y.nT, 2, tdR y.Q⟩)]) (fun y => y.g) (fun y => 2 - y.j)
        (fun y => y.j ≤ 2 ∧ y.Q.length ≤ r.length + y.j ∧ (y.j = 0 → y.K = 1 ∧ y.Q = r) ∧ (y.j = 1 → y.K = 0 ∧ inB xb L = true ∧ y.Q = (if 0 < xb then [(xb.toNat, b ++ [49])] else []) ++ r) ∧ (y.j = 2 → y.K = -1 ∧ inB xb L = true ∧ inB xa L = true ∧ y.Q = todoN ⟨xa, xb, false, xv⟩ b r))
        ⟨0, 1, r, nT, g + 2⟩ ⟨Nat.zero_le _, Nat.le_refl _, fun _ => ⟨rfl, rfl⟩, fun h => absurd (show (0 : Nat) = 1 from h) (by decide), fun h => absurd (show (0 : Nat) = 2 from h) (by decide)⟩ ?_ ?_
      · skip
        refine le_mk ?_ ?_ (Nat.le_refl _)
        all_goals first | with_reducible refine auE ?_ | exact auE0
        all_goals (repeat' (first | exact trivial | exact rfl | apply And.intro))
      rintro ⟨j, K, Q, nT, gi⟩ ⟨hj, hQ, h0', h1', h2'⟩
      dsimp only at hj hQ h0' h1' h2' ⊢
      have hlQ := tdR_len Q
      obtain rfl | rfl | rfl : j = 0 ∨ j = 1 ∨ j = 2 := by omega
      · obtain ⟨rfl, rfl⟩ := h0' rfl
        clear h0' h1' h2'
        with_reducible refine auL ?_
        rcases (Bool.eq_false_or_eq_true (inB xb L)).symm with hq | hq
        · skip
          have bt := bt1
          rw [show decide (0 ≤ xb ∧ xb ≤ (L.length : Int) - 1) = false from hq] at bt
          rw [if_neg (fun h => by rw [h.1] at hq; cases hq)] at hR
          subst hR
          show Go _ _ _ (RetQM _ _ 0 0 (fun m d H => d = .tup [.v (.slice none 0 0), .v (.bool false)] ∧ H = [])) _ _ _
          repeat' (first
            | (with_reducible refine auS ?_)
            | (first | (simp only [hlen, mkS_size, mkS_app, Int.toNat_natCast, ewL, w1, w0, hlQ]) | (with_reducible refine runR_call bt ?_) | (with_reducible refine runR_call n1 ?_) | fail)
            | (with_reducible refine auD ?_)
            | ((with_reducible refine auB ?_ ?_); all_goals first | (intro h; first | exact auH | simp only [h, runR_t, runR_f] | skip) | skip)
            | (first | ((with_reducible refine atN ?_); first | (refine runR_n ⟨by trivial, by trivial, by trivial, by trivial, hlQ.symm⟩ ?_) | (refine runR_n ⟨by trivial, by (try rw [hlQ]); unfold room maxLen; simp only [List.length_cons, List.length_nil]; omega⟩ ?_) | (refine runR_n (by simp only [mkS_size, List.length_singleton]; omega) ?_)) | fail))
          (all_goals first | exact auP | skip)
          all_goals refine ret_m [] [] trivial (by decide) rfl (fun a ha => by simp at ha) (fun m => ⟨⟨rfl, trivial⟩, ⟨rfl, trivial⟩, rfl⟩) (fun m => rfl)
        · have bt := bt1
          rw [show decide (0 ≤ xb ∧ xb ≤ (L.length : Int) - 1) = true from hq] at bt
          by_cases hx0 : 0 < xb
          · have hp := hpsh xb 49 Q hx0
            repeat' (first
              | (with_reducible refine auS ?_)
              | (first | (simp only [hlen, mkS_size, mkS_app, Int.toNat_natCast, ewL, w1, w0, hlQ, hp]) | (with_reducible refine runR_call bt ?_) | (with_reducible refine runR_call n1 ?_) | fail)
              | (with_reducible refine auD ?_)
              | ((with_reducible refine auB ?_ ?_); all_goals first | (intro h; first | exact auH | simp only [h, runR_t, runR_f] | skip) | skip)
              | (first | ((with_reducible refine atN ?_); first | (refine runR_n ⟨by trivial, by trivial, by trivial, by trivial, hlQ.symm⟩ ?_) | (refine runR_n ⟨by trivial, by (try rw [hlQ]); unfold room maxLen; simp only [List.length_cons, List.length_nil]; omega⟩ ?_) | (refine runR_n (by simp only [mkS_size, List.length_singleton]; omega) ?_)) | fail))
            (all_goals first | exact auP | skip)
            refine nx_loop ⟨⟨1, 0, (xb.toNat, b ++ [49]) :: Q, gi + 1, gi + 2⟩, ⟨(show 1 ≤ 2 by decide), (by simp), fun h => absurd (show (1 : Nat) = 0 from h) (by decide), fun _ => ⟨rfl, hq, by rw [if_pos hx0]; rfl⟩, fun h => absurd (show (1 : Nat) = 2 from h) (by decide)⟩, (show 2 - 1 < 2 - 0 by decide), ?_⟩
            refine le_mk ?_ ?_ (Nat.le_refl _)
            all_goals first | with_reducible refine auE ?_ | exact auE0
            all_goals (repeat' (first | exact trivial | exact rfl | apply And.intro))
          · skip
            repeat' (first
              | (with_reducible refine auS ?_)
              | (first | (simp only [hlen, mkS_size, mkS_app, Int.toNat_natCast, ewL, w1, w0, hlQ]) | (with_reducible refine runR_call bt ?_) | (with_reducible refine runR_call n1 ?_) | fail)
              | (with_reducible refine auD ?_)
              | ((with_reducible refine auB ?_ ?_); all_goals first | (intro h; first | exact auH | simp only [h, runR_t, runR_f] | skip) | skip)
              | (first | ((with_reducible refine atN ?_); first | (refine runR_n ⟨by trivial, by trivial, by trivial, by trivial, hlQ.symm⟩ ?_) | (refine runR_n ⟨by trivial, by (try rw [hlQ]); unfold room maxLen; simp only [List.length_cons, List.length_nil]; omega⟩ ?_) | (refine runR_n (by simp only [mkS_size, List.length_singleton]; omega) ?_)) | fail))
            (all_goals first | exact auP | skip)
            refine nx_loop ⟨⟨1, 0, Q, nT, gi⟩, ⟨(show 1 ≤ 2 by decide), Nat.le_succ _, fun h => absurd (show (1 : Nat) = 0 from h) (by decide), fun _ => ⟨rfl, hq, by rw [if_neg hx0]; rfl⟩, fun h => absurd (show (1 : Nat) = 2 from h) (by decide)⟩, (show 2 - 1 < 2 - 0 by decide), ?_⟩
            refine le_mk ?_ ?_ (Nat.le_refl _)
            all_goals first | with_reducible refine auE ?_ | exact auE0
            all_goals (repeat' (first | exact trivial | exact rfl | apply And.intro))
      · obtain ⟨rfl, hqb, hQe⟩ := h1' rfl
        clear h0' h1' h2'
        with_reducible refine auL ?_
        rcases (Bool.eq_false_or_eq_true (inB xa L)).symm with hq | hq
        · skip
          have bt := bt0
          rw [show decide (0 ≤ xa ∧ xa ≤ (L.length : Int) - 1) = false from hq] at bt
          rw [if_neg (fun h => by rw [h.2] at hq; cases hq)] at hR
          subst hR
          show Go _ _ _ (RetQM _ _ 0 0 (fun m d H => d = .tup [.v (.slice none 0 0), .v (.bool false)] ∧ H = [])) _ _ _
          repeat' (first
            | (with_reducible refine auS ?_)
            | (first | (simp only [hlen, mkS_size, mkS_app, Int.toNat_natCast, ewL, w1, w0, hlQ]) | (with_reducible refine runR_call bt ?_) | (with_reducible refine runR_call n0 ?_) | fail)
            | (with_reducible refine auD ?_)
            | ((with_reducible refine auB ?_ ?_); all_goals first | (intro h; first | exact auH | simp only [h, runR_t, runR_f] | skip) | skip)
            | (first | ((with_reducible refine atN ?_); first | (refine runR_n ⟨by trivial, by trivial, by trivial, by trivial, hlQ.symm⟩ ?_) | (refine runR_n ⟨by trivial, by (try rw [hlQ]); unfold room maxLen; simp only [List.length_cons, List.length_nil]; omega⟩ ?_) | (refine runR_n (by simp only [mkS_size, List.length_singleton]; omega) ?_)) | fail))
          (all_goals first | exact auP | skip)
          all_goals refine ret_m [] [] trivial (by decide) rfl (fun a ha => by simp at ha) (fun m => ⟨⟨rfl, trivial⟩, ⟨rfl, trivial⟩, rfl⟩) (fun m => rfl)
        · have bt := bt0
          rw [show decide (0 ≤ xa ∧ xa ≤ (L.length : Int) - 1) = true from hq] at bt
          by_cases hx0 : 0 < xa
          · have hp := hpsh xa 48 Q hx0
            repeat' (first
              | (with_reducible refine auS ?_)
              | (first | (simp only [hlen, mkS_size, mkS_app, Int.toNat_natCast, ewL, w1, w0, hlQ, hp]) | (with_reducible refine runR_call bt ?_) | (with_reducible refine runR_call n0 ?_) | fail)
              | (with_reducible refine auD ?_)
              | ((with_reducible refine auB ?_ ?_); all_goals first | (intro h; first | exact auH | simp only [h, runR_t, runR_f] | skip) | skip)
              | (first | ((with_reducible refine atN ?_); first | (refine runR_n ⟨by trivial, by trivial, by trivial, by trivial, hlQ.symm⟩ ?_) | (refine runR_n ⟨by trivial, by (try rw [hlQ]); unfold room maxLen; simp only [List.length_cons, List.length_nil]; omega⟩ ?_) | (refine runR_n (by simp only [mkS_size, List.length_singleton]; omega) ?_)) | fail))
            (all_goals first | exact auP | skip)
            refine nx_loop ⟨⟨2, -1, (xa.toNat, b ++ [48]) :: Q, gi + 1, gi + 2⟩, ⟨(show 2 ≤ 2 by decide), (by simp; omega), fun h => absurd (show (2 : Nat) = 0 from h) (by decide), fun h => absurd (show (2 : Nat) = 1 from h) (by decide), fun _ => ⟨rfl, hqb, hq, by rw [hQe]; unfold todoN; dsimp only; rw [if_pos hx0]; rfl⟩⟩, (show 2 - 2 < 2 - 1 by decide), ?_⟩
            refine le_mk ?_ ?_ (Nat.le_refl _)
            all_goals first | with_reducible refine auE ?_ | exact auE0
            all_goals (repeat' (first | exact trivial | exact rfl | apply And.intro))
          · skip
            repeat' (first
              | (with_reducible refine auS ?_)
              | (first | (simp only [hlen, mkS_size, mkS_app, Int.toNat_natCast, ewL, w1, w0, hlQ]) | (with_reducible refine runR_call bt ?_) | (with_reducible refine runR_call n0 ?_) | fail)
              | (with_reducible refine auD ?_)
              | ((with_reducible refine auB ?_ ?_); all_goals first | (intro h; first | exact auH | simp only [h, runR_t, runR_f] | skip) | skip)
              | (first | ((with_reducible refine atN ?_); first | (refine runR_n ⟨by trivial, by trivial, by trivial, by trivial, hlQ.symm⟩ ?_) | (refine runR_n ⟨by trivial, by (try rw [hlQ]); unfold room maxLen; simp only [List.length_cons, List.length_nil]; omega⟩ ?_) | (refine runR_n (by simp only [mkS_size, List.length_singleton]; omega) ?_)) | fail))
            (all_goals first | exact auP | skip)
            refine nx_loop ⟨⟨2, -1, Q, nT, gi⟩, ⟨(show 2 ≤ 2 by decide), (by show Q.length ≤ r.length + 2; omega), fun h => absurd (show (2 : Nat) = 0 from h) (by decide), fun h => absurd (show (2 : Nat) = 1 from h) (by decide), fun _ => ⟨rfl, hqb, hq, by rw [hQe]; unfold todoN; dsimp only; rw [if_neg hx0]; rfl⟩⟩, (show 2 - 2 < 2 - 1 by decide), ?_⟩
            refine le_mk ?_ ?_ (Nat.le_refl _)
            all_goals first | with_reducible refine auE ?_ | exact auE0
            all_goals (repeat' (first | exact trivial | exact rfl | apply And.intro))
      · obtain ⟨rfl, hqb, hqa, rfl⟩ := h2' rfl
        rw [if_pos ⟨hqb, hqa⟩] at hR
        have htl := htd false
        have hml := hmem false hqb hqa
        have bt := bt0
        with_reducible refine auL ?_
        repeat' (first
          | (with_reducible refine auS ?_)
          | (first | (simp only [hlen, mkS_size, mkS_app, Int.toNat_natCast, ewL, w1, w0, hlQ]) | (with_reducible refine runR_call bt ?_) | (with_reducible refine runR_call n0 ?_) | fail)
          | (with_reducible refine auD ?_)
          | ((with_reducible refine auB ?_ ?_); all_goals first | (intro h; first | exact auH | simp only [h, runR_t, runR_f] | skip) | skip)
          | (first | ((with_reducible refine atN ?_); first | (refine runR_n ⟨by trivial, by trivial, by trivial, by trivial, hlQ.symm⟩ ?_) | (refine runR_n ⟨by trivial, by (try rw [hlQ]); unfold room maxLen; simp only [List.length_cons, List.length_nil]; omega⟩ ?_) | (refine runR_n (by simp only [mkS_size, List.length_singleton]; omega) ?_)) | fail))
        (all_goals first | exact auP | skip)
        refine nx_loop ⟨⟨n + 1, todoN ⟨xa, xb, false, xv⟩ b r, out, nO, nT, gi⟩, ⟨(show n + 1 ≤ L.length + 1 by omega), (by simp; omega), (by show (todoN ⟨xa, xb, false, xv⟩ b r).length ≤ n + 1 + 1; omega), hml, (by rw [show L.length + 1 - (n + 1) = f by omega]; exact hR)⟩, (show L.length + 2 - (n + 1) < L.length + 2 - n by omega), ?_⟩
        refine le_mk ?_ ?_ (Nat.le_refl _)
        all_goals first | with_reducible refine auE ?_ | exact auE0
        all_goals (repeat' (first | exact trivial | exact rfl | apply And.intro))
        all_goals first
          | exact dint ewn
          | (simp; done)
          | skip
    · have hR : (if inB xb L = true ∧ inB xa L = true then rowsG L f (todoN ⟨xa, xb, true, xv⟩ b r) (out ++ [(b, xv)]) else none) = R := hR
      repeat' (first
        | ((with_reducible refine atGo ?_); (refine go_pop (x := (i, b)) (r := r) 7 ⟨.d0, .d0, .d5⟩ rfl rfl ?_))
        | (with_reducible refine auS ?_)
        | (first | (simp only [hlen, mkS_size, Int.toNat_natCast, Nat.zero_add, Int.sub_zero, ew1, htop, hlT, ex, hsO, hlO]) | fail)
        | (with_reducible refine auD ?_)
        | ((with_reducible refine auB ?_ ?_); all_goals first | (intro h; first | exact auH | simp only [h, runR_t, runR_f] | skip) | skip)
        | fail)
      (all_goals first | exact auP | skip)
      refine go_loopH (α := TiS) (fun y => [(⟨.d0, .d0, .d5⟩, .sl 7 y.nT 2 0 y.Q.length false), (⟨.d0, .d1, .d1⟩, .v (.int .i64 y.K))]) (fun y => [(6, none), (7, some ⟨y.nT, 2, tdR y.Q⟩)]) (fun y => y.g) (fun y => 2 - y.j)
        (fun y => y.j ≤ 2 ∧ y.Q.length ≤ r.length + y.j ∧ (y.j = 0 → y.K = 1 ∧ y.Q = r) ∧ (y.j = 1 → y.K = 0 ∧ inB xb L = true ∧ y.Q = (if 0 < xb then [(xb.toNat, b ++ [49])] else []) ++ r) ∧ (y.j = 2 → y.K = -1 ∧ inB xb L = true ∧ inB xa L = true ∧ y.Q = todoN ⟨xa, xb, true, xv⟩ b r))
        ⟨0, 1, r, nT, g + 4⟩ ⟨Nat.zero_le _, Nat.le_refl _, fun _ => ⟨rfl, rfl⟩, fun h => absurd (show (0 : Nat) = 1 from h) (by decide), fun h => absurd (show (0 : Nat) = 2 from h) (by decide)⟩ ?_ ?_
      · skip
        refine le_mk ?_ ?_ (Nat.le_refl _)
        all_goals first | with_reducible refine auE ?_ | exact auE0
        all_goals (repeat' (first | exact trivial | exact rfl | apply And.intro))
      rintro ⟨j, K, Q, nT, gi⟩ ⟨hj, hQ, h0', h1', h2'⟩
      dsimp only at hj hQ h0' h1' h2' ⊢
      have hlQ := tdR_len Q
      obtain rfl | rfl | rfl : j = 0 ∨ j = 1 ∨ j = 2 := by omega
      · obtain ⟨rfl, rfl⟩ := h0' rfl
        clear h0' h1' h2'
        with_reducible refine auL ?_
        rcases (Bool.eq_false_or_eq_true (inB xb L)).symm with hq | hq
        · skip
          have bt := bt1
          rw [show decide (0 ≤ xb ∧ xb ≤ (L.length : Int) - 1) = false from hq] at bt
          rw [if_neg (fun h => by rw [h.1] at hq; cases hq)] at hR
          subst hR
          show Go _ _ _ (RetQM _ _ 0 0 (fun m d H => d = .tup [.v (.slice none 0 0), .v (.bool false)] ∧ H = [])) _ _ _
          repeat' (first
            | (with_reducible refine auS ?_)
            | (first | (simp only [hlen, mkS_size, mkS_app, Int.toNat_natCast, ewL, w1, w0, hlQ]) | (with_reducible refine runR_call bt ?_) | (with_reducible refine runR_call n1 ?_) | fail)
            | (with_reducible refine auD ?_)
            | ((with_reducible refine auB ?_ ?_); all_goals first | (intro h; first | exact auH | simp only [h, runR_t, runR_f] | skip) | skip)
            | (first | ((with_reducible refine atN ?_); first | (refine runR_n ⟨by trivial, by trivial, by trivial, by trivial, hlQ.symm⟩ ?_) | (refine runR_n ⟨by trivial, by (try rw [hlQ]); unfold room maxLen; simp only [List.length_cons, List.length_nil]; omega⟩ ?_) | (refine runR_n (by simp only [mkS_size, List.length_singleton]; omega) ?_)) | fail))
          (all_goals first | exact auP | skip)
          all_goals refine ret_m [] [] trivial (by decide) rfl (fun a ha => by simp at ha) (fun m => ⟨⟨rfl, trivial⟩, ⟨rfl, trivial⟩, rfl⟩) (fun m => rfl)
        · have bt := bt1
          rw [show decide (0 ≤ xb ∧ xb ≤ (L.length : Int) - 1) = true from hq] at bt
          by_cases hx0 : 0 < xb
          · have hp := hpsh xb 49 Q hx0
            repeat' (first
              | (with_reducible refine auS ?_)
              | (first | (simp only [hlen, mkS_size, mkS_app, Int.toNat_natCast, ewL, w1, w0, hlQ, hp]) | (with_reducible refine runR_call bt ?_) | (with_reducible refine runR_call n1 ?_) | fail)
              | (with_reducible refine auD ?_)
              | ((with_reducible refine auB ?_ ?_); all_goals first | (intro h; first | exact auH | simp only [h, runR_t, runR_f] | skip) | skip)
              | (first | ((with_reducible refine atN ?_); first | (refine runR_n ⟨by trivial, by trivial, by trivial, by trivial, hlQ.symm⟩ ?_) | (refine runR_n ⟨by trivial, by (try rw [hlQ]); unfold room maxLen; simp only [List.length_cons, List.length_nil]; omega⟩ ?_) | (refine runR_n (by simp only [mkS_size, List.length_singleton]; omega) ?_)) | fail))
            (all_goals first | exact auP | skip)
            refine nx_loop ⟨⟨1, 0, (xb.toNat, b ++ [49]) :: Q, gi + 1, gi + 2⟩, ⟨(show 1 ≤ 2 by decide), (by simp), fun h => absurd (show (1 : Nat) = 0 from h) (by decide), fun _ => ⟨rfl, hq, by rw [if_pos hx0]; rfl⟩, fun h => absurd (show (1 : Nat) = 2 from h) (by decide)⟩, (show 2 - 1 < 2 - 0 by decide), ?_⟩
            refine le_mk ?_ ?_ (Nat.le_refl _)
            all_goals first | with_reducible refine auE ?_ | exact auE0
            all_goals (repeat' (first | exact trivial | exact rfl | apply And.intro))
          · skip
            repeat' (first
              | (with_reducible refine auS ?_)
              | (first | (simp only [hlen, mkS_size, mkS_app, Int.toNat_natCast, ewL, w1, w0, hlQ]) | (with_reducible refine runR_call bt ?_) | (with_reducible refine runR_call n1 ?_) | fail)
              | (with_reducible refine auD ?_)
              | ((with_reducible refine auB ?_ ?_); all_goals first | (intro h; first | exact auH | simp only [h, runR_t, runR_f] | skip) | skip)
              | (first | ((with_reducible refine atN ?_); first | (refine runR_n ⟨by trivial, by trivial, by trivial, by trivial, hlQ.symm⟩ ?_) | (refine runR_n ⟨by trivial, by (try rw [hlQ]); unfold room maxLen; simp only [List.length_cons, List.length_nil]; omega⟩ ?_) | (refine runR_n (by simp only [mkS_size, List.length_singleton]; omega) ?_)) | fail))
            (all_goals first | exact auP | skip)
            refine nx_loop ⟨⟨1, 0, Q, nT, gi⟩, ⟨(show 1 ≤ 2 by decide), Nat.le_succ _, fun h => absurd (show (1 : Nat) = 0 from h) (by decide), fun _ => ⟨rfl, hq, by rw [if_neg hx0]; rfl⟩, fun h => absurd (show (1 : Nat) = 2 from h) (by decide)⟩, (show 2 - 1 < 2 - 0 by decide), ?_⟩
            refine le_mk ?_ ?_ (Nat.le_refl _)
            all_goals first | with_reducible refine auE ?_ | exact auE0
            all_goals (repeat' (first | exact trivial | exact rfl | apply And.intro))
      · obtain ⟨rfl, hqb, hQe⟩ := h1' rfl
        clear h0' h1' h2'
        with_reducible refine auL ?_
        rcases (Bool.eq_false_or_eq_true (inB xa L)).symm with hq | hq
        · skip
          have bt := bt0
          rw [show decide (0 ≤ xa ∧ xa ≤ (L.length : Int) - 1) = false from hq] at bt
          rw [if_neg (fun h => by rw [h.2] at hq; cases hq)] at hR
          subst hR
          show Go _ _ _ (RetQM _ _ 0 0 (fun m d H => d = .tup [.v (.slice none 0 0), .v (.bool false)] ∧ H = [])) _ _ _
          repeat' (first
            | (with_reducible refine auS ?_)
            | (first | (simp only [hlen, mkS_size, mkS_app, Int.toNat_natCast, ewL, w1, w0, hlQ]) | (with_reducible refine runR_call bt ?_) | (with_reducible refine runR_call n0 ?_) | fail)
            | (with_reducible refine auD ?_)
            | ((with_reducible refine auB ?_ ?_); all_goals first | (intro h; first | exact auH | simp only [h, runR_t, runR_f] | skip) | skip)
            | (first | ((with_reducible refine atN ?_); first | (refine runR_n ⟨by trivial, by trivial, by trivial, by trivial, hlQ.symm⟩ ?_) | (refine runR_n ⟨by trivial, by (try rw [hlQ]); unfold room maxLen; simp only [List.length_cons, List.length_nil]; omega⟩ ?_) | (refine runR_n (by simp only [mkS_size, List.length_singleton]; omega) ?_)) | fail))
          (all_goals first | exact auP | skip)
          all_goals refine ret_m [] [] trivial (by decide) rfl (fun a ha => by simp at ha) (fun m => ⟨⟨rfl, trivial⟩, ⟨rfl, trivial⟩, rfl⟩) (fun m => rfl)
        · have bt := bt0
          rw [show decide (0 ≤ xa ∧ xa ≤ (L.length : Int) - 1) = true from hq] at bt
          by_cases hx0 : 0 < xa
          · have hp := hpsh xa 48 Q hx0
            repeat' (first
              | (with_reducible refine auS ?_)
              | (first | (simp only [hlen, mkS_size, mkS_app, Int.toNat_natCast, ewL, w1, w0, hlQ, hp]) | (with_reducible refine runR_call bt ?_) | (with_reducible refine runR_call n0 ?_) | fail)
              | (with_reducible refine auD ?_)
              | ((with_reducible refine auB ?_ ?_); all_goals first | (intro h; first | exact auH | simp only [h, runR_t, runR_f] | skip) | skip)
              | (first | ((with_reducible refine atN ?_); first | (refine runR_n ⟨by trivial, by trivial, by trivial, by trivial, hlQ.symm⟩ ?_) | (refine runR_n ⟨by trivial, by (try rw [hlQ]); unfold room maxLen; simp only [List.length_cons, List.length_nil]; omega⟩ ?_) | (refine runR_n (by simp only [mkS_size, List.length_singleton]; omega) ?_)) | fail))
            (all_goals first | exact auP | skip)
            refine nx_loop ⟨⟨2, -1, (xa.toNat, b ++ [48]) :: Q, gi + 1, gi + 2⟩, ⟨(show 2 ≤ 2 by decide), (by simp; omega), fun h => absurd (show (2 : Nat) = 0 from h) (by decide), fun h => absurd (show (2 : Nat) = 1 from h) (by decide), fun _ => ⟨rfl, hqb, hq, by rw [hQe]; unfold todoN; dsimp only; rw [if_pos hx0]; rfl⟩⟩, (show 2 - 2 < 2 - 1 by decide), ?_⟩
            refine le_mk ?_ ?_ (Nat.le_refl _)
            all_goals first | with_reducible refine auE ?_ | exact auE0
            all_goals (repeat' (first | exact trivial | exact rfl | apply And.intro))
          · skip
            repeat' (first
              | (with_reducible refine auS ?_)
              | (first | (simp only [hlen, mkS_size, mkS_app, Int.toNat_natCast, ewL, w1, w0, hlQ]) | (with_reducible refine runR_call bt ?_) | (with_reducible refine runR_call n0 ?_) | fail)
              | (with_reducible refine auD ?_)
              | ((with_reducible refine auB ?_ ?_); all_goals first | (intro h; first | exact auH | simp only [h, runR_t, runR_f] | skip) | skip)
              | (first | ((with_reducible refine atN ?_); first | (refine runR_n ⟨by trivial, by trivial, by trivial, by trivial, hlQ.symm⟩ ?_) | (refine runR_n ⟨by trivial, by (try rw [hlQ]); unfold room maxLen; simp only [List.length_cons, List.length_nil]; omega⟩ ?_) | (refine runR_n (by simp only [mkS_size, List.length_singleton]; omega) ?_)) | fail))
            (all_goals first | exact auP | skip)
            refine nx_loop ⟨⟨2, -1, Q, nT, gi⟩, ⟨(show 2 ≤ 2 by decide), (by show Q.length ≤ r.length + 2; omega), fun h => absurd (show (2 : Nat) = 0 from h) (by decide), fun h => absurd (show (2 : Nat) = 1 from h) (by decide), fun _ => ⟨rfl, hqb, hq, by rw [hQe]; unfold todoN; dsimp only; rw [if_neg hx0]; rfl⟩⟩, (show 2 - 2 < 2 - 1 by decide), ?_⟩
            refine le_mk ?_ ?_ (Nat.le_refl _)
            all_goals first | with_reducible refine auE ?_ | exact auE0
            all_goals (repeat' (first | exact trivial | exact rfl | apply And.intro))
      · obtain ⟨rfl, hqb, hqa, rfl⟩ := h2' rfl
        rw [if_pos ⟨hqb, hqa⟩] at hR
        have htl := htd true
        have hml := hmem true hqb hqa
        have bt := bt0
        with_reducible refine auL ?_
        repeat' (first
          | (with_reducible refine auS ?_)
          | (first | (simp only [hlen, mkS_size, mkS_app, Int.toNat_natCast, ewL, w1, w0, hlQ]) | (with_reducible refine runR_call bt ?_) | (with_reducible refine runR_call n0 ?_) | fail)
          | (with_reducible refine auD ?_)
          | ((with_reducible refine auB ?_ ?_); all_goals first | (intro h; first | exact auH | simp only [h, runR_t, runR_f] | skip) | skip)
          | (first | ((with_reducible refine atN ?_); first | (refine runR_n ⟨by trivial, by trivial, by trivial, by trivial, hlQ.symm⟩ ?_) | (refine runR_n ⟨by trivial, by (try rw [hlQ]); unfold room maxLen; simp only [List.length_cons, List.length_nil]; omega⟩ ?_) | (refine runR_n (by simp only [mkS_size, List.length_singleton]; omega) ?_)) | fail))
        (all_goals first | exact auP | skip)
        refine nx_loop ⟨⟨n + 1, todoN ⟨xa, xb, true, xv⟩ b r, out ++ [(b, xv)], g + 2 + 1, nT, gi⟩, ⟨(show n + 1 ≤ L.length + 1 by omega), (by simp; omega), (by show (todoN ⟨xa, xb, true, xv⟩ b r).length ≤ n + 1 + 1; omega), hml, (by rw [show L.length + 1 - (n + 1) = f by omega]; exact hR)⟩, (show L.length + 2 - (n + 1) < L.length + 2 - n by omega), ?_⟩
        refine le_mk ?_ ?_ (Nat.le_refl _)
        all_goals first | with_reducible refine auE ?_ | exact auE0
        all_goals (repeat' (first | exact trivial | exact rfl | apply And.intro))
        all_goals first
          | exact dint ewn
          | (simp; done)
          | skip
end Go.Proofs.Ytlfbjdafnappdaa
