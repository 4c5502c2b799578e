/-
  Tries in the program: how nodes grow into a tree of the call's own.
-/
import Derived.Test.YtlfbjdafnappdaaPutX
namespace Go.Proofs.Ytlfbjdafnappdaa
set_option linter.unusedVariables false
set_option linter.unusedSimpArgs false
/-! Objects given whole; places behind all. -/
def leHS (x y : HL) : Prop := ∀ (k : Nat) (o : AObj), lget y k = some o → lget x k = some o
theorem hs_refl (x : HL) : leHS x x := fun _ _ h => h
theorem hs_cons {a b : Option AObj} {x y : HL} (h : b = a ∨ b = none) (h2 : leHS x y) : leHS (a :: x) (b :: y)
  | 0, o, hk => by
    rcases h with rfl | rfl
    · exact hk
    · cases hk
  | k + 1, o, hk => h2 k o hk
theorem le_mk2 {st st' : St} (h1 : leE st.tm st'.tm) (h2 : leHS st.H st'.H) (h3 : st.gen ≤ st'.gen) : Le st st' := fun Γ N K a w h =>
  ⟨K, inv_less h.inv h2, fun n hn => Nat.lt_of_lt_of_le (h.fresh n hn) h3, Nat.le_trans h.g0 h3, h.size, h.defers, fun s => leD_rel (leE_get h1 s) (h.tm s)⟩
theorem go_loopT {Γ : Gm} {P : Program} {N : Nat} {R : St → Prop} {k : List KI} {st : St} {α : Type} {x : XC} (sl : α → List (Sl × DV)) (hh : α → HL) (gn : α → Nat) (m : α → Nat) (pre : α → Prop) (a0 : α) (h0 : pre a0)
    (hle : Le st ⟨setsE (havE st.tm (writesX x)) (sl a0), hh a0, gn a0⟩)
    (round : ∀ a, pre a → Go Γ P N R x (.loop (fun s => ∃ a', pre a' ∧ m a' < m a ∧ Le s ⟨setsE (havE st.tm (writesX x)) (sl a'), hh a', gn a'⟩) :: k) ⟨setsE (havE st.tm (writesX x)) (sl a), hh a, gn a⟩) : Go Γ P N R (.loop x) k st :=
  go_loop (fun a => ⟨setsE (havE st.tm (writesX x)) (sl a), hh a, gn a⟩) m pre a0 h0 hle round
theorem lset_end (o : Option AObj) : ∀ A : HL, lset A A.length o = A ++ [o]
  | [] => rfl
  | a :: r => by
    show a :: lset r r.length o = _
    rw [lset_end o r]
    rfl
theorem upd_end : ∀ (T H : HL), updL H (zipO (List.range' H.length T.length) T) = H ++ T
  | [], H => by simp [zipO, updL]
  | o :: T, H => by
    rw [List.length_cons, List.range'_succ]
    show updL (lset H H.length o) (zipO (List.range' (H.length + 1) T.length) T) = _
    rw [lset_end]
    have h := upd_end T (H ++ [o])
    rw [List.length_append, List.length_singleton] at h
    rw [h, List.append_assoc]
    rfl
/-- A call that is lent the first object and makes many. -/
theorem runR_new {P : Program} {F : List XOp → St → List Rec → Prop} {r : List XOp} {tm : Env} {g : Nat} {dst : Option Sl} {tr : List Rec} {f : FuncId} {ds : List DV} {N : Nat} {D : Nat → DV} {o o' : Option AObj} {T : Nat → HL} {H' : HL}
    (h1 : MSpec P f ds [o] N (fun n d H => d = D n ∧ H = o' :: T n)) (hl : (T g).length = N) (h2 : F r ⟨putE tm dst (D g), o' :: (H' ++ T g), g + N⟩ (⟨0 :: List.range' (H'.length + 1) N, 0 :: List.range' (H'.length + 1) N⟩ :: tr)) : runR P F r ⟨tm, o :: H', g⟩ dst tr (.call f ds) := by
  refine runR_callG [0] (List.range' (H'.length + 1) N) (0 :: List.range' (H'.length + 1) N) rfl ?_ (by simp [hl]) rfl h1 ?_
  · refine List.nodup_cons.2 ⟨fun h => ?_, List.nodup_range'⟩
    have := (List.mem_range'_1.1 h).1
    omega
  · have e : updL (o :: H') (zipO (0 :: List.range' (H'.length + 1) N) (o' :: T g)) = o' :: (H' ++ T g) := by
      have h := upd_end (T g) (o' :: H')
      rw [hl] at h
      exact h
    show F r ⟨putE tm dst (D g), updL (o :: H') (zipO (0 :: List.range' (H'.length + 1) N) (o' :: T g)), g + N⟩ _
    rw [e]
    exact h2
/-- The same check, what is waited for looked at first. -/
def sitesOk2 (ps : List Nat) (rs : List Rec) (n : Nat) : Bool := decide (rs.length = n) && (List.range n).all fun j => match rs[j]? with
  | some b => b.bare || (List.range j).all fun i => match rs[i]? with
    | some a => (psOf ps j).testBit i || !(siteConf a b)
    | none => false
  | none => false
theorem sites2 (ps : List Nat) (rs : List Rec) (n : Nat) : sitesOk ps rs n = sitesOk2 ps rs n := by
  unfold sitesOk sitesOk2
  congr 2
  funext j
  cases rs[j]? with
  | none => rfl
  | some b =>
    dsimp only
    congr 2
    funext i
    cases rs[i]? with
    | none => rfl
    | some a => exact Bool.or_comm _ _
theorem endD_intro2 {Γ : Gm} {P : Program} {N : Nat} {R : St → Prop} {k : List KI} {ds : List Nat} {xs : List XOp} {tr : List Rec} {st : St} (h1 : sitesOk2 ds tr.reverse xs.length = true) (h2 : Nx Γ P N R k st) : endD Γ P N R k ds xs st tr := endD_intro (by rw [sites2]; exact h1) h2
theorem kid_none {L : List Nd} {g : Nat → Option Tr × Nat} {n : Int} {i : Nat} (h0 : ¬ n = 0) (h : ¬ (n = ((i + 1 : Nat) : Int) ∧ i + 1 < L.length)) : kid L g n i = (none, i + 1) := by unfold kid; rw [if_neg h0, if_neg h]
theorem kid_some {L : List Nd} {g : Nat → Option Tr × Nat} {n : Int} {i : Nat} (h0 : ¬ n = 0) (h : n = ((i + 1 : Nat) : Int) ∧ i + 1 < L.length) : kid L g n i = g (i + 1) := by unfold kid; rw [if_neg h0, if_pos h]
theorem growG_succ (L : List Nd) (f i : Nat) (x : Nd) (hx : L[i]? = some x) : growG L (f + 1) i = match kid L (growG L f) x.a i with
    | (none, j) => (none, j)
    | (some l, j) =>
      match kid L (growG L f) x.b j with
      | (none, k) => (none, k)
      | (some r, k) => (some (.node l r x.s x.v), k) := by
  rw [← getD_of hx]
  rfl
def oSz : Option Tr → Nat
  | none => 0
  | some T => T.size
def oD : Option Tr → Nat → DV
  | none, _ => .v (.pointer none)
  | some T, m => spD T m
def oH : Option Tr → Nat → HL
  | none, _ => []
  | some T, m => spH T m
abbrev ctr (n i : Nat) : Option AObj := some ⟨n, 1, [[.v (.int .i64 (i : Nat))]]⟩
abbrev GrowO (L : List Nd) (c : Bool) (g n i : Nat) : Prop := MSpec Try.prog 38 [.snap 4 (L.map Nd.enc) c, .ptr 0 n 1 0 0, .v (.int .i64 ((33 - g : Nat) : Int))] [ctr n i] (oSz (growG L g i).1) (fun m d H => d = oD (growG L g i).1 m ∧ H = ctr n (growG L g i).2 :: oH (growG L g i).1 m)
structure GoS where
  (k : Nat) (K : Int) (c0 c1 : DV) (S : HL) (j g : Nat)
theorem sp_get : ∀ (T : Tr) (m k : Nat), k < T.size → ∃ o, lget (spH T m) k = some o ∧ o.n = m + k
  | .nil, m, k, h => absurd h (Nat.not_lt_zero _)
  | .node l r s v, m, 0, h => ⟨_, rfl, rfl⟩
  | .node l r s v, m, k + 1, h => by
    simp only [Tr.size] at h
    have hl := spH_len l (m + 1)
    have e : ∀ (A B : HL) (k : Nat), lget (A ++ B) k = if k < A.length then lget A k else lget B (k - A.length) := fun A B k => by
      induction A generalizing k with
      | nil => simp
      | cons a A ih =>
        cases k with
        | zero => simp [lget]
        | succ k => simp only [List.cons_append, lget, ih, List.length_cons]; simp
    show ∃ o, lget (spH l (m + 1) ++ spH r (m + 1 + l.size)) k = some o ∧ o.n = m + (k + 1)
    rw [e, hl]
    by_cases hk : k < l.size
    · rw [if_pos hk]
      obtain ⟨o, h1, h2⟩ := sp_get l (m + 1) k hk
      exact ⟨o, h1, by omega⟩
    · rw [if_neg hk]
      obtain ⟨o, h1, h2⟩ := sp_get r (m + 1 + l.size) (k - l.size) (by omega)
      exact ⟨o, h1, by omega⟩
theorem lgets_from : ∀ (S A : HL), lgets (A ++ S) (List.range' A.length S.length) = S
  | [], A => rfl
  | s :: S, A => by
    rw [List.length_cons, List.range'_succ]
    have e : lget (A ++ s :: S) A.length = s := by
      induction A with
      | nil => rfl
      | cons a A ih => exact ih
    have h := lgets_from S (A ++ [s])
    rw [List.append_assoc, List.length_append] at h
    show lget (A ++ s :: S) A.length :: lgets _ _ = _
    rw [e]
    exact congrArg (s :: ·) h
set_option maxHeartbeats 4000000 in
theorem growO (L : List Nd) (c : Bool) (hl : L.length ≤ 500) (f n i : Nat) (hf : f ≤ 32) (hi : i < L.length) (ih : ∀ i, f ≠ 0 → i < L.length → GrowO L c f n i) : GrowO L c (f + 1) n i := by
  obtain ⟨x, hx⟩ : ∃ x, L[i]? = some x := ⟨_, List.getElem?_eq_getElem hi⟩
  have ex := xget_map Nd.enc L i x hx
  have hgs := growG_succ L f i x hx
  have hdp : IntKind.i64.wrap (((33 - (f + 1) : Nat) : Int) + 1) = ((33 - f : Nat) : Int) := (IntWalk.i64_in _ (by omega)).trans (by omega)
  have hd32 : ((33 - (f + 1) : Nat) : Int) = 32 ↔ f = 0 := by omega
  unfold GrowO
  generalize hG : growG L (f + 1) i = G at *
  refine mspec_fn Try.func38 rfl ok_prefix_grow okr_prefix_grow rfl (by kernel_rfl) ?_
  intro Γ hW0 hN0 hL0
  clear hW0
  unfold x_prefix_grow r_prefix_grow
  with_reducible refine auC ?_
  have hn : n < Γ.g0 := hN0 0 _ rfl
  repeat' (first
    | (with_reducible refine auS ?_)
    | (first | (simp only [Int.toNat_natCast, ex]))
    | (with_reducible refine auD ?_)
    | ((with_reducible refine auB ?_ ?_); all_goals first | (intro h; first | exact auH | simp only [h, runR_t, runR_f] | skip) | skip)
    | fail)
  refine go_loopT (α := GoS) (fun y => [(⟨.d0, .d3, .d1⟩, .v (.int .i64 y.K))]) (fun y => ctr n y.j :: none :: some ⟨Γ.g0 + 1, 4, [[y.c0, y.c1, .v (.bool x.s), .v (.int .i64 x.v)]]⟩ :: y.S) (fun y => y.g) (fun y => 2 - y.k)
    (fun y => y.k ≤ 2 ∧ y.j < L.length ∧ (y.k = 0 → y.K = 0 ∧ y.c0 = .v (.pointer none) ∧ y.c1 = .v (.pointer none) ∧ y.S = [] ∧ y.j = i ∧ y.g = Γ.g0 + 2) ∧
      (y.k = 1 → ∃ l, kid L (growG L f) x.a i = (some l, y.j) ∧ y.K = 1 ∧ y.c0 = spD l (Γ.g0 + 2) ∧ y.c1 = .v (.pointer none) ∧ y.S = spH l (Γ.g0 + 2) ∧ y.g = Γ.g0 + 2 + l.size) ∧
      (y.k = 2 → ∃ l r, G = (some (.node l r x.s x.v), y.j) ∧ y.K = 2 ∧ y.c0 = spD l (Γ.g0 + 2) ∧ y.c1 = spD r (Γ.g0 + 2 + l.size) ∧ y.S = spH l (Γ.g0 + 2) ++ spH r (Γ.g0 + 2 + l.size)))
    ⟨0, 0, .v (.pointer none), .v (.pointer none), [], i, Γ.g0 + 2⟩ ⟨Nat.zero_le _, hi, fun _ => ⟨rfl, rfl, rfl, rfl, rfl, rfl⟩, fun h => absurd (show (0 : Nat) = 1 from h) (by decide), fun h => absurd (show (0 : Nat) = 2 from h) (by decide)⟩ ?_ ?_
  · refine le_mk2 ?_ (hs_cons (.inl rfl) (hs_cons (.inr rfl) (hs_cons (.inl rfl) (hs_refl _)))) (Nat.le_refl _)
    all_goals first | with_reducible refine auE ?_ | exact auE0
    all_goals (repeat' (first | exact trivial | exact rfl | apply And.intro))
  rintro ⟨k, K, c0, c1, S, j, g⟩ ⟨hk, hj, h0, h1, h2⟩
  dsimp only at hk hj h0 h1 h2 ⊢
  have hw : IntKind.i64.wrap ((j : Int) + 1) = ((j + 1 : Nat) : Int) := (IntWalk.i64_in _ (by omega)).trans (by omega)
  obtain rfl | rfl | rfl : k = 0 ∨ k = 1 ∨ k = 2 := by omega
  · obtain ⟨rfl, rfl, rfl, rfl, rfl, rfl⟩ := h0 rfl
    clear h0 h1 h2
    with_reducible refine auL ?_
    by_cases hv : x.a = 0
    · have hk0 : kid L (growG L f) x.a j = (some .nil, j) := by unfold kid; rw [if_pos hv]
      skip
      have hcall := hw
      repeat' (first
        | ((with_reducible refine endD_intro2 ?_ ?_); (exact by kernel_rfl))
        | (with_reducible refine auS ?_)
        | (first | (simp only [Int.toNat_natCast, Nat.zero_mul, Nat.one_mul, hw, hdp, List.length_map, List.cons_append, List.nil_append]) | ((with_reducible refine atCall 38 ?_); (refine runR_new hcall rfl ?_)))
        | (with_reducible refine auD ?_)
        | ((with_reducible refine auB ?_ ?_); all_goals first | (intro h; first | exact auH | simp only [h, runR_t, runR_f] | skip) | skip)
        | fail)
      (all_goals first | exact auP | skip)
      all_goals first
        | (exfalso; simp [hv] at h; done)
        | (exfalso; simp [hv, hd32] at h; done)
        | (exfalso; have h1 := hc.1; have h2 := hc.2; simp at h; omega)
        | skip
      refine nx_loop ⟨⟨1, 1, .v (.pointer none), .v (.pointer none), [], j, Γ.g0 + 2⟩, ⟨(show (1 : Nat) ≤ 2 by decide), hj, fun h => absurd (show (1 : Nat) = 0 from h) (by decide), fun _ => ⟨.nil, hk0, rfl, rfl, rfl, rfl, rfl⟩, fun h => absurd (show (1 : Nat) = 2 from h) (by decide)⟩, (show (2 - 1 : Nat) < 2 - 0 by decide), ?_⟩
      refine le_mk2 ?_ ?_ (Nat.le_refl _)
      · first | with_reducible refine auE ?_ | exact auE0
        all_goals (repeat' (first | exact trivial | exact rfl | apply And.intro))
      · exact hs_cons (.inl rfl) (hs_cons (.inl rfl) (hs_cons (.inl rfl) (hs_refl _)))
    by_cases hc : x.a = ((j + 1 : Nat) : Int) ∧ j + 1 < L.length
    · by_cases hf0 : f = 0
      · subst hf0
        have hk0 : kid L (growG L 0) x.a j = (none, j + 1) := kid_some hv hc
        rw [hk0] at hgs
        have hG' : G = (none, j + 1) := hgs
        subst hG'
        have hcall := hw
        repeat' (first
          | ((with_reducible refine endD_intro2 ?_ ?_); (exact by kernel_rfl))
          | (with_reducible refine auS ?_)
          | (first | (simp only [Int.toNat_natCast, Nat.zero_mul, Nat.one_mul, hw, hdp, List.length_map, List.cons_append, List.nil_append]) | ((with_reducible refine atCall 38 ?_); (refine runR_new hcall rfl ?_)))
          | (with_reducible refine auD ?_)
          | ((with_reducible refine auB ?_ ?_); all_goals first | (intro h; first | exact auH | simp only [h, runR_t, runR_f] | skip) | skip)
          | fail)
        (all_goals first | exact auP | skip)
        all_goals first
          | (exfalso; simp [hv] at h; done)
          | (exfalso; simp [hv, hd32] at h; done)
          | (exfalso; have h1 := hc.1; have h2 := hc.2; simp at h; omega)
          | skip
        all_goals refine ret_m [0] [] trivial (by decide) rfl (fun a ha => by simp at ha) (fun m => ⟨rfl, trivial⟩) (fun m => ?_)
        all_goals exact ⟨⟨.inr ⟨hn, rfl⟩, rfl, ⟨⟨⟨rfl, trivial⟩, rfl⟩, rfl⟩⟩, rfl⟩
      cases hg : growG L f (j + 1) with
      | mk o j' =>
        have hks := kid_some (g := growG L f) hv hc
        rw [hg] at hks
        have hcall0 := ih (j + 1) hf0 hc.2
        unfold GrowO at hcall0
        rw [hg] at hcall0
        cases o with
        | none =>
          rw [hks] at hgs
          have hG' : G = (none, j') := hgs
          subst hG'
          have hcall : MSpec Try.prog 38 [.snap 4 (L.map Nd.enc) c, .ptr 0 n 1 0 0, .v (.int .i64 ((33 - f : Nat) : Int))] [ctr n (j + 1)] 0 (fun m d H => d = .v (.pointer none) ∧ H = ctr n j' :: []) := hcall0
          repeat' (first
            | ((with_reducible refine endD_intro2 ?_ ?_); (exact by kernel_rfl))
            | (with_reducible refine auS ?_)
            | (first | (simp only [Int.toNat_natCast, Nat.zero_mul, Nat.one_mul, hw, hdp, List.length_map, List.cons_append, List.nil_append]) | ((with_reducible refine atCall 38 ?_); (refine runR_new hcall rfl ?_)))
            | (with_reducible refine auD ?_)
            | ((with_reducible refine auB ?_ ?_); all_goals first | (intro h; first | exact auH | simp only [h, runR_t, runR_f] | skip) | skip)
            | fail)
          (all_goals first | exact auP | skip)
          all_goals first
            | (exfalso; simp [hv] at h; done)
            | (exfalso; simp [hv, hd32] at h; done)
            | (exfalso; have h1 := hc.1; have h2 := hc.2; simp at h; omega)
            | skip
          all_goals refine ret_m [0] [] trivial (by decide) rfl (fun a ha => by simp at ha) (fun m => ⟨rfl, trivial⟩) (fun m => ?_)
          all_goals exact ⟨⟨.inr ⟨hn, rfl⟩, rfl, ⟨⟨⟨rfl, trivial⟩, rfl⟩, rfl⟩⟩, rfl⟩
        | some T =>
          obtain ⟨g1, -, -, g4, -⟩ := grow_inv L f (j + 1) j' T hg hc.2
          cases T with
          | nil => exact absurd g1 (Nat.lt_irrefl _)
          | node tl tr ts tv =>
            have hcall : MSpec Try.prog 38 [.snap 4 (L.map Nd.enc) c, .ptr 0 n 1 0 0, .v (.int .i64 ((33 - f : Nat) : Int))] [ctr n (j + 1)] (Tr.node tl tr ts tv).size (fun m d H => d = .ptr 0 m 4 0 0 ∧ H = ctr n j' :: spH (.node tl tr ts tv) m) := hcall0
            skip
            repeat' (first
              | ((with_reducible refine endD_intro2 ?_ ?_); (exact by kernel_rfl))
              | (with_reducible refine auS ?_)
              | (first | (simp only [Int.toNat_natCast, Nat.zero_mul, Nat.one_mul, hw, hdp, List.length_map, List.cons_append, List.nil_append]) | ((with_reducible refine atCall 38 ?_); (refine runR_new hcall (spH_len _ _) ?_)))
              | (with_reducible refine auD ?_)
              | ((with_reducible refine auB ?_ ?_); all_goals first | (intro h; first | exact auH | simp only [h, runR_t, runR_f] | skip) | skip)
              | fail)
            (all_goals first | exact auP | skip)
            all_goals first
              | (exfalso; simp [hv] at h; done)
              | (exfalso; simp [hv, hd32] at h; done)
              | (exfalso; have h1 := hc.1; have h2 := hc.2; simp at h; omega)
              | skip
            refine nx_loop ⟨⟨1, 1, .ptr 0 (Γ.g0 + 2) 4 0 0, .v (.pointer none), spH (.node tl tr ts tv) (Γ.g0 + 2), j', Γ.g0 + 2 + (Tr.node tl tr ts tv).size⟩, ⟨(show (1 : Nat) ≤ 2 by decide), g4, fun h => absurd (show (1 : Nat) = 0 from h) (by decide), fun _ => ⟨.node tl tr ts tv, hks, rfl, rfl, rfl, rfl, rfl⟩, fun h => absurd (show (1 : Nat) = 2 from h) (by decide)⟩, (show (2 - 1 : Nat) < 2 - 0 by decide), ?_⟩
            refine le_mk2 ?_ ?_ (Nat.le_refl _)
            · first | with_reducible refine auE ?_ | exact auE0
              all_goals (repeat' (first | exact trivial | exact rfl | apply And.intro))
            · exact hs_cons (.inl rfl) (hs_cons (.inl rfl) (hs_cons (.inl rfl) (hs_refl _)))
    · have hk0 := kid_none (g := growG L f) hv hc
      rw [hk0] at hgs
      have hG' : G = (none, j + 1) := hgs
      subst hG'
      have hcall := hw
      repeat' (first
        | ((with_reducible refine endD_intro2 ?_ ?_); (exact by kernel_rfl))
        | (with_reducible refine auS ?_)
        | (first | (simp only [Int.toNat_natCast, Nat.zero_mul, Nat.one_mul, hw, hdp, List.length_map, List.cons_append, List.nil_append]) | ((with_reducible refine atCall 38 ?_); (refine runR_new hcall rfl ?_)))
        | (with_reducible refine auD ?_)
        | ((with_reducible refine auB ?_ ?_); all_goals first | (intro h; first | exact auH | simp only [h, runR_t, runR_f] | skip) | skip)
        | fail)
      (all_goals first | exact auP | skip)
      all_goals first
        | (exfalso; simp [hv] at h; done)
        | (exfalso; simp [hv, hd32] at h; done)
        | (exfalso; have h1 := hc.1; have h2 := hc.2; simp at h; omega)
        | skip
      all_goals refine ret_m [0] [] trivial (by decide) rfl (fun a ha => by simp at ha) (fun m => ⟨rfl, trivial⟩) (fun m => ?_)
      all_goals exact ⟨⟨.inr ⟨hn, rfl⟩, rfl, ⟨⟨⟨rfl, trivial⟩, rfl⟩, rfl⟩⟩, rfl⟩
  · obtain ⟨l, hkl, rfl, rfl, rfl, rfl, rfl⟩ := h1 rfl
    clear h0 h1 h2
    rw [hkl] at hgs
    dsimp only at hgs
    with_reducible refine auL ?_
    by_cases hv : x.b = 0
    · have hk0 : kid L (growG L f) x.b j = (some .nil, j) := by unfold kid; rw [if_pos hv]
      rw [hk0] at hgs
      have hcall := hw
      repeat' (first
        | ((with_reducible refine endD_intro2 ?_ ?_); (exact by kernel_rfl))
        | (with_reducible refine auS ?_)
        | (first | (simp only [Int.toNat_natCast, Nat.zero_mul, Nat.one_mul, hw, hdp, List.length_map, List.cons_append, List.nil_append]) | ((with_reducible refine atCall 38 ?_); (refine runR_new hcall rfl ?_)))
        | (with_reducible refine auD ?_)
        | ((with_reducible refine auB ?_ ?_); all_goals first | (intro h; first | exact auH | simp only [h, runR_t, runR_f] | skip) | skip)
        | fail)
      (all_goals first | exact auP | skip)
      all_goals first
        | (exfalso; simp [hv] at h; done)
        | (exfalso; simp [hv, hd32] at h; done)
        | (exfalso; have h1 := hc.1; have h2 := hc.2; simp at h; omega)
        | skip
      refine nx_loop ⟨⟨2, 2, spD l (Γ.g0 + 2), .v (.pointer none), spH l (Γ.g0 + 2), j, Γ.g0 + 2 + l.size⟩, ⟨(show (2 : Nat) ≤ 2 by decide), hj, fun h => absurd (show (2 : Nat) = 0 from h) (by decide), fun h => absurd (show (2 : Nat) = 1 from h) (by decide), fun _ => ⟨l, .nil, hgs, rfl, rfl, rfl, (List.append_nil _).symm⟩⟩, (show (2 - 2 : Nat) < 2 - 1 by decide), ?_⟩
      refine le_mk2 ?_ ?_ (Nat.le_refl _)
      · first | with_reducible refine auE ?_ | exact auE0
        all_goals (repeat' (first | exact trivial | exact rfl | apply And.intro))
      · exact hs_cons (.inl rfl) (hs_cons (.inl rfl) (hs_cons (.inl rfl) (hs_refl _)))
    by_cases hc : x.b = ((j + 1 : Nat) : Int) ∧ j + 1 < L.length
    · by_cases hf0 : f = 0
      · subst hf0
        have hk0 : kid L (growG L 0) x.b j = (none, j + 1) := kid_some hv hc
        rw [hk0] at hgs
        have hG' : G = (none, j + 1) := hgs
        subst hG'
        have hcall := hw
        repeat' (first
          | ((with_reducible refine endD_intro2 ?_ ?_); (exact by kernel_rfl))
          | (with_reducible refine auS ?_)
          | (first | (simp only [Int.toNat_natCast, Nat.zero_mul, Nat.one_mul, hw, hdp, List.length_map, List.cons_append, List.nil_append]) | ((with_reducible refine atCall 38 ?_); (refine runR_new hcall rfl ?_)))
          | (with_reducible refine auD ?_)
          | ((with_reducible refine auB ?_ ?_); all_goals first | (intro h; first | exact auH | simp only [h, runR_t, runR_f] | skip) | skip)
          | fail)
        (all_goals first | exact auP | skip)
        all_goals first
          | (exfalso; simp [hv] at h; done)
          | (exfalso; simp [hv, hd32] at h; done)
          | (exfalso; have h1 := hc.1; have h2 := hc.2; simp at h; omega)
          | skip
        all_goals refine ret_m [0] [] trivial (by decide) rfl (fun a ha => by simp at ha) (fun m => ⟨rfl, trivial⟩) (fun m => ?_)
        all_goals exact ⟨⟨.inr ⟨hn, rfl⟩, rfl, ⟨⟨⟨rfl, trivial⟩, rfl⟩, rfl⟩⟩, rfl⟩
      cases hg : growG L f (j + 1) with
      | mk o j' =>
        have hks := kid_some (g := growG L f) hv hc
        rw [hg] at hks
        have hcall0 := ih (j + 1) hf0 hc.2
        unfold GrowO at hcall0
        rw [hg] at hcall0
        cases o with
        | none =>
          rw [hks] at hgs
          have hG' : G = (none, j') := hgs
          subst hG'
          have hcall : MSpec Try.prog 38 [.snap 4 (L.map Nd.enc) c, .ptr 0 n 1 0 0, .v (.int .i64 ((33 - f : Nat) : Int))] [ctr n (j + 1)] 0 (fun m d H => d = .v (.pointer none) ∧ H = ctr n j' :: []) := hcall0
          repeat' (first
            | ((with_reducible refine endD_intro2 ?_ ?_); (exact by kernel_rfl))
            | (with_reducible refine auS ?_)
            | (first | (simp only [Int.toNat_natCast, Nat.zero_mul, Nat.one_mul, hw, hdp, List.length_map, List.cons_append, List.nil_append]) | ((with_reducible refine atCall 38 ?_); (refine runR_new hcall rfl ?_)))
            | (with_reducible refine auD ?_)
            | ((with_reducible refine auB ?_ ?_); all_goals first | (intro h; first | exact auH | simp only [h, runR_t, runR_f] | skip) | skip)
            | fail)
          (all_goals first | exact auP | skip)
          all_goals first
            | (exfalso; simp [hv] at h; done)
            | (exfalso; simp [hv, hd32] at h; done)
            | (exfalso; have h1 := hc.1; have h2 := hc.2; simp at h; omega)
            | skip
          all_goals refine ret_m [0] [] trivial (by decide) rfl (fun a ha => by simp at ha) (fun m => ⟨rfl, trivial⟩) (fun m => ?_)
          all_goals exact ⟨⟨.inr ⟨hn, rfl⟩, rfl, ⟨⟨⟨rfl, trivial⟩, rfl⟩, rfl⟩⟩, rfl⟩
        | some T =>
          obtain ⟨g1, -, -, g4, -⟩ := grow_inv L f (j + 1) j' T hg hc.2
          cases T with
          | nil => exact absurd g1 (Nat.lt_irrefl _)
          | node tl tr ts tv =>
            have hcall : MSpec Try.prog 38 [.snap 4 (L.map Nd.enc) c, .ptr 0 n 1 0 0, .v (.int .i64 ((33 - f : Nat) : Int))] [ctr n (j + 1)] (Tr.node tl tr ts tv).size (fun m d H => d = .ptr 0 m 4 0 0 ∧ H = ctr n j' :: spH (.node tl tr ts tv) m) := hcall0
            rw [hks] at hgs
            repeat' (first
              | ((with_reducible refine endD_intro2 ?_ ?_); (exact by kernel_rfl))
              | (with_reducible refine auS ?_)
              | (first | (simp only [Int.toNat_natCast, Nat.zero_mul, Nat.one_mul, hw, hdp, List.length_map, List.cons_append, List.nil_append]) | ((with_reducible refine atCall 38 ?_); (refine runR_new hcall (spH_len _ _) ?_)))
              | (with_reducible refine auD ?_)
              | ((with_reducible refine auB ?_ ?_); all_goals first | (intro h; first | exact auH | simp only [h, runR_t, runR_f] | skip) | skip)
              | fail)
            (all_goals first | exact auP | skip)
            all_goals first
              | (exfalso; simp [hv] at h; done)
              | (exfalso; simp [hv, hd32] at h; done)
              | (exfalso; have h1 := hc.1; have h2 := hc.2; simp at h; omega)
              | skip
            refine nx_loop ⟨⟨2, 2, spD l (Γ.g0 + 2), .ptr 0 (Γ.g0 + 2 + l.size) 4 0 0, spH l (Γ.g0 + 2) ++ spH (.node tl tr ts tv) (Γ.g0 + 2 + l.size), j', Γ.g0 + 2 + l.size + (Tr.node tl tr ts tv).size⟩, ⟨(show (2 : Nat) ≤ 2 by decide), g4, fun h => absurd (show (2 : Nat) = 0 from h) (by decide), fun h => absurd (show (2 : Nat) = 1 from h) (by decide), fun _ => ⟨l, .node tl tr ts tv, hgs, rfl, rfl, rfl, rfl⟩⟩, (show (2 - 2 : Nat) < 2 - 1 by decide), ?_⟩
            refine le_mk2 ?_ ?_ (Nat.le_refl _)
            · first | with_reducible refine auE ?_ | exact auE0
              all_goals (repeat' (first | exact trivial | exact rfl | apply And.intro))
            · exact hs_cons (.inl rfl) (hs_cons (.inl rfl) (hs_cons (.inl rfl) (hs_refl _)))
    · have hk0 := kid_none (g := growG L f) hv hc
      rw [hk0] at hgs
      have hG' : G = (none, j + 1) := hgs
      subst hG'
      have hcall := hw
      repeat' (first
        | ((with_reducible refine endD_intro2 ?_ ?_); (exact by kernel_rfl))
        | (with_reducible refine auS ?_)
        | (first | (simp only [Int.toNat_natCast, Nat.zero_mul, Nat.one_mul, hw, hdp, List.length_map, List.cons_append, List.nil_append]) | ((with_reducible refine atCall 38 ?_); (refine runR_new hcall rfl ?_)))
        | (with_reducible refine auD ?_)
        | ((with_reducible refine auB ?_ ?_); all_goals first | (intro h; first | exact auH | simp only [h, runR_t, runR_f] | skip) | skip)
        | fail)
      (all_goals first | exact auP | skip)
      all_goals first
        | (exfalso; simp [hv] at h; done)
        | (exfalso; simp [hv, hd32] at h; done)
        | (exfalso; have h1 := hc.1; have h2 := hc.2; simp at h; omega)
        | skip
      all_goals refine ret_m [0] [] trivial (by decide) rfl (fun a ha => by simp at ha) (fun m => ⟨rfl, trivial⟩) (fun m => ?_)
      all_goals exact ⟨⟨.inr ⟨hn, rfl⟩, rfl, ⟨⟨⟨rfl, trivial⟩, rfl⟩, rfl⟩⟩, rfl⟩
  · obtain ⟨l, r, rfl, rfl, rfl, rfl, rfl⟩ := h2 rfl
    clear h0 h1 h2
    with_reducible refine auL ?_
    repeat' (first
      | (with_reducible refine auS ?_)
      | (first | (simp only [Int.toNat_natCast]))
      | (with_reducible refine auD ?_)
      | ((with_reducible refine auB ?_ ?_); all_goals first | (intro h; first | exact auH | simp only [h, runR_t, runR_f] | skip) | skip)
      | fail)
    (all_goals first | exact auP | skip)
    have hsz : (spH (.node l r x.s x.v) (Γ.g0 + 1)).length = (Tr.node l r x.s x.v).size := spH_len _ _
    have hle := lgets_from (spH (.node l r x.s x.v) (Γ.g0 + 1)) [ctr n j, none]
    rw [hsz] at hle
    refine ret_m (0 :: List.range' 2 (Tr.node l r x.s x.v).size) (List.range' (Γ.g0 + 1) (Tr.node l r x.s x.v).size) trivial ?_ List.length_range' (fun a ha => ?_) (fun m => ?_) (fun m => ?_)
    · exact List.nodup_cons.2 ⟨fun h => by have := (List.mem_range'_1.1 h).1; omega, List.nodup_range'⟩
    · obtain ⟨q1, q2⟩ := List.mem_range'_1.1 ha
      obtain ⟨o, o1, o2⟩ := sp_get (.node l r x.s x.v) (Γ.g0 + 1) (a - (Γ.g0 + 1)) (by omega)
      exact ⟨a - (Γ.g0 + 1) + 2, o, o1, by omega⟩
    · exact ⟨0, m, .inl ⟨0, by simp only [Tr.size]; rw [Nat.add_comm 1, List.range'_succ]; rfl, rfl⟩, rfl⟩
    · refine ⟨⟨.inr ⟨hn, rfl⟩, rfl, ⟨⟨⟨rfl, trivial⟩, rfl⟩, rfl⟩⟩, ?_⟩
      have h := (ren_sp (.node l r x.s x.v) Γ.g0 (List.range' (Γ.g0 + 1) (Tr.node l r x.s x.v).size) m (Γ.g0 + 1) 0 (fun k hk => by rw [Nat.zero_add, List.getElem?_range' hk]; simp)).2
      rw [Nat.add_zero] at h
      have e : lgets (ctr n j :: none :: spH (.node l r x.s x.v) (Γ.g0 + 1)) (List.range' 2 (Tr.node l r x.s x.v).size) = spH (.node l r x.s x.v) (Γ.g0 + 1) := hle
      exact (congrArg (fun q => renH Γ.g0 (List.range' (Γ.g0 + 1) (Tr.node l r x.s x.v).size) m q (spH (.node l r x.s x.v) m)) e).mpr h
theorem growA (L : List Nd) (c : Bool) (hl : L.length ≤ 500) (n : Nat) : ∀ (f i : Nat), f ≤ 32 → i < L.length → GrowO L c (f + 1) n i
  | 0, i, hf, hi => growO L c hl 0 n i hf hi (fun i h => absurd rfl h)
  | f + 1, i, hf, hi => growO L c hl (f + 1) n i hf hi (fun i _ h => growA L c hl n f i (by omega) h)
end Go.Proofs.Ytlfbjdafnappdaa
