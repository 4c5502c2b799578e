/-
  Tries in plain words: trees, how they are laid out as nodes, how nodes grow into a tree, what rows they hold.
-/
namespace Go.Proofs.Ytlfbjdafnappdaa
set_option linter.unusedVariables false
set_option linter.unusedSimpArgs false
abbrev B8 := List UInt8
structure Nd where
  (a b : Int) (s : Bool) (v : Int)
deriving DecidableEq
abbrev nd0 : Nd := ⟨0, 0, false, 0⟩
inductive Tr where
  | nil
  | node (l r : Tr) (s : Bool) (v : Int)
def Tr.size : Tr → Nat
  | .nil => 0
  | .node l r _ _ => 1 + (l.size + r.size)
def Tr.deep : Tr → Nat
  | .nil => 0
  | .node l r _ _ => 1 + max l.deep r.deep
/-- No node stands for nothing. -/
def Tr.ok : Tr → Prop
  | .nil => True
  | .node l r s v => (s = false → v = 0 ∧ (0 < l.size ∨ 0 < r.size)) ∧ l.ok ∧ r.ok
/-- A tree's nodes, laid from a place on. -/
def lay : Tr → Nat → List Nd
  | .nil, _ => []
  | .node l r s v, i => ⟨if l.size = 0 then 0 else ((i + 1 : Nat) : Int), if r.size = 0 then 0 else ((i + 1 + l.size : Nat) : Int), s, v⟩ :: (lay l (i + 1) ++ lay r (i + 1 + l.size))
theorem lay_len : ∀ (T : Tr) (i : Nat), (lay T i).length = T.size
  | .nil, _ => rfl
  | .node l r s v, i => by simp [lay, Tr.size, lay_len l, lay_len r]; omega
/-- These nodes stand in the list from a place on. -/
def win (L : List Nd) (i : Nat) (xs : List Nd) : Prop := ∀ (k : Nat) (x : Nd), xs[k]? = some x → L[i + k]? = some x
theorem win_nil (L : List Nd) (i : Nat) : win L i [] := fun k x h => by simp at h
theorem win_head {L : List Nd} {i : Nat} {x : Nd} {xs : List Nd} (h : win L i (x :: xs)) : L[i]? = some x := h 0 x rfl
theorem win_tail {L : List Nd} {i : Nat} {x : Nd} {xs : List Nd} (h : win L i (x :: xs)) : win L (i + 1) xs := fun k y hy => by
  have := h (k + 1) y (by simpa using hy)
  rwa [show i + 1 + k = i + (k + 1) by omega]
theorem win_cons {L : List Nd} {i : Nat} {x : Nd} {xs : List Nd} (h : L[i]? = some x) (ht : win L (i + 1) xs) : win L i (x :: xs) := fun k y hy => by
  cases k with
  | zero => simp at hy; subst hy; exact h
  | succ k =>
    have := ht k y (by simpa using hy)
    rwa [show i + (k + 1) = i + 1 + k by omega]
theorem win_left {L : List Nd} {i : Nat} {xs ys : List Nd} (h : win L i (xs ++ ys)) : win L i xs := fun k x hx =>
  h k x (by rw [List.getElem?_append_left (List.getElem?_eq_some_iff.1 hx).1]; exact hx)
theorem win_right {L : List Nd} {i : Nat} {xs ys : List Nd} (h : win L i (xs ++ ys)) : win L (i + xs.length) ys := fun k x hx => by
  have := h (xs.length + k) x (by rw [List.getElem?_append_right (by omega), Nat.add_sub_cancel_left]; exact hx)
  rwa [Nat.add_assoc]
theorem win_app {L : List Nd} {i : Nat} {xs ys : List Nd} (h1 : win L i xs) (h2 : win L (i + xs.length) ys) : win L i (xs ++ ys) := fun k x hx => by
  rcases Nat.lt_or_ge k xs.length with h | h
  · exact h1 k x (by rwa [List.getElem?_append_left h] at hx)
  · rw [List.getElem?_append_right h] at hx
    have := h2 _ x hx
    rwa [show i + xs.length + (k - xs.length) = i + k by omega] at this
theorem win_all {L xs : List Nd} (h : win L 0 xs) (hl : xs.length = L.length) : L = xs := by
  apply List.ext_getElem? 
  intro k
  rcases Nat.lt_or_ge k xs.length with hk | hk
  · rw [List.getElem?_eq_getElem hk]
    have := h k _ (List.getElem?_eq_getElem hk)
    rwa [Nat.zero_add] at this
  · rw [List.getElem?_eq_none hk, List.getElem?_eq_none (by omega)]
theorem win_self (xs : List Nd) : win xs 0 xs := fun k x h => by rwa [Nat.zero_add]
/-- How nodes grow into a tree: what comes of a child. -/
def kid (L : List Nd) (g : Nat → Option Tr × Nat) (n : Int) (i : Nat) : Option Tr × Nat :=
  if n = 0 then (some .nil, i) else if n = ((i + 1 : Nat) : Int) ∧ i + 1 < L.length then g (i + 1) else (none, i + 1)
def growG (L : List Nd) : Nat → Nat → Option Tr × Nat
  | 0, i => (none, i)
  | f + 1, i =>
    match kid L (growG L f) (L.getD i nd0).a i with
    | (none, j) => (none, j)
    | (some l, j) =>
      match kid L (growG L f) (L.getD i nd0).b j with
      | (none, k) => (none, k)
      | (some r, k) => (some (.node l r (L.getD i nd0).s (L.getD i nd0).v), k)
theorem size_0 {T : Tr} (h : T.size = 0) : T = .nil := by
  cases T with
  | nil => rfl
  | node l r s v => simp [Tr.size] at h
theorem getD_of {L : List Nd} {i : Nat} {x : Nd} (h : L[i]? = some x) : L.getD i nd0 = x := by simp [List.getD, h]
theorem grow_lay (L : List Nd) : ∀ (T : Tr) (f i : Nat), 0 < T.size → T.deep ≤ f → win L i (lay T i) → growG L f i = (some T, i + T.size - 1)
  | .nil, f, i, h, _, _ => absurd h (Nat.lt_irrefl _)
  | .node l r s v, 0, i, h, hd, _ => by simp [Tr.deep] at hd
  | .node l r s v, f + 1, i, h, hd, hw => by
    have hx := getD_of (win_head hw)
    have ht := win_tail hw
    have h1 := win_left ht
    have h2 := win_right ht
    rw [lay_len] at h2
    have hdl : l.deep ≤ f := by simp only [Tr.deep] at hd; omega
    have hdr : r.deep ≤ f := by simp only [Tr.deep] at hd; omega
    have k1 : kid L (growG L f) (if l.size = 0 then 0 else ((i + 1 : Nat) : Int)) i = (some l, i + l.size) := by
      unfold kid
      by_cases hl : l.size = 0
      · rw [if_pos hl, if_pos rfl, size_0 hl]
        rfl
      · have hlt : i + 1 < L.length := by
          have := h1 0 ((lay l (i + 1))[0]'(by rw [lay_len]; omega)) (List.getElem?_eq_getElem _)
          exact (List.getElem?_eq_some_iff.1 this).1
        rw [if_neg hl, if_neg (by omega), if_pos ⟨rfl, hlt⟩, grow_lay L l f (i + 1) (by omega) hdl h1]
        exact congrArg _ (by omega)
    have k2 : kid L (growG L f) (if r.size = 0 then 0 else ((i + 1 + l.size : Nat) : Int)) (i + l.size) = (some r, i + l.size + r.size) := by
      unfold kid
      by_cases hl : r.size = 0
      · rw [if_pos hl, if_pos rfl, size_0 hl]
        rfl
      · have hlt : i + 1 + l.size < L.length := by
          have := h2 0 ((lay r (i + 1 + l.size))[0]'(by rw [lay_len]; omega)) (List.getElem?_eq_getElem _)
          exact (List.getElem?_eq_some_iff.1 this).1
        have e : i + l.size + 1 = i + 1 + l.size := by omega
        rw [if_neg hl, if_neg (by omega), if_pos ⟨by rw [e], by omega⟩, e, grow_lay L r f (i + 1 + l.size) (by omega) hdr h2]
        exact congrArg _ (by omega)
    unfold growG
    rw [hx]
    dsimp only
    rw [k1]
    dsimp only
    rw [k2]
    rw [Prod.mk.injEq]
    exact ⟨rfl, by show _ = i + (1 + (l.size + r.size)) - 1; omega⟩
theorem grow_inv (L : List Nd) : ∀ (f i j : Nat) (T : Tr), growG L f i = (some T, j) → i < L.length → 0 < T.size ∧ T.deep ≤ f ∧ j + 1 = i + T.size ∧ j < L.length ∧ win L i (lay T i)
  | 0, i, j, T, h, _ => by
    unfold growG at h
    simp at h
  | f + 1, i, j, T, h, hi => by
    have hk : ∀ (n : Int) (i j : Nat) (T : Tr), kid L (growG L f) n i = (some T, j) → i < L.length → T.deep ≤ f ∧ j = i + T.size ∧ j < L.length ∧ win L (i + 1) (lay T (i + 1)) ∧ n = if T.size = 0 then 0 else ((i + 1 : Nat) : Int) := by
      intro n i j T h hi
      unfold kid at h
      by_cases hn : n = 0
      · rw [if_pos hn] at h
        simp only [Prod.mk.injEq, Option.some.injEq] at h
        obtain ⟨rfl, rfl⟩ := h
        exact ⟨Nat.zero_le _, rfl, hi, win_nil _ _, by rw [if_pos (by rfl)]; exact hn⟩
      · rw [if_neg hn] at h
        by_cases hc : n = ((i + 1 : Nat) : Int) ∧ i + 1 < L.length
        · rw [if_pos hc] at h
          obtain ⟨q1, q2, q3, q4, q5⟩ := grow_inv L f (i + 1) j T h hc.2
          exact ⟨q2, by omega, q4, q5, by rw [if_neg (by omega)]; exact hc.1⟩
        · rw [if_neg hc] at h
          simp at h
    unfold growG at h
    obtain ⟨x, hx⟩ : ∃ x, L[i]? = some x := ⟨_, List.getElem?_eq_getElem hi⟩
    rw [getD_of hx] at h
    cases h1 : kid L (growG L f) x.a i with
    | mk o1 j1 =>
      rw [h1] at h
      cases o1 with
      | none => simp at h
      | some l =>
        dsimp only at h
        obtain ⟨a1, a2, a3, a4, a5⟩ := hk _ _ _ _ h1 hi
        cases h2 : kid L (growG L f) x.b j1 with
        | mk o2 j2 =>
          rw [h2] at h
          cases o2 with
          | none => simp at h
          | some r =>
            dsimp only at h
            obtain ⟨b1, b2, b3, b4, b5⟩ := hk _ _ _ _ h2 a3
            simp only [Prod.mk.injEq, Option.some.injEq] at h
            obtain ⟨rfl, rfl⟩ := h
            refine ⟨by simp [Tr.size]; omega, by simp only [Tr.deep]; omega, by simp only [Tr.size]; omega, b3, ?_⟩
            unfold lay
            have e : j1 + 1 = i + 1 + l.size := by omega
            rw [e] at b4 b5
            refine win_cons ?_ (win_app a4 (by rw [lay_len]; exact b4))
            rw [hx, ← a5, ← b5]
/-- A node that is in order by itself. -/
def ndOk (x : Nd) : Bool := x.s || (decide (x.v = 0) && !(decide (x.a = 0) && decide (x.b = 0)))
theorem ok_iff : ∀ (T : Tr) (i : Nat), (∀ x ∈ lay T i, ndOk x = true) ↔ T.ok
  | .nil, i => by simp [lay, Tr.ok]
  | .node l r s v, i => by
    have h1 := ok_iff l (i + 1)
    have h2 := ok_iff r (i + 1 + l.size)
    simp only [lay, List.mem_cons, List.mem_append, forall_eq_or_imp, Tr.ok]
    have h3 : (∀ x, x ∈ lay l (i + 1) ∨ x ∈ lay r (i + 1 + l.size) → ndOk x = true) ↔ (l.ok ∧ r.ok) := by
      rw [← h1, ← h2]
      exact ⟨fun h => ⟨fun x hx => h x (.inl hx), fun x hx => h x (.inr hx)⟩, fun h x hx => hx.elim (h.1 x) (h.2 x)⟩
    rw [h3]
    refine and_congr_left fun _ => ?_
    unfold ndOk
    cases s
    · simp only [Bool.false_or, Bool.and_eq_true, decide_eq_true_eq, true_implies]
      refine and_congr_right fun _ => ?_
      by_cases ha : l.size = 0 <;> by_cases hb : r.size = 0 <;> simp [ha, hb] <;> omega
    · simp
/-- A list of nodes that is the one of a tree in order. -/
def goodT (L : List Nd) (T : Tr) : Prop := 0 < T.size ∧ T.deep ≤ 33 ∧ T.ok ∧ L = lay T 0
def bareT : Tr → Bool
  | .nil => true
  | .node l r s _ => !s && (decide (l.size = 0) && decide (r.size = 0))
/-- What reading a trie answers. -/
def readG (L : List Nd) : Tr × Int :=
  if L.length = 0 then (.nil, 0) else if 500 < L.length then (.nil, 2) else
  match growG L 33 0 with
  | (none, _) => (.nil, 4)
  | (some T, j) => if j = L.length - 1 ∧ bareT T = false ∧ L.all ndOk = true then (T, 0) else (.nil, 4)
theorem read_good {L : List Nd} {T : Tr} (h : goodT L T) (h5 : L.length ≤ 500) : readG L = (T, 0) := by
  obtain ⟨h1, h2, h3, rfl⟩ := h
  have hl := lay_len T 0
  unfold readG
  rw [if_neg (by omega), if_neg (by omega), grow_lay _ T 33 0 h1 h2 (win_self _)]
  dsimp only
  rw [if_pos]
  refine ⟨by omega, ?_, ?_⟩
  · cases T with
    | nil => simp [Tr.size] at h1
    | node l r s v =>
      unfold bareT
      cases s
      · have := h3.1 rfl
        by_cases ha : l.size = 0 <;> by_cases hb : r.size = 0 <;> simp [ha, hb] <;> omega
      · simp
  · exact List.all_eq_true.2 ((ok_iff T 0).2 h3)
theorem read_inv {L : List Nd} (h0 : ¬ L.length = 0) (h5 : ¬ 500 < L.length) (h : ¬ readG L = (.nil, 4)) : ∃ T, goodT L T ∧ readG L = (T, 0) := by
  unfold readG at h ⊢
  rw [if_neg h0, if_neg h5] at h ⊢
  cases hg : growG L 33 0 with
  | mk o j =>
    rw [hg] at h
    cases o with
    | none => exact absurd rfl h
    | some T =>
      dsimp only at h ⊢
      by_cases hc : j = L.length - 1 ∧ bareT T = false ∧ L.all ndOk = true
      · rw [if_pos hc]
        obtain ⟨a1, a2, a3, a4, a5⟩ := grow_inv L 33 0 j T hg (by omega)
        have e : L = lay T 0 := win_all a5 (by rw [lay_len]; omega)
        exact ⟨T, ⟨a1, a2, (ok_iff T 0).1 (fun x hx => List.all_eq_true.1 hc.2.2 x (by rw [e]; exact hx)), e⟩, rfl⟩
      · rw [if_neg hc] at h
        exact absurd rfl h
end Go.Proofs.Ytlfbjdafnappdaa
