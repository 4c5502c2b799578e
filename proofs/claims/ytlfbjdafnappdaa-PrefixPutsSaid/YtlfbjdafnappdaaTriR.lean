/-
  Tries in plain words: a trie is right just when its rows make it.
-/
import Derived.Test.YtlfbjdafnappdaaTriQ
namespace Go.Proofs.Ytlfbjdafnappdaa
set_option linter.unusedVariables false
set_option linter.unusedSimpArgs false
/-- All beginnings of rows. -/
def prefs (rows : List Rw) : List B8 := rows.flatMap (fun r => (List.range (r.1.length + 1)).map (fun n => r.1.take n))
theorem mem_prefs (rows : List Rw) (p : B8) : p ∈ prefs rows ↔ ∃ r ∈ rows, ∃ q, r.1 = p ++ q := by
  unfold prefs
  simp only [List.mem_flatMap, List.mem_map, List.mem_range]
  constructor
  · rintro ⟨r, hr, n, hn, rfl⟩
    exact ⟨r, hr, r.1.drop n, (List.take_append_drop n r.1).symm⟩
  · rintro ⟨r, hr, q, h⟩
    exact ⟨r, hr, p.length, by rw [h]; simp; omega, by rw [h]; simp⟩
def idxA (A : List B8) (p : B8) : Int := if p ∈ A then (A.idxOf p : Nat) else 0
def anyV (rows : List Rw) (p : B8) : Bool := rows.any (fun r => decide (r.1 = p))
def lastV (rows : List Rw) (p : B8) : Int := rows.foldl (fun v r => if r.1 = p then r.2 else v) 0
def ndA (A : List B8) (rows : List Rw) (p : B8) : Nd := ⟨idxA A (p ++ [48]), idxA A (p ++ [49]), anyV rows p, lastV rows p⟩
/-- The trie of rows, where A are their beginnings in order, each once. -/
def trieA (A : List B8) (rows : List Rw) : List Nd := A.map (ndA A rows)
theorem idxOf_at : ∀ (A : List B8) (i : Nat) (p : B8), A.Pairwise (· < ·) → A[i]? = some p → A.idxOf p = i
  | [], i, p, _, h => by simp at h
  | a :: A, 0, p, _, h => by
    obtain rfl := Option.some.inj (show some a = some p by simpa using h)
    simp [List.idxOf_cons]
  | a :: A, i + 1, p, hA, h => by
    obtain ⟨h1, h2⟩ := List.pairwise_cons.1 hA
    have h' : A[i]? = some p := by simpa using h
    have hne : ¬ a = p := fun e => by
      subst e
      exact absurd (h1 _ (List.mem_of_getElem? h')) (lt_irr _)
    have hb : (a == p) = false := by simpa using hne
    rw [List.idxOf_cons, hb, idxOf_at A i p h2 h']
    rfl
theorem idxA_at {A : List B8} (hA : A.Pairwise (· < ·)) {i : Nat} {p : B8} (h : A[i]? = some p) : idxA A p = (i : Nat) := by
  unfold idxA
  rw [if_pos (List.mem_of_getElem? h)]
  rw [idxOf_at A i p hA h]
/-- A node's mark and value are those of the rows. -/
def valOk (T0 : Tr) (rows : List Rw) : Prop := ∀ (p : B8) (l r : Tr) (s : Bool) (v : Int), sub T0 p = .node l r s v → anyV rows p = s ∧ lastV rows p = v
theorem trie_lay (T0 : Tr) (rows : List Rw) (hv : valOk T0 rows) : ∀ (T : Tr) (b : B8) (i : Nat) (pre post : List B8), sub T0 b = T → paths T0 [] = pre ++ (paths T b ++ post) → pre.length = i → (paths T b).map (ndA (paths T0 []) rows) = lay T i
  | .nil, b, i, pre, post, _, _, _ => rfl
  | .node l r s v, b, i, pre, post, hs, hA, hi => by
    have hsl : sub T0 (b ++ [48]) = l := by rw [sub_app, hs]; show sub l [] = l; exact sub_nil l
    have hsr : sub T0 (b ++ [49]) = r := by rw [sub_app, hs]; show sub r [] = r; exact sub_nil r
    have hL := trie_lay T0 rows hv l (b ++ [48]) (i + 1) (pre ++ [b]) (paths r (b ++ [49]) ++ post) hsl (by rw [hA]; simp [paths]) (by simp [hi])
    have hR := trie_lay T0 rows hv r (b ++ [49]) (i + 1 + l.size) (pre ++ (b :: paths l (b ++ [48]))) post hsr (by rw [hA]; simp [paths]) (by simp [hi, paths_len]; omega)
    have hso := paths_sorted T0 []
    have hno : ∀ c : UInt8, (sub T0 (b ++ [c])).size = 0 → idxA (paths T0 []) (b ++ [c]) = 0 := fun c h => by
      unfold idxA
      rw [if_neg]
      intro hm
      obtain ⟨q, hq, hz⟩ := (mem_paths _ _ _).1 hm
      rw [List.nil_append] at hq
      rw [← hq] at hz
      omega
    have hhd : ∀ (T : Tr) (c : B8), 0 < T.size → (paths T c)[0]? = some c := fun T c h => by
      cases T with
      | nil => exact absurd h (Nat.lt_irrefl _)
      | node => rfl
    have i1 : idxA (paths T0 []) (b ++ [48]) = if l.size = 0 then 0 else ((i + 1 : Nat) : Int) := by
      by_cases h : l.size = 0
      · rw [if_pos h]; exact hno 48 (by rw [hsl]; exact h)
      · rw [if_neg h]
        refine idxA_at hso ?_
        have e : paths T0 [] = (pre ++ [b]) ++ (paths l (b ++ [48]) ++ (paths r (b ++ [49]) ++ post)) := by rw [hA]; simp [paths]
        rw [e, List.getElem?_append_right (by simp [hi]), List.getElem?_append_left (by simp [hi, paths_len]; omega)]
        simpa [hi] using hhd l (b ++ [48]) (by omega)
    have i2 : idxA (paths T0 []) (b ++ [49]) = if r.size = 0 then 0 else ((i + 1 + l.size : Nat) : Int) := by
      by_cases h : r.size = 0
      · rw [if_pos h]; exact hno 49 (by rw [hsr]; exact h)
      · rw [if_neg h]
        refine idxA_at hso ?_
        have e : paths T0 [] = (pre ++ (b :: paths l (b ++ [48]))) ++ (paths r (b ++ [49]) ++ post) := by rw [hA]; simp [paths]
        have hp : (pre ++ (b :: paths l (b ++ [48]))).length = i + 1 + l.size := by simp [hi, paths_len]; omega
        rw [e, List.getElem?_append_right (by omega), hp, Nat.sub_self, List.getElem?_append_left (by rw [paths_len]; omega)]
        exact hhd r _ (by omega)
    obtain ⟨v1, v2⟩ := hv b l r s v hs
    show ndA _ rows b :: ((paths l (b ++ [48]) ++ paths r (b ++ [49])).map _) = _
    rw [List.map_append, hL, hR]
    unfold ndA
    rw [i1, i2, v1, v2]
    rfl
/-- A tree whose paths are the beginnings of rows, and whose marks are theirs, is what they make. -/
theorem trie_of (T : Tr) (rows : List Rw) (A : List B8) (hA : A.Pairwise (· < ·)) (hm : ∀ p, p ∈ A ↔ p ∈ prefs rows) (hv : valOk T rows) (hp : ∀ p, 0 < (sub T p).size ↔ ∃ r ∈ rows, ∃ q, r.1 = p ++ q) : trieA A rows = lay T 0 := by
  have e : A = paths T [] := sorted_eq A _ hA (paths_sorted T []) fun p => by
    rw [hm, mem_prefs, mem_paths, ← hp]
    exact ⟨fun h => ⟨p, rfl, h⟩, fun ⟨q, hq, h⟩ => by rw [hq]; exact h⟩
  subst e
  exact trie_lay T rows hv T [] 0 [] [] (sub_nil T) (by simp) rfl
theorem anyV_iff (rows : List Rw) (p : B8) : anyV rows p = true ↔ ∃ r ∈ rows, r.1 = p := by
  unfold anyV
  simp
theorem lastV_all (p : B8) (v : Int) : ∀ (rows : List Rw) (x : Int), (∀ r ∈ rows, r.1 = p → r.2 = v) → rows.foldl (fun v r => if r.1 = p then r.2 else v) x = if anyV rows p = true then v else x
  | [], x, _ => by simp [anyV]
  | r :: rows, x, h => by
    rw [List.foldl_cons, lastV_all p v rows _ (fun r' hr' => h r' (List.mem_cons_of_mem _ hr'))]
    by_cases hr : r.1 = p
    · have e : anyV (r :: rows) p = true := (anyV_iff _ _).2 ⟨r, List.mem_cons_self, hr⟩
      rw [e, if_pos hr, if_pos rfl, h r List.mem_cons_self hr]
      split <;> rfl
    · have e : anyV (r :: rows) p = anyV rows p := by simp [anyV, hr]
      rw [e, if_neg hr]
theorem mem_rowsT : ∀ (T : Tr) (b : B8) (x : Rw), x ∈ rowsT T b ↔ ∃ q l r, x.1 = b ++ q ∧ sub T q = .node l r true x.2
  | .nil, b, x => by
    simp only [rowsT, List.not_mem_nil, false_iff]
    rintro ⟨q, l, r, -, h⟩
    rw [sub_0] at h
    cases h
  | .node l r s v, b, x => by
    simp only [rowsT, List.mem_append, mem_rowsT l, mem_rowsT r]
    constructor
    · rintro (h | ⟨q, l', r', h, h'⟩ | ⟨q, l', r', h, h'⟩)
      · split at h
        · rename_i hs
          rw [List.mem_singleton.1 h, hs]
          exact ⟨[], l, r, by simp, sub_nil _⟩
        · simp at h
      · exact ⟨48 :: q, l', r', by rw [h]; simp, h'⟩
      · exact ⟨49 :: q, l', r', by rw [h]; simp, h'⟩
    · rintro ⟨q, l', r', h, h'⟩
      match q, h, h' with
      | [], h, h' =>
        rw [sub_nil] at h'
        injection h' with _ _ h3 h4
        left
        rw [if_pos h3, List.mem_singleton, h4]
        rw [List.append_nil] at h
        exact Prod.ext h rfl
      | c :: q, h, h' =>
        have h' : (if c = 48 then sub l q else if c = 49 then sub r q else Tr.nil) = .node l' r' true x.2 := h'
        by_cases h1 : c = 48
        · rw [if_pos h1] at h'; subst h1; exact .inr (.inl ⟨q, l', r', by rw [h]; simp, h'⟩)
        · rw [if_neg h1] at h'
          by_cases h2 : c = 49
          · rw [if_pos h2] at h'; subst h2; exact .inr (.inr ⟨q, l', r', by rw [h]; simp, h'⟩)
          · rw [if_neg h2] at h'; cases h'
theorem sub_ok : ∀ (q : B8) (T : Tr), T.ok → (sub T q).ok
  | [], T, h => by rw [sub_nil]; exact h
  | c :: q, .nil, h => by rw [sub_0]; exact h
  | c :: q, .node l r s v, h => by
    show (if c = 48 then sub l q else if c = 49 then sub r q else Tr.nil).ok
    split
    · exact sub_ok q l h.2.1
    · split
      · exact sub_ok q r h.2.2
      · trivial
/-- Below each node there is one that is marked. -/
theorem some_set : ∀ T : Tr, T.ok → 0 < T.size → ∃ q l r v, sub T q = .node l r true v
  | .nil, _, h => absurd h (Nat.lt_irrefl _)
  | .node l r s v, ho, _ => by
    cases s with
    | true => exact ⟨[], l, r, v, sub_nil _⟩
    | false =>
      rcases (ho.1 rfl).2 with h | h
      · obtain ⟨q, l', r', v', hq⟩ := some_set l ho.2.1 h
        exact ⟨48 :: q, l', r', v', hq⟩
      · obtain ⟨q, l', r', v', hq⟩ := some_set r ho.2.2 h
        exact ⟨49 :: q, l', r', v', hq⟩
/-- A tree in order is what its rows make. -/
theorem trie_rows (T : Tr) (ho : T.ok) (A : List B8) (hA : A.Pairwise (· < ·)) (hm : ∀ p, p ∈ A ↔ p ∈ prefs (rowsT T [])) : trieA A (rowsT T []) = lay T 0 := by
  refine trie_of T _ A hA hm (fun p l r s v h => ?_) (fun p => ⟨fun h => ?_, ?_⟩)
  · have hall : ∀ x ∈ rowsT T [], x.1 = p → s = true ∧ x.2 = v := fun x hx hp => by
      obtain ⟨q, l', r', e, h'⟩ := (mem_rowsT T [] x).1 hx
      rw [List.nil_append] at e
      rw [← e, hp, h] at h'
      injection h' with _ _ h3 h4
      exact ⟨h3, h4.symm⟩
    have hl := lastV_all p v (rowsT T []) 0 (fun x hx hp => (hall x hx hp).2)
    cases s with
    | true =>
      have : anyV (rowsT T []) p = true := (anyV_iff _ _).2 ⟨(p, v), (mem_rowsT T [] (p, v)).2 ⟨p, l, r, rfl, h⟩, rfl⟩
      refine ⟨this, ?_⟩
      unfold lastV
      rw [hl, if_pos this]
    | false =>
      have : ¬ anyV (rowsT T []) p = true := fun h' => by
        obtain ⟨x, hx, hp⟩ := (anyV_iff _ _).1 h'
        exact absurd (hall x hx hp).1 (by decide)
      refine ⟨by simpa using this, ?_⟩
      unfold lastV
      rw [hl, if_neg this]
      have := (sub_ok p T ho)
      rw [h] at this
      exact (this.1 rfl).1.symm
  · obtain ⟨q, l, r, v, hq⟩ := some_set _ (sub_ok p T ho) h
    rw [← sub_app] at hq
    exact ⟨(p ++ q, v), (mem_rowsT T [] _).2 ⟨p ++ q, l, r, rfl, hq⟩, q, rfl⟩
  · rintro ⟨x, hx, q, hq⟩
    obtain ⟨q', l, r, e, h'⟩ := (mem_rowsT T [] x).1 hx
    rw [List.nil_append] at e
    rw [← e, hq, sub_app] at h'
    cases hs : sub T p with
    | nil => rw [hs, sub_0] at h'; cases h'
    | node l r s v => simp only [Tr.size]; omega
end Go.Proofs.Ytlfbjdafnappdaa
