/-
  Tries in plain words: the tree of rows; the program's reading and the reference's check agree.
-/
import Derived.Test.YtlfbjdafnappdaaTriR
namespace Go.Proofs.Ytlfbjdafnappdaa
set_option linter.unusedVariables false
set_option linter.unusedSimpArgs false
def tailC (c : UInt8) (r : Rw) : Option Rw := match r.1 with
  | [] => none
  | d :: q => if d = c then some (q, r.2) else none
theorem tailC_some {c : UInt8} {r x : Rw} : tailC c r = some x ↔ r = (c :: x.1, x.2) := by
  obtain ⟨b, v⟩ := r
  unfold tailC
  cases b with
  | nil => simp
  | cons d q =>
    dsimp only
    by_cases h : d = c
    · rw [if_pos h, Option.some.injEq]
      constructor
      · rintro rfl; rw [h]
      · intro e
        simp only [Prod.mk.injEq, List.cons.injEq] at e
        exact Prod.ext e.1.2 e.2
    · rw [if_neg h]
      simp only [reduceCtorEq, false_iff, Prod.mk.injEq, List.cons.injEq]
      exact fun e => h e.1.1
def tailsC (c : UInt8) (rows : List Rw) : List Rw := rows.filterMap (tailC c)
theorem mem_tails {c : UInt8} {rows : List Rw} {x : Rw} : x ∈ tailsC c rows ↔ (c :: x.1, x.2) ∈ rows := by
  unfold tailsC
  rw [List.mem_filterMap]
  constructor
  · rintro ⟨r, hr, h⟩
    rw [tailC_some.1 h] at hr
    exact hr
  · intro h
    exact ⟨_, h, tailC_some.2 rfl⟩
def build : Nat → List Rw → Tr
  | 0, _ => .nil
  | f + 1, rows => if rows = [] then .nil else .node (build f (tailsC 48 rows)) (build f (tailsC 49 rows)) (anyV rows []) (lastV rows [])
def rwOk (f : Nat) (rows : List Rw) : Prop := ∀ r ∈ rows, bin r.1 ∧ r.1.length < f
theorem rwOk_tails {f : Nat} {rows : List Rw} (h : rwOk (f + 1) rows) (c : UInt8) : rwOk f (tailsC c rows) := fun x hx => by
  obtain ⟨h1, h2⟩ := h _ (mem_tails.1 hx)
  exact ⟨fun d hd => h1 d (List.mem_cons_of_mem _ hd), by simpa using h2⟩
theorem anyV_tails (c : UInt8) (rows : List Rw) (p : B8) : anyV rows (c :: p) = anyV (tailsC c rows) p := by
  rw [Bool.eq_iff_iff, anyV_iff, anyV_iff]
  constructor
  · rintro ⟨⟨b, v⟩, hr, h⟩
    dsimp only at h
    subst h
    exact ⟨(p, v), mem_tails.2 hr, rfl⟩
  · rintro ⟨x, hx, rfl⟩
    exact ⟨_, mem_tails.1 hx, rfl⟩
theorem lastV_tails (c : UInt8) (p : B8) : ∀ (rows : List Rw) (x : Int), rows.foldl (fun v r => if r.1 = c :: p then r.2 else v) x = (tailsC c rows).foldl (fun v r => if r.1 = p then r.2 else v) x
  | [], x => rfl
  | r :: rows, x => by
    rw [List.foldl_cons, lastV_tails c p rows]
    unfold tailsC
    rw [List.filterMap_cons]
    cases h : tailC c r with
    | none =>
      rw [if_neg]
      intro e
      obtain ⟨b, v⟩ := r
      dsimp only at e
      subst e
      have := tailC_some.2 (show ((c :: p, v) : Rw) = (c :: ((p, v) : Rw).1, ((p, v) : Rw).2) from rfl)
      rw [h] at this
      cases this
    | some y =>
      obtain rfl := tailC_some.1 h
      rw [List.foldl_cons]
      by_cases e : y.1 = p
      · rw [if_pos (by rw [e]), if_pos e]
      · rw [if_neg (by simpa using e), if_neg e]
theorem build_size {f : Nat} {rows : List Rw} (h : rwOk f rows) : 0 < (build f rows).size ↔ rows ≠ [] := by
  cases f with
  | zero =>
    have : rows = [] := by
      cases rows with
      | nil => rfl
      | cons r t => exact absurd (h r List.mem_cons_self).2 (Nat.not_lt_zero _)
    subst this
    simp [build, Tr.size]
  | succ f =>
    unfold build
    by_cases e : rows = []
    · rw [if_pos e]; simp [e, Tr.size]
    · rw [if_neg e]; simp only [Tr.size, ne_eq, e, not_false_eq_true, iff_true]; omega
theorem build_sub : ∀ (p : B8) (f : Nat) (rows : List Rw), rwOk f rows → (0 < (sub (build f rows) p).size ↔ ∃ r ∈ rows, ∃ q, r.1 = p ++ q)
  | [], f, rows, h => by
    rw [sub_nil, build_size h]
    constructor
    · intro hne
      obtain ⟨r, t, rfl⟩ := List.exists_cons_of_ne_nil hne
      exact ⟨r, List.mem_cons_self, r.1, rfl⟩
    · rintro ⟨r, hr, -⟩ rfl
      cases hr
  | c :: p, 0, rows, h => by
    have : rows = [] := by
      cases rows with
      | nil => rfl
      | cons r t => exact absurd (h r List.mem_cons_self).2 (Nat.not_lt_zero _)
    subst this
    unfold build
    rw [sub_0]
    simp [Tr.size]
  | c :: p, f + 1, rows, h => by
    unfold build
    by_cases e : rows = []
    · subst e
      rw [if_pos rfl, sub_0]
      simp [Tr.size]
    · rw [if_neg e]
      show 0 < (if c = 48 then sub (build f (tailsC 48 rows)) p else if c = 49 then sub (build f (tailsC 49 rows)) p else Tr.nil).size ↔ _
      have hiff : (∃ r ∈ rows, ∃ q, r.1 = c :: p ++ q) ↔ ∃ r ∈ tailsC c rows, ∃ q, r.1 = p ++ q := by
        constructor
        · rintro ⟨⟨b, v⟩, hr, q, hq⟩
          dsimp only at hq
          subst hq
          exact ⟨(p ++ q, v), mem_tails.2 hr, q, rfl⟩
        · rintro ⟨x, hx, q, hq⟩
          exact ⟨_, mem_tails.1 hx, q, by show c :: x.1 = _; rw [hq]; rfl⟩
      rw [hiff]
      by_cases h1 : c = 48
      · subst h1
        rw [if_pos rfl]
        exact build_sub p f _ (rwOk_tails h 48)
      · rw [if_neg h1]
        by_cases h2 : c = 49
        · subst h2
          rw [if_pos rfl]
          exact build_sub p f _ (rwOk_tails h 49)
        · rw [if_neg h2]
          constructor
          · intro q; exact absurd q (Nat.lt_irrefl _)
          · rintro ⟨x, hx, -⟩
            rcases (h _ (mem_tails.1 hx)).1 c List.mem_cons_self with q | q
            · exact absurd q h1
            · exact absurd q h2
theorem build_val : ∀ (p : B8) (f : Nat) (rows : List Rw) (l r : Tr) (s : Bool) (v : Int), sub (build f rows) p = .node l r s v → anyV rows p = s ∧ lastV rows p = v
  | p, 0, rows, l, r, s, v, h => by
    unfold build at h
    rw [sub_0] at h
    cases h
  | [], f + 1, rows, l, r, s, v, h => by
    rw [sub_nil] at h
    unfold build at h
    split at h
    · cases h
    · injection h with _ _ h3 h4
      exact ⟨h3, h4⟩
  | c :: p, f + 1, rows, l, r, s, v, h => by
    unfold build at h
    split at h
    · rw [sub_0] at h; cases h
    · have h : (if c = 48 then sub (build f (tailsC 48 rows)) p else if c = 49 then sub (build f (tailsC 49 rows)) p else Tr.nil) = .node l r s v := h
      have hl : lastV rows (c :: p) = lastV (tailsC c rows) p := lastV_tails c p rows 0
      rw [anyV_tails, hl]
      by_cases h1 : c = 48
      · subst h1
        rw [if_pos rfl] at h
        exact build_val p f _ l r s v h
      · rw [if_neg h1] at h
        by_cases h2 : c = 49
        · subst h2
          rw [if_pos rfl] at h
          exact build_val p f _ l r s v h
        · rw [if_neg h2] at h
          cases h
theorem build_deep : ∀ (f : Nat) (rows : List Rw), (build f rows).deep ≤ f
  | 0, rows => Nat.le_refl _
  | f + 1, rows => by
    unfold build
    split
    · exact Nat.zero_le _
    · have h1 := build_deep f (tailsC 48 rows)
      have h2 := build_deep f (tailsC 49 rows)
      simp only [Tr.deep]
      omega
theorem lastV_none {rows : List Rw} {p : B8} (h : anyV rows p = false) : lastV rows p = 0 := by
  have := lastV_all p 0 rows 0 (fun r hr hp => by
    have : anyV rows p = true := (anyV_iff _ _).2 ⟨r, hr, hp⟩
    rw [h] at this
    cases this)
  unfold lastV
  rw [this]
  split <;> rfl
theorem build_ok : ∀ (f : Nat) (rows : List Rw), rwOk f rows → (build f rows).ok
  | 0, rows, _ => trivial
  | f + 1, rows, h => by
    unfold build
    split
    · trivial
    · rename_i hne
      refine ⟨fun hs => ⟨lastV_none hs, ?_⟩, build_ok f _ (rwOk_tails h 48), build_ok f _ (rwOk_tails h 49)⟩
      rw [build_size (rwOk_tails h 48), build_size (rwOk_tails h 49)]
      obtain ⟨⟨b, v⟩, t, rfl⟩ := List.exists_cons_of_ne_nil hne
      cases b with
      | nil =>
        have : anyV ((([], v) : Rw) :: t) [] = true := (anyV_iff _ _).2 ⟨_, List.mem_cons_self, rfl⟩
        rw [hs] at this
        cases this
      | cons c q =>
        rcases (h _ List.mem_cons_self).1 c List.mem_cons_self with rfl | rfl
        · exact .inl (fun e => by
            have : ((q, v) : Rw) ∈ tailsC 48 ((48 :: q, v) :: t) := mem_tails.2 List.mem_cons_self
            rw [e] at this
            cases this)
        · exact .inr (fun e => by
            have : ((q, v) : Rw) ∈ tailsC 49 ((49 :: q, v) :: t) := mem_tails.2 List.mem_cons_self
            rw [e] at this
            cases this)
/-- The trie of rows. -/
def trieG (rows : List Rw) : List Nd := lay (build 33 rows) 0
theorem trieA_is {rows : List Rw} (h : rwOk 33 rows) {A : List B8} (hA : A.Pairwise (· < ·)) (hm : ∀ p, p ∈ A ↔ p ∈ prefs rows) : trieA A rows = trieG rows :=
  trie_of _ rows A hA hm (fun p l r s v => build_val p 33 rows l r s v) (fun p => build_sub p 33 rows h)
/-- What the reference's look at a trie's rows answers. -/
def rowsR (L : List Nd) : Option (List Rw) := if L.length = 0 then some [] else rowsG L (L.length + 1) [(0, [])] []
def rightG (L : List Nd) : Int := if 500 < L.length then 2 else match rowsR L with
  | none => 4
  | some rows => if L = trieG rows then 0 else 4
theorem rowsR_ok {L : List Nd} {rows : List Rw} (h : rowsR L = some rows) : rwOk 33 rows := by
  unfold rowsR at h
  split at h
  · obtain rfl := Option.some.inj h
    intro r hr
    cases hr
  · intro r hr
    have := rows_inv L _ _ _ rows (fun x hx => by rw [List.mem_singleton.1 hx]; exact fun c hc => by cases hc) (fun x hx => by cases hx) h r hr
    exact ⟨this.1, by omega⟩
theorem rows_good {L : List Nd} {T : Tr} (h : goodT L T) : rowsR L = some (rowsT T []) := by
  obtain ⟨h1, h2, h3, rfl⟩ := h
  have hl := lay_len T 0
  unfold rowsR
  rw [if_neg (by omega), hl, Nat.add_comm, rows_lay _ T 0 [] 1 [] [] h1 (win_self _) (by simpa using h2), rowsG_nil, List.nil_append]
theorem trieG_rows {T : Tr} (ho : T.ok) (hd : T.deep ≤ 33) (hr : rwOk 33 (rowsT T [])) : trieG (rowsT T []) = lay T 0 := by
  have hA := paths_sorted (build 33 (rowsT T [])) []
  have hm : ∀ p, p ∈ paths (build 33 (rowsT T [])) [] ↔ p ∈ prefs (rowsT T []) := fun p => by
    rw [mem_prefs, mem_paths, ← build_sub p 33 _ hr]
    exact ⟨fun ⟨q, hq, h⟩ => by rw [hq]; exact h, fun h => ⟨p, rfl, h⟩⟩
  rw [← trieA_is hr hA hm, trie_rows T ho _ hA hm]
/-- The reference's check is the program's. -/
theorem right_read (L : List Nd) : rightG L = (readG L).2 ∧ ((readG L).2 = 0 → L.length ≤ 500 ∧ (readG L).1.ok ∧ (readG L).1.deep ≤ 33 ∧ rowsR L = some (rowsT (readG L).1 []) ∧ L = lay (readG L).1 0) := by
  by_cases h0 : L.length = 0
  · obtain rfl := List.length_eq_zero_iff.1 h0
    refine ⟨?_, fun _ => ⟨Nat.zero_le _, trivial, Nat.zero_le _, rfl, rfl⟩⟩
    rfl
  by_cases h5 : 500 < L.length
  · have e : readG L = (.nil, 2) := by unfold readG; rw [if_neg h0, if_pos h5]
    rw [e]
    refine ⟨by unfold rightG; rw [if_pos h5], fun h => absurd h (show ¬ (2 : Int) = 0 by decide)⟩
  have good : ∀ T, goodT L T → rightG L = (readG L).2 ∧ ((readG L).2 = 0 → L.length ≤ 500 ∧ (readG L).1.ok ∧ (readG L).1.deep ≤ 33 ∧ rowsR L = some (rowsT (readG L).1 []) ∧ L = lay (readG L).1 0) := fun T hT => by
    rw [read_good hT (by omega)]
    have hr := rows_good hT
    refine ⟨?_, fun _ => ⟨by omega, hT.2.2.1, hT.2.1, hr, hT.2.2.2⟩⟩
    unfold rightG
    rw [if_neg h5, hr]
    dsimp only
    rw [if_pos]
    rw [trieG_rows hT.2.2.1 hT.2.1 (rowsR_ok hr)]
    exact hT.2.2.2
  by_cases hb : readG L = (.nil, 4)
  · have hn : ¬ ∃ T, goodT L T := fun ⟨T, hT⟩ => by
      rw [read_good hT (by omega)] at hb
      have := congrArg Prod.snd hb
      exact absurd this (show ¬ (0 : Int) = 4 by decide)
    rw [hb]
    refine ⟨?_, fun h => absurd h (show ¬ (4 : Int) = 0 by decide)⟩
    unfold rightG
    rw [if_neg h5]
    cases hr : rowsR L with
    | none => rfl
    | some rows =>
      dsimp only
      rw [if_neg]
      intro e
      have ho := rowsR_ok hr
      refine hn ⟨build 33 rows, ?_, build_deep 33 rows, build_ok 33 rows ho, e⟩
      have := lay_len (build 33 rows) 0
      unfold trieG at e
      rw [← e] at this
      omega
  · obtain ⟨T, hT, -⟩ := read_inv h0 h5 hb
    exact good T hT
end Go.Proofs.Ytlfbjdafnappdaa
