/-
  Tries in plain words: putting a row into a tree and taking one out.
-/
import Derived.Test.YtlfbjdafnappdaaTriT
namespace Go.Proofs.Ytlfbjdafnappdaa
set_option linter.unusedVariables false
set_option linter.unusedSimpArgs false
def putT : Tr → B8 → Int → Tr
  | .nil, [], v => .node .nil .nil true v
  | .nil, c :: q, v => if c = 48 then .node (putT .nil q v) .nil false 0 else .node .nil (putT .nil q v) false 0
  | .node l r s w, [], v => .node l r true v
  | .node l r s w, c :: q, v => if c = 48 then .node (putT l q v) r s w else .node l (putT r q v) s w
def mkT (l r : Tr) (s : Bool) (w : Int) : Tr := if bareT (.node l r s w) then .nil else .node l r s w
def remT : Tr → B8 → Tr × Bool
  | .nil, _ => (.nil, false)
  | .node l r s w, [] => (mkT l r false 0, s)
  | .node l r s w, c :: q => if c = 48 then (mkT (remT l q).1 r s w, (remT l q).2) else (mkT l (remT r q).1 s w, (remT r q).2)
theorem put_size : ∀ (T : Tr) (q : B8) (v : Int), 0 < (putT T q v).size
  | .nil, [], v => by simp only [putT, Tr.size]; omega
  | .nil, c :: q, v => by unfold putT; split <;> (simp only [Tr.size]; omega)
  | .node l r s w, [], v => by simp only [putT, Tr.size]; omega
  | .node l r s w, c :: q, v => by unfold putT; split <;> (simp only [Tr.size]; omega)
theorem put_ok : ∀ (T : Tr) (q : B8) (v : Int), T.ok → (putT T q v).ok
  | .nil, [], v, _ => ⟨(fun h => nomatch h), trivial, trivial⟩
  | .nil, c :: q, v, _ => by
    unfold putT
    have h1 := put_ok .nil q v trivial
    have h2 := put_size .nil q v
    split
    · exact ⟨fun _ => ⟨rfl, .inl h2⟩, h1, trivial⟩
    · exact ⟨fun _ => ⟨rfl, .inr h2⟩, trivial, h1⟩
  | .node l r s w, [], v, h => ⟨(fun h => nomatch h), h.2.1, h.2.2⟩
  | .node l r s w, c :: q, v, h => by
    unfold putT
    split
    · exact ⟨fun hs => ⟨(h.1 hs).1, .inl (put_size l q v)⟩, put_ok l q v h.2.1, h.2.2⟩
    · exact ⟨fun hs => ⟨(h.1 hs).1, .inr (put_size r q v)⟩, h.2.1, put_ok r q v h.2.2⟩
theorem put_deep : ∀ (T : Tr) (q : B8) (v : Int), (putT T q v).deep ≤ max T.deep (q.length + 1)
  | .nil, [], v => by simp [putT, Tr.deep]
  | .nil, c :: q, v => by
    have := put_deep .nil q v
    unfold putT
    split <;> (simp only [Tr.deep, List.length_cons] at this ⊢; omega)
  | .node l r s w, [], v => by simp only [putT, Tr.deep]; omega
  | .node l r s w, c :: q, v => by
    have h1 := put_deep l q v
    have h2 := put_deep r q v
    unfold putT
    split <;> (simp only [Tr.deep, List.length_cons]; omega)
theorem app_inj {b q q' : B8} : b ++ q = b ++ q' ↔ q = q' := ⟨fun h => List.append_cancel_left h, fun h => by rw [h]⟩
theorem rows_pre {T : Tr} {b : B8} {x : Rw} (h : x ∈ rowsT T b) : ∃ q, x.1 = b ++ q := by
  obtain ⟨q, -, -, e, -⟩ := (mem_rowsT T b x).1 h
  exact ⟨q, e⟩
/-- A row on the one side is none of the other. -/
theorem off0 {T : Tr} {b q : B8} {x : Rw} (h : x ∈ rowsT T (b ++ [48])) : x.1 ≠ b ++ 49 :: q := by
  obtain ⟨p, e⟩ := rows_pre h
  rw [e, List.append_assoc]
  intro h2
  have := app_inj.1 h2
  simp at this
theorem off1 {T : Tr} {b q : B8} {x : Rw} (h : x ∈ rowsT T (b ++ [49])) : x.1 ≠ b ++ 48 :: q := by
  obtain ⟨p, e⟩ := rows_pre h
  rw [e, List.append_assoc]
  intro h2
  have := app_inj.1 h2
  simp at this
theorem offR {T : Tr} {b : B8} {c : UInt8} {x : Rw} (h : x ∈ rowsT T (b ++ [c])) : x.1 ≠ b := by
  obtain ⟨p, e⟩ := rows_pre h
  rw [e, List.append_assoc]
  intro h2
  have := congrArg List.length h2
  simp at this
theorem mem_node {l r : Tr} {s : Bool} {w : Int} {b : B8} {x : Rw} : x ∈ rowsT (.node l r s w) b ↔ (s = true ∧ x = (b, w)) ∨ x ∈ rowsT l (b ++ [48]) ∨ x ∈ rowsT r (b ++ [49]) := by
  have e : rowsT (.node l r s w) b = (if s = true then [(b, w)] else []) ++ (rowsT l (b ++ [48]) ++ rowsT r (b ++ [49])) := rfl
  rw [e, List.mem_append, List.mem_append]
  cases s <;> simp
theorem cons_app (b q : B8) (c : UInt8) : b ++ c :: q = b ++ [c] ++ q := by simp
theorem mem_put : ∀ (T : Tr) (q : B8) (v : Int) (b : B8) (x : Rw), bin q → (x ∈ rowsT (putT T q v) b ↔ x = (b ++ q, v) ∨ (x ∈ rowsT T b ∧ x.1 ≠ b ++ q))
  | .nil, [], v, b, x, _ => by simp [putT, rowsT]
  | .nil, c :: q, v, b, x, hb => by
    have ih := fun b => mem_put .nil q v b x (fun d hd => hb d (List.mem_cons_of_mem _ hd))
    unfold putT
    rcases hb c List.mem_cons_self with rfl | rfl
    · rw [if_pos rfl, mem_node, ih, cons_app b q 48]
      simp [rowsT]
    · rw [if_neg (by decide), mem_node, ih, cons_app b q 49]
      simp [rowsT]
  | .node l r s w, [], v, b, x, _ => by
    unfold putT
    rw [mem_node, mem_node, List.append_nil]
    constructor
    · rintro (⟨-, h⟩ | h | h)
      · exact .inl h
      · exact .inr ⟨.inr (.inl h), offR h⟩
      · exact .inr ⟨.inr (.inr h), offR h⟩
    · rintro (h | ⟨⟨-, rfl⟩ | h | h, hn⟩)
      · exact .inl ⟨rfl, h⟩
      · exact absurd rfl hn
      · exact .inr (.inl h)
      · exact .inr (.inr h)
  | .node l r s w, c :: q, v, b, x, hb => by
    have hq : bin q := fun d hd => hb d (List.mem_cons_of_mem _ hd)
    have hne : ∀ q : B8, ∀ c : UInt8, b ≠ b ++ c :: q := fun q c h => by have := congrArg List.length h; simp at this
    unfold putT
    rcases hb c List.mem_cons_self with rfl | rfl
    · rw [if_pos rfl, mem_node, mem_node, mem_put l q v _ x hq, cons_app b q 48]
      constructor
      · rintro (⟨h1, rfl⟩ | (h | ⟨h1, h2⟩) | h)
        · exact .inr ⟨.inl ⟨h1, rfl⟩, by rw [← cons_app b q 48]; exact hne q 48⟩
        · exact .inl h
        · exact .inr ⟨.inr (.inl h1), h2⟩
        · exact .inr ⟨.inr (.inr h), by rw [← cons_app b q 48]; exact off1 h⟩
      · rintro (h | ⟨⟨h1, h2⟩ | h | h, hn⟩)
        · exact .inr (.inl (.inl h))
        · exact .inl ⟨h1, h2⟩
        · exact .inr (.inl (.inr ⟨h, hn⟩))
        · exact .inr (.inr h)
    · rw [if_neg (by decide), mem_node, mem_node, mem_put r q v _ x hq, cons_app b q 49]
      constructor
      · rintro (⟨h1, rfl⟩ | h | (h | ⟨h1, h2⟩))
        · exact .inr ⟨.inl ⟨h1, rfl⟩, by rw [← cons_app b q 49]; exact hne q 49⟩
        · exact .inr ⟨.inr (.inl h), by rw [← cons_app b q 49]; exact off0 h⟩
        · exact .inl h
        · exact .inr ⟨.inr (.inr h1), h2⟩
      · rintro (h | ⟨⟨h1, h2⟩ | h | h, hn⟩)
        · exact .inr (.inr (.inl h))
        · exact .inl ⟨h1, h2⟩
        · exact .inr (.inl h)
        · exact .inr (.inr (.inr ⟨h, hn⟩))
theorem bareT_iff (l r : Tr) (s : Bool) (w : Int) : bareT (.node l r s w) = true ↔ s = false ∧ l = .nil ∧ r = .nil := by
  unfold bareT
  cases s <;> cases l <;> cases r <;> simp [Tr.size] <;> omega
theorem mem_mk {l r : Tr} {s : Bool} {w : Int} {b : B8} {x : Rw} : x ∈ rowsT (mkT l r s w) b ↔ x ∈ rowsT (.node l r s w) b := by
  unfold mkT
  split
  · rename_i h
    obtain ⟨rfl, rfl, rfl⟩ := (bareT_iff _ _ _ _).1 h
    simp [rowsT]
  · rfl
theorem mk_ok {l r : Tr} {s : Bool} {w : Int} (hl : l.ok) (hr : r.ok) (hw : s = false → w = 0) : (mkT l r s w).ok := by
  unfold mkT
  split
  · trivial
  · rename_i h
    refine ⟨fun hs => ⟨hw hs, ?_⟩, hl, hr⟩
    subst hs
    cases l with
    | node => exact .inl (by simp only [Tr.size]; omega)
    | nil =>
      cases r with
      | node => exact .inr (by simp only [Tr.size]; omega)
      | nil => exact absurd ((bareT_iff _ _ _ _).2 ⟨rfl, rfl, rfl⟩) h
theorem mk_deep (l r : Tr) (s : Bool) (w : Int) : (mkT l r s w).deep ≤ 1 + max l.deep r.deep := by
  unfold mkT
  split
  · exact Nat.zero_le _
  · exact Nat.le_refl _
theorem rem_ok : ∀ (T : Tr) (q : B8), T.ok → (remT T q).1.ok
  | .nil, q, _ => by cases q <;> trivial
  | .node l r s w, [], h => mk_ok h.2.1 h.2.2 (fun _ => rfl)
  | .node l r s w, c :: q, h => by
    unfold remT
    split
    · exact mk_ok (rem_ok l q h.2.1) h.2.2 (fun hs => (h.1 hs).1)
    · exact mk_ok h.2.1 (rem_ok r q h.2.2) (fun hs => (h.1 hs).1)
theorem rem_deep : ∀ (T : Tr) (q : B8), (remT T q).1.deep ≤ T.deep
  | .nil, q => by cases q <;> exact Nat.le_refl _
  | .node l r s w, [] => mk_deep l r false 0
  | .node l r s w, c :: q => by
    have h1 := rem_deep l q
    have h2 := rem_deep r q
    unfold remT
    split
    · have := mk_deep (remT l q).1 r s w
      simp only [Tr.deep]
      omega
    · have := mk_deep l (remT r q).1 s w
      simp only [Tr.deep]
      omega
theorem mem_rem : ∀ (T : Tr) (q : B8) (b : B8) (x : Rw), bin q → (x ∈ rowsT (remT T q).1 b ↔ x ∈ rowsT T b ∧ x.1 ≠ b ++ q)
  | .nil, q, b, x, _ => by cases q <;> simp [remT, rowsT]
  | .node l r s w, [], b, x, _ => by
    unfold remT
    rw [mem_mk, mem_node, mem_node, List.append_nil]
    constructor
    · rintro (⟨h, -⟩ | h | h)
      · cases h
      · exact ⟨.inr (.inl h), offR h⟩
      · exact ⟨.inr (.inr h), offR h⟩
    · rintro ⟨⟨-, rfl⟩ | h | h, hn⟩
      · exact absurd rfl hn
      · exact .inr (.inl h)
      · exact .inr (.inr h)
  | .node l r s w, c :: q, b, x, hb => by
    have hq : bin q := fun d hd => hb d (List.mem_cons_of_mem _ hd)
    have hne : ∀ q : B8, ∀ c : UInt8, b ≠ b ++ c :: q := fun q c h => by have := congrArg List.length h; simp at this
    unfold remT
    rcases hb c List.mem_cons_self with rfl | rfl
    · rw [if_pos rfl]
      dsimp only
      rw [mem_mk, mem_node, mem_node, mem_rem l q _ x hq, cons_app b q 48]
      constructor
      · rintro (⟨h1, rfl⟩ | ⟨h1, h2⟩ | h)
        · exact ⟨.inl ⟨h1, rfl⟩, by rw [← cons_app b q 48]; exact hne q 48⟩
        · exact ⟨.inr (.inl h1), h2⟩
        · exact ⟨.inr (.inr h), by rw [← cons_app b q 48]; exact off1 h⟩
      · rintro ⟨⟨h1, h2⟩ | h | h, hn⟩
        · exact .inl ⟨h1, h2⟩
        · exact .inr (.inl ⟨h, hn⟩)
        · exact .inr (.inr h)
    · rw [if_neg (by decide)]
      dsimp only
      rw [mem_mk, mem_node, mem_node, mem_rem r q _ x hq, cons_app b q 49]
      constructor
      · rintro (⟨h1, rfl⟩ | h | ⟨h1, h2⟩)
        · exact ⟨.inl ⟨h1, rfl⟩, by rw [← cons_app b q 49]; exact hne q 49⟩
        · exact ⟨.inr (.inl h), by rw [← cons_app b q 49]; exact off0 h⟩
        · exact ⟨.inr (.inr h1), h2⟩
      · rintro ⟨⟨h1, h2⟩ | h | h, hn⟩
        · exact .inl ⟨h1, h2⟩
        · exact .inr (.inl h)
        · exact .inr (.inr ⟨h, hn⟩)
/-- It was there. -/
theorem rem_was : ∀ (T : Tr) (q : B8) (b : B8), bin q → ((remT T q).2 = true ↔ ∃ x ∈ rowsT T b, x.1 = b ++ q)
  | .nil, q, b, _ => by cases q <;> simp [remT, rowsT]
  | .node l r s w, [], b, _ => by
    unfold remT
    rw [List.append_nil]
    constructor
    · intro h
      exact ⟨(b, w), mem_node.2 (.inl ⟨h, rfl⟩), rfl⟩
    · rintro ⟨x, hx, e⟩
      rcases mem_node.1 hx with ⟨h, -⟩ | h | h
      · exact h
      · exact absurd e (offR h)
      · exact absurd e (offR h)
  | .node l r s w, c :: q, b, hb => by
    have hq : bin q := fun d hd => hb d (List.mem_cons_of_mem _ hd)
    have hne : ∀ q : B8, ∀ c : UInt8, b ≠ b ++ c :: q := fun q c h => by have := congrArg List.length h; simp at this
    unfold remT
    rcases hb c List.mem_cons_self with rfl | rfl
    · rw [if_pos rfl]
      dsimp only
      rw [rem_was l q (b ++ [48]) hq, ← cons_app b q 48]
      constructor
      · rintro ⟨x, hx, e⟩
        exact ⟨x, mem_node.2 (.inr (.inl hx)), e⟩
      · rintro ⟨x, hx, e⟩
        rcases mem_node.1 hx with ⟨-, rfl⟩ | h | h
        · exact absurd e (hne q 48)
        · exact ⟨x, h, e⟩
        · exact absurd e (off1 h)
    · rw [if_neg (by decide)]
      dsimp only
      rw [rem_was r q (b ++ [49]) hq, ← cons_app b q 49]
      constructor
      · rintro ⟨x, hx, e⟩
        exact ⟨x, mem_node.2 (.inr (.inr hx)), e⟩
      · rintro ⟨x, hx, e⟩
        rcases mem_node.1 hx with ⟨-, rfl⟩ | h | h
        · exact absurd e (hne q 49)
        · exact absurd e (off0 h)
        · exact ⟨x, h, e⟩
end Go.Proofs.Ytlfbjdafnappdaa
