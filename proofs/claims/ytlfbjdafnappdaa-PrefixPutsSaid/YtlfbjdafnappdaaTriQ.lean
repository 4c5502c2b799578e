/-
  Tries in plain words: the rows that a trie holds, and the trie that rows make.
-/
import Derived.Test.YtlfbjdafnappdaaTriP
namespace Go.Proofs.Ytlfbjdafnappdaa
set_option linter.unusedVariables false
set_option linter.unusedSimpArgs false
abbrev Rw := B8 × Int
def rowsT : Tr → B8 → List Rw
  | .nil, _ => []
  | .node l r s v, b => (if s = true then [(b, v)] else []) ++ (rowsT l (b ++ [48]) ++ rowsT r (b ++ [49]))
def inB (n : Int) (L : List Nd) : Bool := decide (0 ≤ n ∧ n ≤ (L.length : Int) - 1)
/-- The reference's visit of a trie: what is still to be seen, what was found. -/
def todoN (x : Nd) (b : B8) (r : List (Nat × B8)) : List (Nat × B8) := (if 0 < x.a then [(x.a.toNat, b ++ [48])] else []) ++ ((if 0 < x.b then [(x.b.toNat, b ++ [49])] else []) ++ r)
def outN (x : Nd) (b : B8) (out : List Rw) : List Rw := out ++ if x.s = true then [(b, x.v)] else []
def rowsG (L : List Nd) : Nat → List (Nat × B8) → List Rw → Option (List Rw)
  | _, [], out => some out
  | 0, _ :: _, _ => none
  | f + 1, (i, b) :: r, out =>
    if 32 < b.length then none else
    if inB (L.getD i nd0).b L = true ∧ inB (L.getD i nd0).a L = true then rowsG L f (todoN (L.getD i nd0) b r) (outN (L.getD i nd0) b out) else none
theorem rowsG_nil (L : List Nd) (f : Nat) (out : List Rw) : rowsG L f [] out = some out := by cases f <;> rfl
theorem rowsG_succ (L : List Nd) (f i : Nat) (b : B8) (r : List (Nat × B8)) (out : List Rw) : rowsG L (f + 1) ((i, b) :: r) out = if 32 < b.length then none else
    if inB (L.getD i nd0).b L = true ∧ inB (L.getD i nd0).a L = true then rowsG L f (todoN (L.getD i nd0) b r) (outN (L.getD i nd0) b out) else none := rfl
theorem rows_lay (L : List Nd) : ∀ (T : Tr) (i : Nat) (b : B8) (f : Nat) (r : List (Nat × B8)) (out : List Rw), 0 < T.size → win L i (lay T i) → b.length + T.deep ≤ 33 → rowsG L (f + T.size) ((i, b) :: r) out = rowsG L f r (out ++ rowsT T b)
  | .nil, i, b, f, r, out, h, _, _ => absurd h (Nat.lt_irrefl _)
  | .node l q s v, i, b, f, r, out, h, hw, hd => by
    have hx := getD_of (win_head hw)
    have ht := win_tail hw
    have h1 := win_left ht
    have h2 := win_right ht
    rw [lay_len] at h2
    simp only [Tr.deep] at hd
    have hb : ¬ 32 < b.length := by omega
    have hi : i < L.length := (List.getElem?_eq_some_iff.1 (win_head hw)).1
    have hl1 : 0 < l.size → i + 1 < L.length := fun hl => by
      have := h1 0 ((lay l (i + 1))[0]'(by rw [lay_len]; omega)) (List.getElem?_eq_getElem _)
      exact (List.getElem?_eq_some_iff.1 this).1
    have hl2 : 0 < q.size → i + 1 + l.size < L.length := fun hl => by
      have := h2 0 ((lay q (i + 1 + l.size))[0]'(by rw [lay_len]; omega)) (List.getElem?_eq_getElem _)
      exact (List.getElem?_eq_some_iff.1 this).1
    have hs : f + Tr.size (.node l q s v) = (f + q.size + l.size) + 1 := by simp only [Tr.size]; omega
    rw [hs, rowsG_succ, hx, if_neg hb, if_pos]
    · unfold todoN outN
      dsimp only
      have e : out ++ rowsT (.node l q s v) b = ((out ++ if s = true then [(b, v)] else []) ++ rowsT l (b ++ [48])) ++ rowsT q (b ++ [49]) := by simp only [rowsT, List.append_assoc]
      rw [e]
      generalize (out ++ if s = true then [(b, v)] else []) = out'
      have hq : ∀ out'', rowsG L (f + q.size) ((if 0 < (if q.size = 0 then (0 : Int) else ((i + 1 + l.size : Nat) : Int)) then [((if q.size = 0 then (0 : Int) else ((i + 1 + l.size : Nat) : Int)).toNat, b ++ [49])] else []) ++ r) out'' = rowsG L f r (out'' ++ rowsT q (b ++ [49])) := by
        intro out''
        by_cases hq : q.size = 0
        · rw [if_pos hq, if_neg (by omega), size_0 hq]
          simp [Tr.size, rowsT]
        · rw [if_neg hq, if_pos (by omega)]
          exact rows_lay L q (i + 1 + l.size) (b ++ [49]) f r out'' (by omega) h2 (by simp; omega)
      by_cases hl : l.size = 0
      · rw [if_pos hl, if_neg (by omega), List.nil_append, hl, Nat.add_zero]
        rw [hl] at hq
        rw [Nat.add_zero] at hq
        rw [hq, size_0 hl]
        simp [rowsT]
      · rw [if_neg hl, if_pos (by omega)]
        have := rows_lay L l (i + 1) (b ++ [48]) (f + q.size) ((if 0 < (if q.size = 0 then (0 : Int) else ((i + 1 + l.size : Nat) : Int)) then [((if q.size = 0 then (0 : Int) else ((i + 1 + l.size : Nat) : Int)).toNat, b ++ [49])] else []) ++ r) out' (by omega) h1 (by simp; omega)
        rw [hq] at this
        rw [List.append_assoc] at this
        rw [List.append_assoc]
        exact this
    · unfold inB
      refine ⟨decide_eq_true ?_, decide_eq_true ?_⟩
      · dsimp only
        by_cases hq : q.size = 0
        · rw [if_pos hq]; omega
        · rw [if_neg hq]; have := hl2 (by omega); omega
      · dsimp only
        by_cases hq : l.size = 0
        · rw [if_pos hq]; omega
        · rw [if_neg hq]; have := hl1 (by omega); omega
/-- Bits are 0 or 1. -/
def bin (b : B8) : Prop := ∀ c ∈ b, c = 48 ∨ c = 49
theorem rows_inv (L : List Nd) : ∀ (f : Nat) (st : List (Nat × B8)) (out res : List Rw), (∀ x ∈ st, bin x.2) → (∀ x ∈ out, bin x.1 ∧ x.1.length ≤ 32) → rowsG L f st out = some res → ∀ x ∈ res, bin x.1 ∧ x.1.length ≤ 32
  | f, [], out, res, h1, h2, h => by
    rw [rowsG_nil] at h
    obtain rfl := Option.some.inj h
    exact h2
  | 0, _ :: _, out, res, h1, h2, h => by
    unfold rowsG at h
    simp at h
  | f + 1, (i, b) :: r, out, res, h1, h2, h => by
    unfold rowsG at h
    by_cases hb : 32 < b.length
    · rw [if_pos hb] at h
      simp at h
    · rw [if_neg hb] at h
      split at h
      · have hbb : bin b := h1 (i, b) List.mem_cons_self
        have happ : ∀ c : UInt8, c = 48 ∨ c = 49 → bin (b ++ [c]) := fun c hc d hd => by
          rcases List.mem_append.1 hd with hd | hd
          · exact hbb d hd
          · rw [List.mem_singleton.1 hd]; exact hc
        refine rows_inv L f _ _ res (fun x hx => ?_) (fun x hx => ?_) h
        · unfold todoN at hx
          rcases List.mem_append.1 hx with hx | hx
          · split at hx
            · rw [List.mem_singleton.1 hx]; exact happ 48 (.inl rfl)
            · simp at hx
          · rcases List.mem_append.1 hx with hx | hx
            · split at hx
              · rw [List.mem_singleton.1 hx]; exact happ 49 (.inr rfl)
              · simp at hx
            · exact h1 x (List.mem_cons_of_mem _ hx)
        · unfold outN at hx
          rcases List.mem_append.1 hx with hx | hx
          · exact h2 x hx
          · split at hx
            · rw [List.mem_singleton.1 hx]; exact ⟨hbb, by show b.length ≤ 32; omega⟩
            · simp at hx
      · simp at h
/-- What lies under a path. -/
def sub : Tr → B8 → Tr
  | T, [] => T
  | .nil, _ :: _ => .nil
  | .node l r _ _, c :: q => if c = 48 then sub l q else if c = 49 then sub r q else .nil
theorem sub_nil (T : Tr) : sub T [] = T := by cases T <;> rfl
theorem sub_0 (q : B8) : sub .nil q = .nil := by cases q <;> rfl
theorem sub_app : ∀ (p : B8) (T : Tr) (q : B8), sub T (p ++ q) = sub (sub T p) q
  | [], T, q => by rw [sub_nil, List.nil_append]
  | c :: p, .nil, q => by rw [sub_0, sub_0, sub_0]
  | c :: p, .node l r s v, q => by
    show (if c = 48 then sub l (p ++ q) else if c = 49 then sub r (p ++ q) else .nil) = sub (if c = 48 then sub l p else if c = 49 then sub r p else .nil) q
    by_cases h1 : c = 48
    · rw [if_pos h1, if_pos h1, sub_app p]
    · rw [if_neg h1, if_neg h1]
      by_cases h2 : c = 49
      · rw [if_pos h2, if_pos h2, sub_app p]
      · rw [if_neg h2, if_neg h2, sub_0]
def paths : Tr → B8 → List B8
  | .nil, _ => []
  | .node l r _ _, b => b :: (paths l (b ++ [48]) ++ paths r (b ++ [49]))
theorem paths_len : ∀ (T : Tr) (b : B8), (paths T b).length = T.size
  | .nil, _ => rfl
  | .node l r s v, b => by simp [paths, Tr.size, paths_len l, paths_len r]; omega
theorem mem_paths : ∀ (T : Tr) (b p : B8), p ∈ paths T b ↔ ∃ q, p = b ++ q ∧ 0 < (sub T q).size
  | .nil, b, p => by
    simp only [paths, List.not_mem_nil, false_iff]
    rintro ⟨q, -, h⟩
    rw [sub_0] at h
    exact absurd h (Nat.lt_irrefl _)
  | .node l r s v, b, p => by
    simp only [paths, List.mem_cons, List.mem_append, mem_paths l, mem_paths r]
    constructor
    · rintro (rfl | ⟨q, rfl, h⟩ | ⟨q, rfl, h⟩)
      · exact ⟨[], by simp, by rw [sub_nil]; simp only [Tr.size]; omega⟩
      · exact ⟨48 :: q, by simp, h⟩
      · exact ⟨49 :: q, by simp, h⟩
    · rintro ⟨q, rfl, h⟩
      match q, h with
      | [], _ => exact .inl (by simp)
      | c :: q, h =>
        have h : 0 < (if c = 48 then sub l q else if c = 49 then sub r q else Tr.nil).size := h
        by_cases h1 : c = 48
        · rw [if_pos h1] at h; subst h1; exact .inr (.inl ⟨q, by simp, h⟩)
        · rw [if_neg h1] at h
          by_cases h2 : c = 49
          · rw [if_pos h2] at h; subst h2; exact .inr (.inr ⟨q, by simp, h⟩)
          · rw [if_neg h2] at h; exact absurd h (Nat.lt_irrefl _)
theorem lt_app (b : B8) (c : UInt8) (q : B8) : b < b ++ c :: q := by
  induction b with
  | nil => exact List.Lex.nil
  | cons x b ih => exact List.Lex.cons ih
theorem lt_01 (b q q' : B8) : b ++ 48 :: q < b ++ 49 :: q' := by
  induction b with
  | nil => exact List.Lex.rel (by decide)
  | cons x b ih => exact List.Lex.cons ih
theorem paths_sorted : ∀ (T : Tr) (b : B8), (paths T b).Pairwise (· < ·)
  | .nil, b => List.Pairwise.nil
  | .node l r s v, b => by
    refine List.pairwise_cons.2 ⟨fun p hp => ?_, List.pairwise_append.2 ⟨paths_sorted l _, paths_sorted r _, fun x hx y hy => ?_⟩⟩
    · rcases List.mem_append.1 hp with hp | hp
      · obtain ⟨q, rfl, -⟩ := (mem_paths _ _ _).1 hp
        rw [List.append_assoc]; exact lt_app _ _ _
      · obtain ⟨q, rfl, -⟩ := (mem_paths _ _ _).1 hp
        rw [List.append_assoc]; exact lt_app _ _ _
    · obtain ⟨q, rfl, -⟩ := (mem_paths _ _ _).1 hx
      obtain ⟨q', rfl, -⟩ := (mem_paths _ _ _).1 hy
      rw [List.append_assoc, List.append_assoc]
      exact lt_01 _ _ _
theorem lt_irr (a : B8) : ¬ a < a := List.lt_irrefl a
/-- Two sorted lists of the same members are one. -/
theorem sorted_eq : ∀ (A B : List B8), A.Pairwise (· < ·) → B.Pairwise (· < ·) → (∀ p, p ∈ A ↔ p ∈ B) → A = B
  | [], [], _, _, _ => rfl
  | [], b :: B, _, _, h => absurd ((h b).2 List.mem_cons_self) (by simp)
  | a :: A, [], _, _, h => absurd ((h a).1 List.mem_cons_self) (by simp)
  | a :: A, b :: B, hA, hB, h => by
    obtain ⟨ha, hA'⟩ := List.pairwise_cons.1 hA
    obtain ⟨hb, hB'⟩ := List.pairwise_cons.1 hB
    have e : a = b := by
      rcases List.mem_cons.1 ((h a).1 List.mem_cons_self) with q | q
      · exact q
      · rcases List.mem_cons.1 ((h b).2 List.mem_cons_self) with q' | q'
        · exact q'.symm
        · exact absurd (List.lt_trans (hb a q) (ha b q')) (lt_irr _)
    subst e
    refine congrArg _ (sorted_eq A B hA' hB' fun p => ⟨fun hp => ?_, fun hp => ?_⟩)
    · rcases List.mem_cons.1 ((h p).1 (List.mem_cons_of_mem _ hp)) with q | q
      · subst q; exact absurd (ha _ hp) (lt_irr _)
      · exact q
    · rcases List.mem_cons.1 ((h p).2 (List.mem_cons_of_mem _ hp)) with q | q
      · subst q; exact absurd (hb _ hp) (lt_irr _)
      · exact q
end Go.Proofs.Ytlfbjdafnappdaa
