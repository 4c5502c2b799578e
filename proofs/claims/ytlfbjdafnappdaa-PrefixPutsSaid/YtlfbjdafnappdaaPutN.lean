/-
  Tries in plain words: what Put and Remove answer is what the rows make.
-/
import Derived.Test.YtlfbjdafnappdaaPutK
namespace Go.Proofs.Ytlfbjdafnappdaa
set_option linter.unusedVariables false
set_option linter.unusedSimpArgs false
theorem trieG_mem {T : Tr} {X : List Rw} (ho : T.ok) (hr : rwOk 33 X) (hX : ∀ x, x ∈ X ↔ x ∈ rowsT T []) : trieG X = lay T 0 := by
  have hA := paths_sorted (build 33 X) []
  have hm : ∀ p, p ∈ paths (build 33 X) [] ↔ p ∈ prefs X := fun p => by
    rw [mem_prefs, mem_paths, ← build_sub p 33 _ hr]
    exact ⟨fun ⟨q, hq, h⟩ => by rw [hq]; exact h, fun h => ⟨p, rfl, h⟩⟩
  rw [← trieA_is hr hA hm]
  refine trie_of T _ _ hA hm (fun p l r s v h => ?_) (fun p => ⟨fun h => ?_, ?_⟩)
  · have hall : ∀ x ∈ X, x.1 = p → s = true ∧ x.2 = v := fun x hx hp => by
      obtain ⟨q, l', r', e, h'⟩ := (mem_rowsT T [] x).1 ((hX x).1 hx)
      rw [List.nil_append] at e
      rw [← e, hp, h] at h'
      injection h' with _ _ h3 h4
      exact ⟨h3, h4.symm⟩
    have hl := lastV_all p v X 0 (fun x hx hp => (hall x hx hp).2)
    cases s with
    | true =>
      have : anyV X p = true := (anyV_iff _ _).2 ⟨(p, v), (hX _).2 ((mem_rowsT T [] (p, v)).2 ⟨p, l, r, rfl, h⟩), rfl⟩
      refine ⟨this, ?_⟩
      unfold lastV
      rw [hl, if_pos this]
    | false =>
      have : ¬ anyV X p = true := fun h' => by
        obtain ⟨x, hx, hp⟩ := (anyV_iff _ _).1 h'
        exact absurd (hall x hx hp).1 (by decide)
      refine ⟨by simpa using this, ?_⟩
      unfold lastV
      rw [hl, if_neg this]
      have := (sub_ok p T ho)
      rw [h] at this
      exact (this.1 rfl).1.symm
  · obtain ⟨q, l, r, v, hq⟩ := some_set _ (sub_ok p T ho) h
    rw [← sub_app] at hq
    exact ⟨(p ++ q, v), (hX _).2 ((mem_rowsT T [] _).2 ⟨p ++ q, l, r, rfl, hq⟩), q, rfl⟩
  · rintro ⟨x, hx, q, hq⟩
    obtain ⟨q', l, r, e, h'⟩ := (mem_rowsT T [] x).1 ((hX x).1 hx)
    rw [List.nil_append] at e
    rw [← e, hq, sub_app] at h'
    cases hs : sub T p with
    | nil => rw [hs, sub_0] at h'; cases h'
    | node l r s v => simp only [Tr.size]; omega
theorem bin_bits (a n : Nat) : bin (bitsL a n) := fun c hc => by
  obtain ⟨i, -, rfl⟩ := List.mem_map.1 hc
  rcases Nat.mod_two_eq_zero_or_one (a / 2 ^ (31 - i)) with h | h
  · rw [h]; exact .inl rfl
  · rw [h]; exact .inr rfl
/-- The rows without those of one beginning. -/
def dropR (q : B8) (X : List Rw) : List Rw := X.filter (fun x => !decide (x.1 = q))
theorem mem_dropR {q : B8} {X : List Rw} {x : Rw} : x ∈ dropR q X ↔ x ∈ X ∧ x.1 ≠ q := by
  unfold dropR
  rw [List.mem_filter]
  simp
theorem rwOk_drop {q : B8} {X : List Rw} (h : rwOk 33 X) : rwOk 33 (dropR q X) := fun x hx => h x (mem_dropR.1 hx).1
theorem rwOk_put {q : B8} {v : Int} {X : List Rw} (h : rwOk 33 X) (hb : bin q) (hl : q.length ≤ 32) : rwOk 33 (dropR q X ++ [(q, v)]) := fun x hx => by
  rcases List.mem_append.1 hx with hx | hx
  · exact rwOk_drop h x hx
  · rw [List.mem_singleton.1 hx]
    exact ⟨hb, Nat.lt_succ_of_le hl⟩
theorem put_law {T : Tr} {q : B8} {v : Int} (ho : T.ok) (hr : rwOk 33 (rowsT T [])) (hb : bin q) (hl : q.length ≤ 32) : trieG (dropR q (rowsT T []) ++ [(q, v)]) = lay (putT T q v) 0 :=
  trieG_mem (put_ok T q v ho) (rwOk_put hr hb hl) fun x => by
    rw [List.mem_append, mem_dropR, mem_put T q v [] x hb, List.mem_singleton, List.nil_append]
    exact or_comm
theorem rem_law {T : Tr} {q : B8} (ho : T.ok) (hr : rwOk 33 (rowsT T [])) (hb : bin q) : trieG (dropR q (rowsT T [])) = lay (remT T q).1 0 :=
  trieG_mem (rem_ok T q ho) (rwOk_drop hr) fun x => by
    rw [mem_dropR, mem_rem T q [] x hb, List.nil_append]
theorem rem_lt {T : Tr} {q : B8} (hb : bin q) : (dropR q (rowsT T [])).length < (rowsT T []).length ↔ (remT T q).2 = true := by
  rw [rem_was T q [] hb]
  unfold dropR
  rw [List.length_filter_lt_length_iff_exists]
  simp
theorem drop_le (q : B8) (X : List Rw) : (dropR q X).length ≤ X.length := List.length_filter_le _ _
end Go.Proofs.Ytlfbjdafnappdaa
