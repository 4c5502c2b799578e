/-
  Maps that count: what such a map holds after a list of things was counted in it.
-/
import Derived.Test.YtecnjhmpipfldaaGen
namespace Go.Proofs.Ytecnjhmpipfldaa
set_option linter.unusedVariables false
set_option linter.unusedSimpArgs false
/-- One more of a. -/
def incM {α : Type} (key : α → Value) (r : List (List DV)) (a : α) : List (List DV) :=
  mlay r (key a) (.int .i64 (match mfind r (key a) with | some (.int _ n) => n + 1 | _ => 1))
def cntM {α : Type} (key : α → Value) (l : List α) : List (List DV) := l.foldl (incM key) []
section
variable {α : Type} [DecidableEq α] {kt : KT} {key : α → Value} (hk : ∀ a, keyOk kt (key a) = true) (hinj : ∀ a b, key a = key b → a = b)
include hk in
omit [DecidableEq α] in
theorem inc_rows (r : List (List DV)) (a : α) (h : ∀ x ∈ r, ∃ a b, x = [.v a, .v b] ∧ keyOk kt a = true) : ∀ x ∈ incM key r a, ∃ a b, x = [.v a, .v b] ∧ keyOk kt a = true :=
  mlay_rows (p := fun a => keyOk kt a = true) (hk a) r h
include hk hinj in
theorem inc_at (f : α → Nat) : ∀ (l : List α) (r : List (List DV)) (f : α → Nat), (∀ x ∈ r, ∃ a b, x = [.v a, .v b] ∧ keyOk kt a = true) → (∀ b, mfind r (key b) = if f b = 0 then none else some (.int .i64 (f b : Nat))) →
    ∀ b, mfind (l.foldl (incM key) r) (key b) = if f b + l.count b = 0 then none else some (.int .i64 ((f b + l.count b : Nat) : Int))
  | [], r, f, _, h, b => by
    simp only [List.foldl_nil, List.count_nil, Nat.add_zero]
    exact h b
  | a :: l, r, f, hr, h, b => by
    have ih := inc_at f l (incM key r a) (fun b => f b + if a = b then 1 else 0) (inc_rows hk r a hr) (fun b => ?_) b
    · rw [List.foldl_cons, ih, List.count_cons]
      have e : (if (a == b) = true then 1 else 0) = (if a = b then 1 else 0 : Nat) := by
        by_cases q : a = b <;> simp [q]
      rw [e]
      have e2 : f b + (if a = b then 1 else 0) + l.count b = f b + (l.count b + (if a = b then 1 else 0)) := by omega
      rw [e2]
    · unfold incM
      rw [mfind_mlay (hk a) (hk b) r hr, h a]
      by_cases q : a = b
      · subst q
        rw [keyEq_refl (hk a)]
        simp only [if_true]
        by_cases q0 : f a = 0
        · simp [q0]
        · simp [q0]
      · have hne : ¬ keyEq (key b) (key a) = true := fun e => q (hinj _ _ (keyEq_eq (hk b) (hk a) e)).symm
        simp only [hne, q, h b, Nat.add_zero, if_false]
        rfl
include hk hinj in
theorem cnt_find (l : List α) (a : α) : mfind (cntM key l) (key a) = if l.count a = 0 then none else some (.int .i64 (l.count a : Nat)) := by
  have := inc_at hk hinj (fun _ => 0) l [] (fun _ => 0) (fun x hx => by simp at hx) (fun b => by simp [mfind]) a
  simpa [cntM] using this
include hk hinj in
theorem cnt_get (l : List α) (a : α) : (mfind (cntM key l) (key a)).getD (.int .i64 0) = .int .i64 (l.count a : Nat) := by
  rw [cnt_find hk hinj]
  by_cases h : l.count a = 0
  · rw [if_pos h, h]; rfl
  · rw [if_neg h]; rfl
include hk hinj in
theorem cnt_snoc (l : List α) (a : α) : mlay (cntM key l) (key a) (.int .i64 ((l.count a : Nat) + 1)) = cntM key (l ++ [a]) := by
  have e : cntM key (l ++ [a]) = incM key (cntM key l) a := by unfold cntM; rw [List.foldl_append]; rfl
  rw [e]
  unfold incM
  rw [cnt_find hk hinj]
  by_cases h : l.count a = 0
  · rw [if_pos h, h]; rfl
  · rw [if_neg h]
end
end Go.Proofs.Ytecnjhmpipfldaa
