/-
  A text cut at a byte: no program in sight.
-/
import Derived.Lib.SplitLaws
namespace Go.Proofs.YtbcamncabckbnaaGreatDoor
open Go
set_option linter.unusedVariables false
set_option linter.unusedSimpArgs false
/-- A text cut at all places of a byte. -/
def spl (c : UInt8) : List UInt8 → List (List UInt8)
  | [] => [[]]
  | b :: l => if b = c then [] :: spl c l else match spl c l with
    | p :: ps => (b :: p) :: ps
    | [] => [[b]]
theorem spl_ne (c : UInt8) : ∀ s, spl c s ≠ []
  | [] => by simp [spl]
  | b :: l => by
    unfold spl
    split
    · simp
    · split <;> simp
theorem spl_eq (c : UInt8) (l : List UInt8) : spl c (c :: l) = [] :: spl c l := by rw [spl, if_pos rfl]
theorem spl_cons {b c : UInt8} (h : b ≠ c) {l p : List UInt8} {ps : List (List UInt8)} (hq : spl c l = p :: ps) : spl c (b :: l) = (b :: p) :: ps := by rw [spl, if_neg h, hq]
theorem split_spl (c : UInt8) : ∀ s : List UInt8, Lib.splitK [c] 0 (Lib.count s [c]) s = spl c s
  | [] => by
    rw [Lib.count_one]
    rfl
  | b :: l => by
    have ih := split_spl c l
    by_cases h : b = c
    · subst h
      have hix : Lib.index (b :: l) [b] = 0 := by rw [Lib.index]; simp [List.isPrefixOf]
      rw [Lib.count_cons_eq, Nat.add_comm, Lib.splitK, hix, spl_eq, ← ih]
      rfl
    · have hp : ([c] : List UInt8).isPrefixOf (b :: l) = false := by simp [List.isPrefixOf, Ne.symm h]
      have hix : Lib.index (b :: l) [c] = if Lib.index l [c] == -1 then -1 else Lib.index l [c] + 1 := by rw [Lib.index, hp]; simp
      rw [Lib.count_cons_ne b c l h]
      cases hk : Lib.count l [c] with
      | zero =>
        rw [hk] at ih
        exact (spl_cons h ih.symm).symm
      | succ k =>
        rw [hk, Lib.splitK] at ih
        have hm : ¬ (Lib.index l [c] == -1) = true := fun e => by
          rw [Lib.count_miss (beq_iff_eq.1 e)] at hk
          cases hk
        rw [if_neg hm] at ih
        have hge := Lib.index_ge l [c]
        have hne : ¬ Lib.index l [c] = -1 := fun e => hm (beq_iff_eq.2 e)
        rw [Lib.splitK, hix, if_neg hm, if_neg (fun e => by have := beq_iff_eq.1 e; omega)]
        rw [show (Lib.index l [c] + 1).toNat = (Lib.index l [c]).toNat + 1 by omega]
        refine Eq.trans ?_ (spl_cons h ih.symm).symm
        simp
/-- The first piece, and what is behind it. -/
theorem spl_inv {c : UInt8} : ∀ {s p : List UInt8} {ps : List (List UInt8)}, spl c s = p :: ps → c ∉ p ∧ ((ps = [] ∧ s = p) ∨ ∃ r, s = p ++ c :: r ∧ spl c r = ps)
  | [], p, ps, h => by
    simp [spl] at h
    obtain ⟨rfl, rfl⟩ := h
    exact ⟨by simp, .inl ⟨rfl, rfl⟩⟩
  | b :: l, p, ps, h => by
    by_cases hb : b = c
    · subst hb
      rw [spl_eq] at h
      obtain ⟨rfl, rfl⟩ := List.cons.inj h
      exact ⟨by simp, .inr ⟨l, rfl, rfl⟩⟩
    · cases hq : spl c l with
      | nil => exact absurd hq (spl_ne c l)
      | cons p' ps' =>
        rw [spl_cons hb hq] at h
        obtain ⟨rfl, rfl⟩ := List.cons.inj h
        obtain ⟨h1, h2⟩ := spl_inv hq
        refine ⟨by simp [h1, Ne.symm hb], ?_⟩
        rcases h2 with ⟨rfl, rfl⟩ | ⟨r, rfl, h3⟩
        · exact .inl ⟨rfl, rfl⟩
        · exact .inr ⟨r, rfl, h3⟩
theorem spl_app {c : UInt8} : ∀ {p : List UInt8} (r : List UInt8), c ∉ p → spl c (p ++ c :: r) = p :: spl c r
  | [], r, _ => spl_eq c r
  | b :: p, r, h => by
    have hb : b ≠ c := fun e => h (by simp [e])
    exact spl_cons hb (spl_app r (fun q => h (by simp [q])))
theorem spl_one {c : UInt8} : ∀ {p : List UInt8}, c ∉ p → spl c p = [p]
  | [], _ => rfl
  | b :: p, h => by
    have hb : b ≠ c := fun e => h (by simp [e])
    exact spl_cons hb (spl_one (fun q => h (by simp [q])))
end Go.Proofs.YtbcamncabckbnaaGreatDoor
