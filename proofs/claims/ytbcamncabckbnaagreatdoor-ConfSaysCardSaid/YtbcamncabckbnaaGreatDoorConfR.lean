/-
  All lines of a plan, words that were had; no program in sight.
-/
import Derived.Test.YtbcamncabckbnaaGreatDoorConfQ
namespace Go.Proofs.YtbcamncabckbnaaGreatDoor
open Go
set_option linter.unusedVariables false
set_option linter.unusedSimpArgs false
/-- Words of a line. -/
def wordsL (l : W8) : List W8 := (spl 32 l).filter (fun w => decide (¬ w = []))
/-- All lines: what comes of them; a fault: its line's number, and which. -/
def goP : Nat → Pl → List W8 → List W8 → Pl × List W8 ⊕ Int × Int
  | _, p, had, [] => .inl (p, had)
  | i, p, had, l :: ls => match wordsL l with
    | [] => goP (i + 1) p had ls
    | w0 :: r =>
      if w0.head? = some 35 then goP (i + 1) p had ls
      else if badL (lineB p w0 (r, false)).2 = true then .inr ((i : Int) + 1, 10)
      else if w0 = wPass ∨ w0 = wDrop then goP (i + 1) (lineB p w0 (r, false)).1 had ls
      else if w0 ∈ had then .inr ((i : Int) + 1, 8)
      else goP (i + 1) (lineB p w0 (r, false)).1 (had ++ [w0]) ls
theorem goP_empty (i : Nat) (p : Pl) (had : List W8) : goP i p had [[]] = .inl (p, had) := by
  have : wordsL [] = [] := by decide
  unfold goP
  rw [this]
  rfl
theorem goP_skip0 {i : Nat} {p : Pl} {had : List W8} {l : W8} {ls : List W8} (h : wordsL l = []) : goP i p had (l :: ls) = goP (i + 1) p had ls := by
  rw [goP, h]
theorem goP_cons {i : Nat} {p : Pl} {had : List W8} {l : W8} {ls : List W8} {w0 : W8} {r : List W8} (h : wordsL l = w0 :: r) : goP i p had (l :: ls) = if w0.head? = some 35 then goP (i + 1) p had ls
      else if badL (lineB p w0 (r, false)).2 = true then .inr ((i : Int) + 1, 10)
      else if w0 = wPass ∨ w0 = wDrop then goP (i + 1) (lineB p w0 (r, false)).1 had ls
      else if w0 ∈ had then .inr ((i : Int) + 1, 8)
      else goP (i + 1) (lineB p w0 (r, false)).1 (had ++ [w0]) ls := by
  rw [goP, h]
theorem wordsL_mem {l w : W8} (h : w ∈ wordsL l) : w ≠ [] ∧ 32 ∉ w := by
  unfold wordsL at h
  rw [List.mem_filter] at h
  refine ⟨by simpa using h.2, ?_⟩
  have : ∀ (l : W8), w ∈ spl 32 l → (32 : UInt8) ∉ w := fun l => by
    induction l with
    | nil =>
      intro h
      simp [spl] at h
      subst h
      simp
    | cons b l ih =>
      intro h
      by_cases hb : b = 32
      · subst hb
        rw [spl_eq] at h
        rcases List.mem_cons.1 h with rfl | h
        · simp
        · exact ih h
      · cases hq : spl 32 l with
        | nil => exact absurd hq (spl_ne 32 l)
        | cons p ps =>
          rw [spl_cons hb hq] at h
          rw [hq] at ih
          have hp := (spl_inv hq).1
          rcases List.mem_cons.1 h with rfl | h
          · simp [hp, Ne.symm hb]
          · exact ih (List.mem_cons_of_mem _ h)
  exact this l h.1
/-- The five words that are to be had. -/
def five5 : List W8 := [wOut, wPorts, wLife, wRate, wElse]
theorem shape_five {w0 : W8} (h : (shapeR w0).2 = true) (hp : ¬ (w0 = wPass ∨ w0 = wDrop)) : w0 ∈ five5 := by
  unfold shapeR at h
  unfold five5
  by_cases h1 : w0 = wOut
  · simp [h1]
  rw [if_neg h1] at h
  by_cases h2 : w0 = wPorts ∨ w0 = wRate
  · rcases h2 with h2 | h2 <;> simp [h2]
  rw [if_neg h2] at h
  by_cases h3 : w0 = wLife
  · simp [h3]
  rw [if_neg h3] at h
  by_cases h4 : w0 = wElse
  · simp [h4]
  rw [if_neg h4, if_neg hp] at h
  cases h
/-- The words that were had, as the reference writes them: each with a blank behind it. -/
def hadT (H : List W8) : W8 := (H.map (fun w => w ++ [32])).flatten
theorem hadT_snoc (H : List W8) (w : W8) : hadT (H ++ [w]) = hadT H ++ w ++ [32] := by simp [hadT]
theorem no32 : ∀ w ∈ five5, (32 : UInt8) ∉ w := by decide
theorem spl_hadT : ∀ (H : List W8), (∀ w ∈ H, w ∈ five5) → spl 32 (hadT H) = H ++ [[]]
  | [], _ => rfl
  | w :: H, h => by
    have e : hadT (w :: H) = w ++ 32 :: hadT H := by simp [hadT]
    rw [e, spl_app _ (no32 w (h w (by simp))), spl_hadT H (fun x hx => h x (by simp [hx]))]
    rfl
theorem spl_mid {w : W8} (h : (32 : UInt8) ∉ w) : ∀ (pre post : W8), ∃ q Q, spl 32 (pre ++ w ++ 32 :: post) = Q ++ (q ++ w) :: spl 32 post
  | [], post => ⟨[], [], by simp [spl_app _ h]⟩
  | b :: pre, post => by
    obtain ⟨q, Q, e⟩ := spl_mid h pre post
    by_cases hb : b = 32
    · subst hb
      refine ⟨q, [] :: Q, ?_⟩
      show spl 32 (32 :: (pre ++ w ++ 32 :: post)) = _
      rw [spl_eq, e]
      rfl
    · cases Q with
      | nil =>
        refine ⟨b :: q, [], ?_⟩
        show spl 32 (b :: (pre ++ w ++ 32 :: post)) = _
        exact spl_cons hb e
      | cons y Q =>
        refine ⟨q, (b :: y) :: Q, ?_⟩
        show spl 32 (b :: (pre ++ w ++ 32 :: post)) = _
        exact spl_cons hb e
theorem suff_five : ∀ x ∈ five5, ∀ w ∈ five5, w <:+ x → w = x := by decide
/-- Does the reference find a word? -/
theorem hadT_has {H : List W8} (hH : ∀ w ∈ H, w ∈ five5) {w : W8} (hw : w ∈ five5) : (w ++ [32] <:+: hadT H) ↔ w ∈ H := by
  constructor
  · rintro ⟨pre, post, e⟩
    have e' : pre ++ w ++ 32 :: post = hadT H := by rw [← e]; simp
    obtain ⟨q, Q, h1⟩ := spl_mid (no32 w hw) pre post
    rw [e', spl_hadT H hH] at h1
    have hm : q ++ w ∈ H ++ [[]] := by rw [h1]; simp
    rcases List.mem_append.1 hm with hm | hm
    · have := suff_five _ (hH _ hm) w hw ⟨q, rfl⟩
      rw [this]
      exact hm
    · simp at hm
      rw [hm.2] at hw
      exact absurd hw (by decide)
  · intro h
    obtain ⟨s, t, rfl⟩ := List.append_of_mem h
    exact ⟨hadT s, hadT t, by simp [hadT]⟩
def cnt1 (H : List W8) (w : W8) : Nat := if w ∈ H then 1 else 0
/-- Each at most once: so many, and so long. -/
def HadOk (H : List W8) : Prop := (∀ w ∈ H, w ∈ five5) ∧ H.length = cnt1 H wOut + cnt1 H wPorts + cnt1 H wLife + cnt1 H wRate + cnt1 H wElse ∧ (hadT H).length = 8 * cnt1 H wOut + 6 * cnt1 H wPorts + 5 * cnt1 H wLife + 5 * cnt1 H wRate + 5 * cnt1 H wElse
theorem hadOk_nil : HadOk [] := ⟨by simp, by simp [cnt1], by simp [cnt1, hadT]⟩
theorem cnt1_snoc {H : List W8} {w : W8} (h : w ∉ H) (x : W8) : cnt1 (H ++ [w]) x = cnt1 H x + if x = w then 1 else 0 := by
  unfold cnt1
  by_cases e : x = w
  · subst e
    simp [h]
  · simp [e]
theorem hadOk_snoc {H : List W8} {w : W8} (hH : HadOk H) (hw : w ∈ five5) (h : w ∉ H) : HadOk (H ++ [w]) := by
  obtain ⟨h1, h2, h3⟩ := hH
  refine ⟨fun x hx => ?_, ?_, ?_⟩
  · rcases List.mem_append.1 hx with hx | hx
    · exact h1 x hx
    · rw [List.mem_singleton.1 hx]
      exact hw
  · simp only [cnt1_snoc h, List.length_append, List.length_singleton, h2]
    unfold five5 at hw
    simp only [List.mem_cons, List.not_mem_nil, or_false] at hw
    rcases hw with rfl | rfl | rfl | rfl | rfl <;> simp <;> omega
  · rw [hadT_snoc]
    simp only [cnt1_snoc h, List.length_append, List.length_singleton, h3]
    unfold five5 at hw
    simp only [List.mem_cons, List.not_mem_nil, or_false] at hw
    rcases hw with rfl | rfl | rfl | rfl | rfl <;> simp <;> omega
theorem hadOk_len {H : List W8} (h : HadOk H) : ((hadT H).length = 29 ↔ ¬ H.length < 5) ∧ H.length ≤ 5 ∧ (hadT H).length ≤ 29 := by
  obtain ⟨h1, h2, h3⟩ := h
  have b : ∀ w, cnt1 H w ≤ 1 := fun w => by unfold cnt1; split <;> omega
  have := b wOut
  have := b wPorts
  have := b wLife
  have := b wRate
  have := b wElse
  omega
end Go.Proofs.YtbcamncabckbnaaGreatDoor
