/-
  Things in the order of their times, those of one time as they came: no program in sight.
-/
import Derived.Test.YtecnjhmpipfldaaWheelP
namespace Go.Proofs.Ytecnjhmpipfldaa
set_option linter.unusedVariables false
set_option linter.unusedSimpArgs false
def SortedD (l : List Du) : Prop := l.Pairwise (fun a b => a.t ≤ b.t)
abbrev atT (k : Int) (l : List Du) : List Du := l.filter fun d => decide (d.t = k)
/-- The same things, those of one time in the same order. -/
def Same (l l' : List Du) : Prop := ∀ k : Int, atT k l' = atT k l
theorem Same.refl (l : List Du) : Same l l := fun _ => rfl
theorem Same.symm {a b : List Du} (h : Same a b) : Same b a := fun k => (h k).symm
theorem Same.trans {a b c : List Du} (h : Same a b) (g : Same b c) : Same a c := fun k => (g k).trans (h k)
theorem Same.app {a b c d : List Du} (h : Same a b) (g : Same c d) : Same (a ++ c) (b ++ d) := fun k => by
  unfold atT
  rw [List.filter_append, List.filter_append]
  exact congr (congrArg _ (h k)) (g k)
theorem Same.mem {a b : List Du} (h : Same a b) {d : Du} (hd : d ∈ b) : d ∈ a := by
  have h1 : d ∈ atT d.t b := List.mem_filter.2 ⟨hd, by simp⟩
  rw [h d.t] at h1
  exact (List.mem_filter.1 h1).1
theorem atT_none {k : Int} {l : List Du} (h : ∀ d ∈ l, d.t ≠ k) : atT k l = [] := List.filter_eq_nil_iff.2 fun d hd => by simp [h d hd]
/-- Two pieces that have no time in common, exchanged. -/
theorem same_swap {X Y : List Du} (h : ∀ x ∈ X, ∀ y ∈ Y, y.t < x.t) : Same (X ++ Y) (Y ++ X) := fun k => by
  unfold atT
  rw [List.filter_append, List.filter_append]
  by_cases hx : ∃ x ∈ X, x.t = k
  · obtain ⟨x, hx, e⟩ := hx
    have : Y.filter (fun d => decide (d.t = k)) = [] := atT_none fun y hy q => by have := h x hx y hy; omega
    rw [this]
    simp
  · have : X.filter (fun d => decide (d.t = k)) = [] := atT_none fun x hx' q => hx ⟨x, hx', q⟩
    rw [this]
    simp
theorem same_uniq : ∀ {l1 l2 : List Du}, SortedD l1 → SortedD l2 → Same l1 l2 → l2 = l1
  | [], [], _, _, _ => rfl
  | [], b :: s, _, _, h => by
    have := h.mem (d := b) (by simp)
    simp at this
  | a :: r, [], _, _, h => by
    have := h.symm.mem (d := a) (by simp)
    simp at this
  | a :: r, b :: s, h1, h2, h => by
    have p1 := List.pairwise_cons.1 h1
    have p2 := List.pairwise_cons.1 h2
    have hab : a.t = b.t := by
      have m1 := h.symm.mem (d := a) (by simp)
      have m2 := h.mem (d := b) (by simp)
      have q1 : b.t ≤ a.t := by
        rcases List.mem_cons.1 m1 with e | m
        · rw [e]; exact Int.le_refl _
        · exact p2.1 a m
      have q2 : a.t ≤ b.t := by
        rcases List.mem_cons.1 m2 with e | m
        · rw [e]; exact Int.le_refl _
        · exact p1.1 b m
      omega
    have hk := h a.t
    unfold atT at hk
    rw [List.filter_cons, List.filter_cons, if_pos (by simp [hab]), if_pos (by simp)] at hk
    obtain ⟨e1, -⟩ := List.cons.inj hk
    subst e1
    have hs : Same r s := fun k => by
      have hk := h k
      unfold atT at hk ⊢
      rw [List.filter_cons, List.filter_cons] at hk
      by_cases q : b.t = k
      · rw [if_pos (by simp [q]), if_pos (by simp [q])] at hk
        exact (List.cons.inj hk).2
      · rw [if_neg (by simp [q]), if_neg (by simp [q])] at hk
        exact hk
    rw [same_uniq p1.2 p2.2 hs]
def insR (P : List Du) (x : Du) : List Du := P.takeWhile (fun y => decide (y.t ≤ x.t)) ++ x :: P.dropWhile (fun y => decide (y.t ≤ x.t))
def ssort (l : List Du) : List Du := l.foldl insR []
theorem tw_le (x : Du) : ∀ (P : List Du), ∀ y ∈ P.takeWhile (fun y => decide (y.t ≤ x.t)), y.t ≤ x.t
  | [], y, h => by simp at h
  | a :: r, y, h => by
    rw [List.takeWhile_cons] at h
    split at h
    · rename_i q
      rcases List.mem_cons.1 h with rfl | h
      · simpa using q
      · exact tw_le x r y h
    · simp at h
theorem dw_gt (x : Du) : ∀ {P : List Du}, SortedD P → ∀ y ∈ P.dropWhile (fun y => decide (y.t ≤ x.t)), x.t < y.t
  | [], _, y, h => by simp at h
  | a :: r, hs, y, h => by
    have p := List.pairwise_cons.1 hs
    rw [List.dropWhile_cons] at h
    split at h
    · exact dw_gt x p.2 y h
    · rename_i q
      have q' : x.t < a.t := by simpa using q
      rcases List.mem_cons.1 h with rfl | h
      · exact q'
      · have := p.1 y h
        omega
theorem insR_sorted {P : List Du} (hs : SortedD P) (x : Du) : SortedD (insR P x) := by
  unfold insR SortedD
  have hP := hs
  unfold SortedD at hP
  rw [← List.takeWhile_append_dropWhile (p := fun y : Du => decide (y.t ≤ x.t)) (l := P), List.pairwise_append] at hP
  rw [List.pairwise_append, List.pairwise_cons]
  refine ⟨hP.1, ⟨fun y hy => Int.le_of_lt (dw_gt x hs y hy), hP.2.1⟩, fun a ha b hb => ?_⟩
  rcases List.mem_cons.1 hb with rfl | hb
  · exact tw_le b P a ha
  · exact hP.2.2 a ha b hb
theorem insR_same {P : List Du} (hs : SortedD P) (x : Du) : Same (P ++ [x]) (insR P x) := by
  unfold insR
  have e : P ++ [x] = P.takeWhile (fun y => decide (y.t ≤ x.t)) ++ (P.dropWhile (fun y => decide (y.t ≤ x.t)) ++ [x]) := by
    rw [← List.append_assoc, List.takeWhile_append_dropWhile]
  rw [e]
  refine Same.app (Same.refl _) ?_
  exact same_swap (X := P.dropWhile (fun y => decide (y.t ≤ x.t))) (Y := [x]) (fun a ha b hb => by
    simp at hb
    subst hb
    exact dw_gt b hs a ha)
theorem ssort_snoc (l : List Du) (x : Du) : ssort (l ++ [x]) = insR (ssort l) x := by
  unfold ssort
  rw [List.foldl_append]
  rfl
theorem snoc_ind {α : Type} {p : List α → Prop} (h0 : p []) (h1 : ∀ l x, p l → p (l ++ [x])) (l : List α) : p l := by
  have : ∀ r : List α, p r.reverse := fun r => by
    induction r with
    | nil => exact h0
    | cons a s ih =>
      rw [List.reverse_cons]
      exact h1 _ _ ih
  have h := this l.reverse
  rwa [List.reverse_reverse] at h
theorem ssort_ok (l : List Du) : SortedD (ssort l) ∧ Same l (ssort l) := by
  refine snoc_ind (p := fun l => SortedD (ssort l) ∧ Same l (ssort l)) ⟨List.Pairwise.nil, Same.refl _⟩ (fun l x ⟨h1, h2⟩ => ?_) l
  rw [ssort_snoc]
  exact ⟨insR_sorted h1 x, (Same.app h2 (Same.refl [x])).trans (insR_same h1 x)⟩
theorem ssort_uniq {l l' : List Du} (h1 : SortedD l') (h2 : Same l l') : l' = ssort l := same_uniq (ssort_ok l).1 h1 ((ssort_ok l).2.symm.trans h2)
theorem ssort_sorted {l : List Du} (h : SortedD l) : ssort l = l := (ssort_uniq h (Same.refl l)).symm
theorem ssort_app (A B : List Du) : ssort (ssort A ++ ssort B) = ssort (A ++ B) :=
  ssort_uniq (ssort_ok _).1 (((ssort_ok A).2.app (ssort_ok B).2).trans (ssort_ok _).2)
theorem ssort_len (l : List Du) : (ssort l).length = l.length := by
  refine snoc_ind (p := fun l => (ssort l).length = l.length) rfl (fun l x h => ?_) l
  rw [ssort_snoc]
  unfold insR
  have := congrArg List.length (List.takeWhile_append_dropWhile (p := fun y : Du => decide (y.t ≤ x.t)) (l := ssort l))
  simp only [List.length_append, List.length_cons, List.length_nil] at this ⊢
  omega
theorem ssort_mem {l : List Du} {d : Du} (h : d ∈ ssort l) : d ∈ l := (ssort_ok l).2.mem h
/-- What a merge in the middle does. -/
theorem ssort_mid {A1 A2 B1 B2 : List Du} (hA : SortedD (A1 ++ A2)) (hB : SortedD (B1 ++ B2)) (hx : ∀ x ∈ A2, ∀ y ∈ B1, y.t < x.t) (hl : ∀ x ∈ A1, ∀ y ∈ B2, x.t ≤ y.t) : ssort ((A1 ++ A2) ++ (B1 ++ B2)) = ssort (A1 ++ B1) ++ ssort (A2 ++ B2) := by
  have pA := List.pairwise_append.1 hA
  have pB := List.pairwise_append.1 hB
  refine (ssort_uniq ?_ ?_).symm
  · unfold SortedD
    rw [List.pairwise_append]
    refine ⟨(ssort_ok _).1, (ssort_ok _).1, fun u hu v hv => ?_⟩
    rcases List.mem_append.1 (ssort_mem hu) with hu | hu <;> rcases List.mem_append.1 (ssort_mem hv) with hv | hv
    · exact pA.2.2 u hu v hv
    · exact hl u hu v hv
    · exact Int.le_of_lt (hx v hv u hu)
    · exact pB.2.2 u hu v hv
  · refine Same.trans ?_ ((ssort_ok (A1 ++ B1)).2.app (ssort_ok (A2 ++ B2)).2)
    have h := Same.app (Same.app (Same.refl A1) (same_swap hx)) (Same.refl B2)
    simpa [List.append_assoc] using h
/-- One thing into a sorted row: ahead of all that are not earlier; behind all that are not later. -/
theorem ssort_left {x : Du} {B1 B2 : List Du} (hB : SortedD (B1 ++ B2)) (h1 : ∀ y ∈ B1, y.t < x.t) (h2 : ∀ y ∈ B2, x.t ≤ y.t) : ssort ([x] ++ (B1 ++ B2)) = B1 ++ [x] ++ B2 := by
  have pB := List.pairwise_append.1 hB
  refine (ssort_uniq ?_ ?_).symm
  · unfold SortedD
    rw [List.append_assoc, List.pairwise_append]
    refine ⟨pB.1, List.pairwise_cons.2 ⟨h2, pB.2.1⟩, fun u hu v hv => ?_⟩
    rcases List.mem_cons.1 hv with rfl | hv
    · exact Int.le_of_lt (h1 u hu)
    · exact pB.2.2 u hu v hv
  · have h := Same.app (same_swap (X := [x]) (Y := B1) (fun a ha b hb => by
      simp at ha
      subst ha
      exact h1 b hb)) (Same.refl B2)
    simpa [List.append_assoc] using h
theorem ssort_right {x : Du} {A1 A2 : List Du} (hA : SortedD (A1 ++ A2)) (h1 : ∀ y ∈ A1, y.t ≤ x.t) (h2 : ∀ y ∈ A2, x.t < y.t) : ssort ((A1 ++ A2) ++ [x]) = A1 ++ [x] ++ A2 := by
  have pA := List.pairwise_append.1 hA
  refine (ssort_uniq ?_ ?_).symm
  · unfold SortedD
    rw [List.append_assoc, List.pairwise_append]
    refine ⟨pA.1, List.pairwise_cons.2 ⟨fun y hy => Int.le_of_lt (h2 y hy), pA.2.1⟩, fun u hu v hv => ?_⟩
    rcases List.mem_cons.1 hv with rfl | hv
    · exact h1 u hu
    · exact pA.2.2 u hu v hv
  · have h := Same.app (Same.refl A1) (same_swap (X := A2) (Y := [x]) (fun a ha b hb => by
      simp at hb
      subst hb
      exact h2 a ha))
    simpa [List.append_assoc] using h
end Go.Proofs.Ytecnjhmpipfldaa
