/-
  What turns do, in plain: the lists.
-/
import Derived.Test.YtecnjhmpipfldaaTickP
namespace Go.Proofs.Ytecnjhmpipfldaa
set_option linter.unusedVariables false
set_option linter.unusedSimpArgs false
def laterP (τ : Int) (d : Du) : Bool := decide (τ < d.t)
def atP (τ : Int) (d : Du) : Bool := decide (d.t = τ)
/-- Things put one after the other. -/
theorem fold_step (τ : Nat) : ∀ (l : List Du) (L0 : WL) (out : List Du), L0.length = 96 → (∀ d ∈ l, (τ : Int) ≤ d.t ∧ d.t ≤ 16777215) →
    ((l.foldl (stepL (τ : Nat)) (L0, out)).1.length = 96 ∧ (l.foldl (stepL (τ : Nat)) (L0, out)).2 = out ++ l.filter (atP (τ : Nat)) ∧
      ∀ (j : Nat) (x : List Du), L0[j]? = some x → (l.foldl (stepL (τ : Nat)) (L0, out)).1[j]? = some (x ++ fil (τ : Nat) (j : Nat) (l.filter (laterP (τ : Nat)))))
  | [], L0, out, h96, h => ⟨h96, by simp, fun j x hx => by simpa [fil] using hx⟩
  | d :: r, L0, out, h96, h => by
    have hd := h d (by simp)
    have hr : ∀ y ∈ r, (τ : Int) ≤ y.t ∧ y.t ≤ 16777215 := fun y hy => h y (by simp [hy])
    rw [List.foldl_cons]
    by_cases e : d.t = (τ : Nat)
    · have hs : stepL (τ : Nat) (L0, out) d = (L0, out ++ [d]) := if_pos e
      obtain ⟨h1, h2, h3⟩ := fold_step τ r L0 (out ++ [d]) h96 hr
      rw [hs]
      refine ⟨h1, ?_, fun j x hx => ?_⟩
      · rw [h2, List.filter_cons, if_pos (by simp [atP, e])]
        simp
      · rw [h3 j x hx, List.filter_cons, if_neg (by simp [laterP, e])]
    · have hs : stepL (τ : Nat) (L0, out) d = (putL (τ : Nat) L0 d, out) := if_neg e
      have hrng := lis_rng (n := τ) (m := d.t.toNat) (by omega) (by omega)
      obtain ⟨a, ha⟩ : ∃ a : Nat, lisR τ d.t.toNat 6 = a := ⟨(lisR τ d.t.toNat 6).toNat, by omega⟩
      have hlo : listOf ((τ : Nat) : Int) d.t = (a : Nat) := ha
      have ha96 : a < 96 := by omega
      obtain ⟨y, hy⟩ : ∃ y, L0[a]? = some y := ⟨_, List.getElem?_eq_getElem (by omega)⟩
      have hp : putL (τ : Nat) L0 d = L0.set a (y ++ [d]) := by
        unfold putL
        rw [hlo, Int.toNat_natCast, hy]
        rfl
      obtain ⟨h1, h2, h3⟩ := fold_step τ r (L0.set a (y ++ [d])) out (by rw [List.length_set]; exact h96) hr
      rw [hs, hp]
      have hlat : laterP (τ : Nat) d = true := decide_eq_true (by omega)
      refine ⟨h1, ?_, fun j x hx => ?_⟩
      · rw [h2, List.filter_cons, if_neg (by simp [atP, e])]
      · rw [List.filter_cons, if_pos hlat]
        by_cases hj : a = j
        · subst hj
          obtain rfl : y = x := Option.some.inj (hy.symm.trans hx)
          rw [h3 a (y ++ [d]) (by rw [List.getElem?_set_self (by omega)])]
          simp [fil, hlo]
        · rw [h3 j x (by rw [List.getElem?_set_ne hj]; exact hx)]
          have : ¬ ((a : Int) = (j : Int)) := by omega
          simp [fil, hlo, this]
theorem set_same {L : WL} {i : Nat} {x : List Du} (h : L[i]? = some x) : L.set i x = L := by
  apply List.ext_getElem?
  intro j
  rw [List.getElem?_set]
  by_cases e : i = j
  · subst e
    rw [if_pos rfl, if_pos (List.getElem?_eq_some_iff.1 h).1, h]
  · rw [if_neg e]
theorem fil_none {τ : Nat} {j : Nat} {G : List Du} (hG : ∀ d ∈ G, (τ : Int) < d.t ∧ d.t ≤ 16777215) : fil (τ : Nat) ((16 * j + τ / 16 ^ j % 16 : Nat) : Int) G = [] := List.filter_eq_nil_iff.2 fun d hd => by
  have h := hG d hd
  have := own_no (τ := τ) (t := d.t.toNat) (by omega) (by omega) j
  simpa using (show ¬ listOf ((τ : Nat) : Int) d.t = _ from this)
/-- Where the lists stand for this time already, a turn's round does nothing. -/
theorem lev_same {τ : Nat} {G out : List Du} (hG : ∀ d ∈ G, (τ : Int) < d.t ∧ d.t ≤ 16777215) {k : Nat} (hk : k < 6) : lev τ k (wof (τ : Nat) G, out) = (wof (τ : Nat) G, out) := by
  unfold lev
  split
  · rfl
  · have hm : τ / 16 ^ k % 16 < 16 := Nat.mod_lt _ (by decide)
    have h := wof_get (τ : Nat) G (i := 16 * k + τ / 16 ^ k % 16) (by omega)
    rw [fil_none hG] at h
    dsimp only
    rw [h]
    show (List.set _ _ [], out) = _
    rw [set_same h]
theorem levs_same {τ : Nat} {G out : List Du} (hG : ∀ d ∈ G, (τ : Int) < d.t ∧ d.t ≤ 16777215) : ∀ k, k ≤ 6 → levs τ k (wof (τ : Nat) G, out) = (wof (τ : Nat) G, out)
  | 0, _ => rfl
  | k + 1, hk => by
    show levs τ k (lev τ k _) = _
    rw [lev_same hG (by omega), levs_same hG k (by omega)]
theorem levs_skip {τ c : Nat} (hc : τ / 16 ^ c % 16 ≠ 0) (s : WL × List Du) : ∀ q, c < q → levs τ q s = levs τ (c + 1) s
  | 0, h => by omega
  | q + 1, h => by
    by_cases e : q = c
    · rw [e]
    · have hl : lev τ q s = s := if_pos (up_no hc (by omega))
      show levs τ q (lev τ q s) = _
      rw [hl, levs_skip hc s q (by omega)]
theorem turn_law (n : Nat) (G : List Du) (hn : n + 1 < 16777216) (hG : ∀ d ∈ G, (n : Int) < d.t ∧ d.t ≤ 16777215) :
    levs (n + 1) 6 (wof (n : Nat) G, []) = (wof ((n + 1 : Nat) : Int) (G.filter (laterP ((n + 1 : Nat) : Int))), G.filter (atP ((n + 1 : Nat) : Int))) := by
  obtain ⟨c, hc6, hd, hc⟩ := low_ex 6 (n + 1) (by omega) hn
  have hcl : ∀ d ∈ G, ((((n + 1 : Nat) : Int) < d.t) ∧ listOf n d.t ≠ ((16 * c + (n + 1) / 16 ^ c % 16 : Nat) : Int) ∧ listOf ((n + 1 : Nat) : Int) d.t = listOf n d.t ∧ 16 * (c : Int) ≤ listOf n d.t) ∨
      (listOf n d.t = ((16 * c + (n + 1) / 16 ^ c % 16 : Nat) : Int) ∧ (d.t = ((n + 1 : Nat) : Int) ∨ (((n + 1 : Nat) : Int) < d.t ∧ listOf ((n + 1 : Nat) : Int) d.t < 16 * (c : Int)))) := fun d hd' => by
    have h := hG d hd'
    rcases classes (t := d.t.toNat) hd hc (by omega) (by omega) with ⟨h1, h2, h3, h4⟩ | ⟨h1, h2⟩
    · exact .inl ⟨by omega, h2, h3, h4⟩
    · refine .inr ⟨h1, ?_⟩
      rcases h2 with h2 | ⟨h2, h3⟩
      · exact .inl (by omega)
      · exact .inr ⟨by omega, h3⟩
  have hm : (n + 1) / 16 ^ c % 16 < 16 := Nat.mod_lt _ (by decide)
  rw [levs_skip hc _ 6 hc6]
  show levs (n + 1) c (lev (n + 1) c _) = _
  have key : lev (n + 1) c (wof (n : Nat) G, []) = (wof ((n + 1 : Nat) : Int) (G.filter (laterP ((n + 1 : Nat) : Int))), G.filter (atP ((n + 1 : Nat) : Int))) := by
    unfold lev
    rw [if_neg (by rw [Nat.mod_eq_zero_of_dvd hd]; omega)]
    obtain ⟨i, hi⟩ : ∃ i, i = 16 * c + (n + 1) / 16 ^ c % 16 := ⟨_, rfl⟩
    rw [← hi] at hcl ⊢
    have hi96 : i < 96 := by omega
    have hget := wof_get (n : Nat) G hi96
    dsimp only
    rw [hget]
    dsimp only [Option.getD]
    have hlen := wof_len (n : Nat) G
    have hin : ∀ d ∈ fil (n : Nat) (i : Nat) G, ((n + 1 : Nat) : Int) ≤ d.t ∧ d.t ≤ 16777215 := fun d hd' => by
      have := hG d (List.mem_filter.1 hd').1
      omega
    obtain ⟨h1, h2, h3⟩ := fold_step (n + 1) (fil (n : Nat) (i : Nat) G) ((wof (n : Nat) G).set i []) [] (by rw [List.length_set]; exact hlen) hin
    refine Prod.ext ?_ ?_
    · apply List.ext_getElem?
      intro j
      by_cases hj : j < 96
      · rw [wof_get _ _ hj]
        by_cases hij : i = j
        · subst hij
          rw [h3 i [] (by rw [List.getElem?_set_self (by omega)]), List.nil_append]
          have e1 := fil_none (τ := n + 1) (j := c) (G := G.filter (laterP ((n + 1 : Nat) : Int))) (fun d hd' => by
            have h5 := List.mem_filter.1 hd'
            exact ⟨of_decide_eq_true h5.2, (hG d h5.1).2⟩)
          have e2 := fil_none (τ := n + 1) (j := c) (G := (fil (n : Nat) (i : Nat) G).filter (laterP ((n + 1 : Nat) : Int))) (fun d hd' => by
            have h5 := List.mem_filter.1 hd'
            exact ⟨of_decide_eq_true h5.2, (hin d h5.1).2⟩)
          rw [← hi] at e1 e2
          rw [e1, e2]
        · rw [h3 j (fil (n : Nat) (j : Nat) G) (by rw [List.getElem?_set_ne hij]; exact wof_get _ _ hj)]
          congr 1
          unfold fil
          rw [List.filter_filter, List.filter_filter, List.filter_filter]
          by_cases hjc : (j : Int) < 16 * (c : Int)
          · have e1 : G.filter (fun d => decide (listOf ((n : Nat) : Int) d.t = (j : Nat))) = [] := List.filter_eq_nil_iff.2 fun d hd' => by
              rcases hcl d hd' with ⟨q1, q2, q3, q4⟩ | ⟨q1, q2⟩
              · simp; omega
              · simp; omega
            rw [e1, List.nil_append]
            apply List.filter_congr
            intro d hd'
            unfold laterP
            rcases hcl d hd' with ⟨q1, q2, q3, q4⟩ | ⟨q1, q2⟩
            · have z : ¬ (listOf ((n + 1 : Nat) : Int) d.t = (j : Nat)) := by omega
              rw [decide_eq_false z]
              simp
            · rw [decide_eq_true q1]
              simp
          · have e1 : G.filter (fun d => decide (listOf ((n + 1 : Nat) : Int) d.t = (j : Nat)) && laterP ((n + 1 : Nat) : Int) d && decide (listOf ((n : Nat) : Int) d.t = (i : Nat))) = [] := List.filter_eq_nil_iff.2 fun d hd' => by
              unfold laterP
              rcases hcl d hd' with ⟨q1, q2, q3, q4⟩ | ⟨q1, q2⟩
              · rw [decide_eq_false q2]
                simp
              · rcases q2 with q2 | ⟨q2, q3⟩
                · have z : ¬ (((n + 1 : Nat) : Int) < d.t) := by omega
                  rw [decide_eq_false z]
                  simp
                · have z : ¬ (listOf ((n + 1 : Nat) : Int) d.t = (j : Nat)) := by omega
                  rw [decide_eq_false z]
                  simp
            rw [e1, List.append_nil]
            apply List.filter_congr
            intro d hd'
            unfold laterP
            rcases hcl d hd' with ⟨q1, q2, q3, q4⟩ | ⟨q1, q2⟩
            · rw [q3, decide_eq_true q1, Bool.and_true]
            · have z : ¬ (listOf ((n : Nat) : Int) d.t = (j : Nat)) := by omega
              rw [decide_eq_false z]
              rcases q2 with q2 | ⟨q2, q3⟩
              · have z : ¬ (((n + 1 : Nat) : Int) < d.t) := by omega
                rw [decide_eq_false z]
                simp
              · have z : ¬ (listOf ((n + 1 : Nat) : Int) d.t = (j : Nat)) := by omega
                rw [decide_eq_false z]
                simp
      · rw [List.getElem?_eq_none (by omega), List.getElem?_eq_none (by rw [wof_len]; omega)]
    · rw [h2, List.nil_append]
      unfold fil
      rw [List.filter_filter]
      apply List.filter_congr
      intro d hd'
      unfold atP
      rcases hcl d hd' with ⟨q1, q2, q3, q4⟩ | ⟨q1, q2⟩
      · have z : ¬ (d.t = ((n + 1 : Nat) : Int)) := by omega
        rw [decide_eq_false z]
        rfl
      · rw [decide_eq_true q1, Bool.and_true]
  rw [key]
  exact levs_same (fun d hd' => by
    have h5 := List.mem_filter.1 hd'
    exact ⟨of_decide_eq_true h5.2, (hG d h5.1).2⟩) c (by omega)
end Go.Proofs.Ytecnjhmpipfldaa
