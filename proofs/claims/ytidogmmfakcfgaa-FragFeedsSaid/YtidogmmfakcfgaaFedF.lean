/-
  The reference: no heap is found: a new one.
-/
import Derived.Test.YtidogmmfakcfgaaFedE
namespace Go.Proofs.Ytidogmmfakcfgaa
set_option linter.unusedVariables false
set_option linter.unusedSimpArgs false
theorem le_snapN {st : St} (s : Sl) {sz : Nat} {xs ys : List (List DV)} {c : Bool} (hs : st.tm.get s = .snap sz xs c) (hl : xs.length = ys.length) (h : ∀ (i : Nat) (x y : List DV), xs[i]? = some x → ys[i]? = some y → nilL x y) : Le st ⟨st.tm.set s (.snap sz ys c), st.H, st.gen⟩ := by
  intro Γ N K a w hR
  refine ⟨K, hR.inv, hR.fresh, hR.g0, hR.size, hR.defers, fun q => ?_⟩
  show VRel K w ((st.tm.set s _).get q) _
  rw [Env.get_set]
  by_cases e : q = s
  · rw [if_pos e, e]
    have := hR.tm s
    rw [hs] at this
    generalize a.tmps.getD s.nat undef = v at this ⊢
    cases this with
    | snap f h1 h2 h3 h4 h5 h6 h7 =>
      have hxy : ∀ (i : Nat) (y : List DV), ys[i]? = some y → ∃ x, xs[i]? = some x ∧ nilL x y := fun i y hy => by
        have hil := (List.getElem?_eq_some_iff.1 hy).1
        exact ⟨_, List.getElem?_eq_getElem (by omega), h i _ y (List.getElem?_eq_getElem (by omega)) hy⟩
      have hxd : ∀ (i : Nat) (y : List DV) (j : Nat) (d : DV), ys[i]? = some y → y[j]? = some d → ∃ x d', xs[i]? = some x ∧ x[j]? = some d' ∧ nilP d' d := fun i y j d hy hd => by
        obtain ⟨x, hx, hn⟩ := hxy i y hy
        obtain ⟨n1, n2⟩ := nilL_get hn
        have hjl := (List.getElem?_eq_some_iff.1 hd).1
        exact ⟨x, _, hx, List.getElem?_eq_getElem (by omega), n2 j _ d (List.getElem?_eq_getElem (by omega)) hd⟩
      refine .snap f (by omega) h2 h3 (fun y hy => ?_) h5 (fun ad i y j d hA hy hd => ?_) (fun i y j d hy hd => ?_)
      · obtain ⟨i, hi⟩ := List.mem_iff_getElem?.1 hy
        obtain ⟨x, hx, hn⟩ := hxy i y hi
        rw [← (nilL_get hn).1]
        exact h4 x (List.mem_of_getElem? hx)
      · obtain ⟨x, d', hx, hd', -⟩ := hxd i y j d hy hd
        exact h6 ad i x j d' hA hx hd'
      · obtain ⟨x, d', hx, hd', hn⟩ := hxd i y j d hy hd
        exact nil_rel (h7 i x j d' hx hd') d hn
  · rw [if_neg e]
    exact hR.tm q
theorem nilL_refl : ∀ x : List DV, (∀ d ∈ x, nilP d d) → nilL x x
  | [], _ => rfl
  | d :: r, h => ⟨h d (by simp), nilL_refl r (fun e he => h e (by simp [he]))⟩
theorem go_frzN {Γ : Gm} {P : Program} {N : Nat} {R : St → Prop} {x : XC} {kk : List KI} {st : St} (hW : ∀ g, ¬ Γ.W0 g) (l1 l : List Hp) (k0 : Hp) (hle : l1 ++ [k0] = l) {fr to pr id : Int} (hk : k0 = keyK fr to pr id) {n c : Nat} (hs : st.tm.get ⟨.d0, .d0, .d0⟩ = .sl 4 n 8 0 c false) (hc : c = (l1.map Hp.enc).length + 1) (hj : lget st.H 4 = some ⟨n, 8, l1.map Hp.enc ++ [keyC fr to pr id]⟩)
    (h : Go Γ P N R x kk ⟨(st.tm.set ⟨.d0, .d0, .d0⟩ (.snap 8 (l1.map Hp.enc ++ [keyC fr to pr id]) false)).set ⟨.d0, .d0, .d0⟩ (dPool l), lset st.H 4 none, st.gen⟩) : Go Γ P N R x kk st := by
  subst hle
  have hlen : (l1.map Hp.enc ++ [keyC fr to pr id]).length = c := by rw [hc]; simp
  have h1 := leG_freeze hW ⟨.d0, .d0, .d0⟩ hs hj ⟨rfl, rfl, by dsimp only; omega⟩
  dsimp only at h1
  rw [xall hlen.symm] at h1
  refine go_leG h1 (go_le (le_snapN ⟨.d0, .d0, .d0⟩ (xs := l1.map Hp.enc ++ [keyC fr to pr id]) (ys := (l1 ++ [k0]).map Hp.enc) (by rw [Env.get_set, if_pos rfl]) (by simp) (fun i x y hx hy => ?_)) h)
  subst hk
  rw [List.map_append] at hy
  by_cases hi : i < (l1.map Hp.enc).length
  · rw [List.getElem?_append_left hi] at hx hy
    obtain rfl : x = y := Option.some.inj (hx.symm.trans hy)
    obtain ⟨u, -, rfl⟩ := List.mem_map.1 (List.mem_of_getElem? hx)
    exact ⟨.inl rfl, .inl rfl, .inl rfl, .inl rfl, .inl rfl, .inl rfl, .inl rfl, rfl, rfl⟩
  · rw [List.getElem?_append_right (by omega)] at hx hy
    match hq : i - (l1.map Hp.enc).length, hx, hy with
    | 0, hx, hy =>
      obtain rfl := Option.some.inj hx
      obtain rfl := Option.some.inj hy
      exact ⟨.inl rfl, .inl rfl, .inl rfl, .inl rfl, .inl rfl, .inl rfl, .inl rfl, .inr ⟨rfl, 3, rfl⟩, rfl⟩
    | q + 1, hx, hy => simp at hx
end Go.Proofs.Ytidogmmfakcfgaa
