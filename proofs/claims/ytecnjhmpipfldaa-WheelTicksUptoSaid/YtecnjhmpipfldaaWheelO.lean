/-
  Wheels whose lists are rows of the call's own: no function in sight.
-/
import Derived.Test.YtecnjhmpipfldaaWheelY
namespace Go.Proofs.Ytecnjhmpipfldaa
set_option linter.unusedVariables false
set_option linter.unusedSimpArgs false
abbrev nilD : DV := .v (.slice none 0 0)
/-- The rows, one behind the other; the cells that point to them. -/
def rowh (nm : Nat → Nat) : Nat → WL → HL
  | _, [] => []
  | j, l :: r => some ⟨nm j, 2, l.map Du.enc⟩ :: rowh nm (j + 1) r
def rowc (lb nm : Nat → Nat) : Nat → WL → List DV
  | _, [] => []
  | j, l :: r => .sl (lb j) (nm j) 2 0 l.length false :: rowc lb nm (j + 1) r
def upd (nm : Nat → Nat) (i n : Nat) : Nat → Nat := fun j => if j = i then n else nm j
section
variable {nm nm' lb : Nat → Nat}
theorem rowh_len : ∀ (L : WL) (j : Nat), (rowh nm j L).length = L.length
  | [], _ => rfl
  | _ :: r, j => by simp [rowh, rowh_len r]
theorem rowc_len : ∀ (L : WL) (j : Nat), (rowc lb nm j L).length = L.length
  | [], _ => rfl
  | _ :: r, j => by simp [rowc, rowc_len r]
theorem rowh_get : ∀ (L : WL) (j i : Nat) (l : List Du), L[i]? = some l → lget (rowh nm j L) i = some ⟨nm (j + i), 2, l.map Du.enc⟩
  | [], _, _, _, h => by simp at h
  | x :: r, j, 0, l, h => by
    simp at h
    subst h
    rfl
  | x :: r, j, i + 1, l, h => by
    have := rowh_get r (j + 1) i l (by simpa using h)
    rw [show j + 1 + i = j + (i + 1) by omega] at this
    exact this
theorem rowc_get : ∀ (L : WL) (j i : Nat) (l : List Du), L[i]? = some l → (rowc lb nm j L)[i]? = some (.sl (lb (j + i)) (nm (j + i)) 2 0 l.length false)
  | [], _, _, _, h => by simp at h
  | x :: r, j, 0, l, h => by
    simp at h
    subst h
    rfl
  | x :: r, j, i + 1, l, h => by
    have := rowc_get r (j + 1) i l (by simpa using h)
    rw [show j + 1 + i = j + (i + 1) by omega] at this
    simpa [rowc] using this
theorem rowh_congr : ∀ (L : WL) (j : Nat), (∀ k, j ≤ k → k < j + L.length → nm k = nm' k) → rowh nm j L = rowh nm' j L
  | [], _, _ => rfl
  | x :: r, j, h => by
    rw [rowh, rowh, h j (Nat.le_refl _) (by simp), rowh_congr r (j + 1) (fun k hk hk2 => h k (by omega) (by simp; omega))]
theorem rowc_congr {lb' : Nat → Nat} : ∀ (L : WL) (j : Nat), (∀ k, j ≤ k → k < j + L.length → nm k = nm' k ∧ lb k = lb' k) → rowc lb nm j L = rowc lb' nm' j L
  | [], _, _ => rfl
  | x :: r, j, h => by
    rw [rowc, rowc, (h j (Nat.le_refl _) (by simp)).1, (h j (Nat.le_refl _) (by simp)).2, rowc_congr r (j + 1) (fun k hk hk2 => h k (by omega) (by simp; omega))]
theorem upd_ne {i n k : Nat} (h : k ≠ i) : upd nm i n k = nm k := if_neg h
theorem upd_eq {i n : Nat} : upd nm i n i = n := if_pos rfl
theorem rowh_set (n : Nat) (l : List Du) : ∀ (L : WL) (j i : Nat), i < L.length → lset (lset (rowh nm j L) i none) i (some ⟨n, 2, l.map Du.enc⟩) = rowh (upd nm (j + i) n) j (L.set i l)
  | [], _, _, h => by simp at h
  | x :: r, j, 0, h => by
    simp only [rowh, lset, List.set_cons_zero, Nat.add_zero, upd_eq]
    rw [rowh_congr (nm := nm) (nm' := upd nm j n) r (j + 1) (fun k hk _ => (upd_ne (by omega)).symm)]
  | x :: r, j, i + 1, h => by
    have ih := rowh_set n l r (j + 1) i (by simpa using h)
    simp only [rowh, lset, List.set_cons_succ]
    rw [ih, show j + 1 + i = j + (i + 1) by omega, upd_ne (by omega)]
theorem rowc_set (n : Nat) (l : List Du) : ∀ (L : WL) (j i : Nat), i < L.length → splice (rowc lb nm j L) i [.sl (lb (j + i)) n 2 0 l.length false] = rowc lb (upd nm (j + i) n) j (L.set i l)
  | [], _, _, h => by simp at h
  | x :: r, j, 0, h => by
    have e : ∀ X : List DV, splice X 0 [] = X := fun X => by cases X <;> rfl
    simp only [rowc, splice, List.set_cons_zero, Nat.add_zero, upd_eq, e]
    rw [rowc_congr (nm := nm) (nm' := upd nm j n) (lb := lb) (lb' := lb) r (j + 1) (fun k hk _ => ⟨(upd_ne (by omega)).symm, rfl⟩)]
  | x :: r, j, i + 1, h => by
    have ih := rowc_set n l r (j + 1) i (by simpa using h)
    simp only [rowc, splice, List.set_cons_succ]
    rw [show j + (i + 1) = j + 1 + i by omega, ih, upd_ne (by omega)]
theorem rowh_app (l : List Du) : ∀ (L : WL) (j : Nat), rowh nm j (L ++ [l]) = rowh nm j L ++ [some ⟨nm (j + L.length), 2, l.map Du.enc⟩]
  | [], _ => rfl
  | x :: r, j => by
    simp only [List.cons_append, rowh, List.length_cons]
    rw [rowh_app l r (j + 1), show j + 1 + r.length = j + (r.length + 1) by omega]
theorem rowc_app (l : List Du) : ∀ (L : WL) (j : Nat), rowc lb nm j (L ++ [l]) = rowc lb nm j L ++ [.sl (lb (j + L.length)) (nm (j + L.length)) 2 0 l.length false]
  | [], _ => rfl
  | x :: r, j => by
    simp only [List.cons_append, rowc, List.length_cons]
    rw [rowc_app l r (j + 1), show j + 1 + r.length = j + (r.length + 1) by omega]
theorem rowc_ones : ∀ (L : WL) (j : Nat), allOne (rowc lb nm j L) = true
  | [], _ => rfl
  | x :: r, j => rowc_ones r (j + 1)
end
theorem lset_end (o : Option AObj) : ∀ A : HL, lset A A.length o = A ++ [o]
  | [] => rfl
  | a :: r => by
    show a :: lset r r.length o = _
    rw [lset_end o r]
    rfl
theorem lset_mid (x y : Option AObj) (B : HL) : ∀ A : HL, lset (A ++ x :: B) A.length y = A ++ y :: B
  | [] => rfl
  | a :: r => by
    show a :: lset (r ++ x :: B) r.length y = _
    rw [lset_mid x y B r]
    rfl
/-! Less known of the objects. -/
def leHS (x y : HL) : Prop := ∀ (k : Nat) (o : AObj), lget y k = some o → lget x k = some o
theorem hs_refl (x : HL) : leHS x x := fun _ _ h => h
theorem hs_nil (x : HL) : leHS x [] := fun k o h => by simp [lget] at h
theorem hs_cons {a b : Option AObj} {x y : HL} (h : b = a ∨ b = none) (h2 : leHS x y) : leHS (a :: x) (b :: y)
  | 0, o, hk => by
    rcases h with rfl | rfl
    · exact hk
    · cases hk
  | k + 1, o, hk => h2 k o hk
theorem le_hs {tm : Env} {H H' : HL} {g g' : Nat} (h : leHS H H') (hg : g ≤ g') : Le ⟨tm, H, g⟩ ⟨tm, H', g'⟩ := fun Γ N K a w hR =>
  ⟨K, inv_less hR.inv h, fun n hn => Nat.lt_of_lt_of_le (hR.fresh n hn) hg, Nat.le_trans hR.g0 hg, hR.size, hR.defers, hR.tm⟩
theorem le_mk2 {st st' : St} (h1 : leE st.tm st'.tm) (h2 : leHS st.H st'.H) (h3 : st.gen ≤ st'.gen) : Le st st' := fun Γ N K a w h =>
  ⟨K, inv_less h.inv h2, fun n hn => Nat.lt_of_lt_of_le (h.fresh n hn) h3, Nat.le_trans h.g0 h3, h.size, h.defers, fun s => leD_rel (leE_get h1 s) (h.tm s)⟩
theorem leG_trans {Γ : Gm} {a b c : St} (h : LeG Γ a b) (k : LeG Γ b c) : LeG Γ a c := fun N K x w hr => let ⟨K', h'⟩ := h N K x w hr; k N K' x w h'
/-- A loop, all objects given. -/
theorem go_loopT {Γ : Gm} {P : Program} {N : Nat} {R : St → Prop} {k : List KI} {st : St} {α : Type} {x : XC} (sl : α → List (Sl × DV)) (hh : α → HL) (gn : α → Nat) (m : α → Nat) (pre : α → Prop) (a0 : α) (h0 : pre a0)
    (hle : Le st ⟨setsE (havE st.tm (writesX x)) (sl a0), hh a0, gn a0⟩)
    (round : ∀ a, pre a → Go Γ P N R x (.loop (fun s => ∃ a', pre a' ∧ m a' < m a ∧ Le s ⟨setsE (havE st.tm (writesX x)) (sl a'), hh a', gn a'⟩) :: k) ⟨setsE (havE st.tm (writesX x)) (sl a), hh a, gn a⟩) : Go Γ P N R (.loop x) k st :=
  go_loop (fun a => ⟨setsE (havE st.tm (writesX x)) (sl a), hh a, gn a⟩) m pre a0 h0 hle round
/-! Labels. -/
def labD (d e : DV) : Prop := e = d ∨ ∃ k k' n sz lo len full, d = .sl k n sz lo len full ∧ e = .sl k' n sz lo len full
theorem le_lab {st : St} (j : Nat) {n s : Nat} {x y : List DV} (hp : lget st.H j = some ⟨n, s, [x]⟩) (hlen : x.length = y.length) (hl : ∀ (i : Nat) (d e : DV), x[i]? = some d → y[i]? = some e → labD d e) : Le st ⟨st.tm, lset st.H j (some ⟨n, s, [y]⟩), st.gen⟩ := by
  intro Γ N K a w hR
  have hr : ORel K w ⟨n, s, [y]⟩ := by
    rcases hR.inv.obj j _ hp with ⟨-, h⟩ | ⟨h1, cs, t, fr, hfr, h2, h3, h4, h5⟩ | hm
    · cases h
    · refine .inr (.inl ⟨h1, cs, t, fr, hfr, h2, h3, fun z hz => ?_, fun i z k e hz he => ?_⟩)
      · simp at hz
        subst hz
        rw [← hlen]
        exact h4 x (by simp)
      · match i, hz with
        | 0, hz =>
          obtain rfl := Option.some.inj hz
          have hk : k < x.length := by rw [hlen]; exact (List.getElem?_eq_some_iff.1 he).1
          obtain ⟨d, hd⟩ : ∃ d, x[k]? = some d := ⟨_, List.getElem?_eq_getElem hk⟩
          obtain ⟨c, hc, hv⟩ := h5 0 x k d rfl hd
          refine ⟨c, hc, ?_⟩
          rcases hl k d e hd he with rfl | ⟨k1, k2, n', sz, lo, len, full, rfl, rfl⟩
          · exact hv
          · exact sl_label hv
        | i + 1, hz => simp at hz
    · have hf := mrel_flat hm
      have e : y = x := by
        apply List.ext_getElem?
        intro i
        by_cases hi : i < x.length
        · obtain ⟨d, hd⟩ : ∃ d, x[i]? = some d := ⟨_, List.getElem?_eq_getElem hi⟩
          obtain ⟨e, he⟩ : ∃ e, y[i]? = some e := ⟨_, List.getElem?_eq_getElem (by omega)⟩
          rcases hl i d e hd he with rfl | ⟨k1, k2, n', sz, lo, len, full, rfl, rfl⟩
          · rw [hd, he]
          · rcases hf x (by simp) _ (List.mem_of_getElem? hd) with q | ⟨v, q⟩ <;> cases q
        · rw [List.getElem?_eq_none (by omega), List.getElem?_eq_none (by omega)]
      subst e
      exact .inr (.inr hm)
  have hI := inv_obj hR.inv hp hr
  refine ⟨K, ?_, hR.fresh, hR.g0, hR.size, hR.defers, hR.tm⟩
  have e : lget (lset st.H j (some ⟨n, s, [y]⟩)) = fun q => if q = j then some ⟨n, s, [y]⟩ else lget st.H q := by
    funext q
    exact lget_lset _ _ _ _
  show Inv Γ K (lget (lset st.H j (some ⟨n, s, [y]⟩))) w
  rw [e]
  exact hI
theorem rowL_refl (k n sz : Nat) : ∀ l : List DV, rowL k n sz l l
  | [] => rfl
  | d :: r => ⟨.inl rfl, rowL_refl k n sz r⟩
theorem rowL_mid (k n sz : Nat) (B : List DV) : ∀ A : List DV, rowL k n sz (A ++ nilD :: B) (A ++ .sl k n sz 0 0 false :: B)
  | [] => ⟨.inr ⟨rfl, rfl⟩, rowL_refl k n sz B⟩
  | a :: r => ⟨.inl rfl, rowL_mid k n sz B r⟩
/-- Nil lists become rows of the call's own. -/
theorem le_rows (tm : Env) (o0 : Option AObj) (n g : Nat) (c : DV) : ∀ m, m ≤ 96 → Le ⟨tm, o0 :: some ⟨n, 97, [c :: List.replicate 96 nilD]⟩ :: [], g⟩
    ⟨tm, o0 :: some ⟨n, 97, [c :: (rowc (fun j => j + 5) (fun j => g + j) 0 (List.replicate m []) ++ List.replicate (96 - m) nilD)]⟩ :: none :: none :: none :: rowh (fun j => g + j) 0 (List.replicate m []), g + m⟩
  | 0, _ => le_hs (hs_cons (.inl rfl) (hs_cons (.inl rfl) fun k o h => by
      match k, h with
      | 0, h | 1, h | 2, h => cases h
      | k + 3, h => simp [rowh, lget] at h)) (Nat.le_refl _)
  | m + 1, hm => by
    refine (le_rows tm o0 n g c m (by omega)).trans ?_
    have e1 : List.replicate (96 - m) nilD = nilD :: List.replicate (96 - (m + 1)) nilD := by rw [show 96 - m = (96 - (m + 1)) + 1 by omega]; rfl
    have hl : (rowh (fun j => g + j) 0 (List.replicate m [])).length = m := by rw [rowh_len]; simp
    have h := le_rowO (st := ⟨tm, o0 :: some ⟨n, 97, [c :: (rowc (fun j => j + 5) (fun j => g + j) 0 (List.replicate m []) ++ List.replicate (96 - m) nilD)]⟩ :: none :: none :: none :: rowh (fun j => g + j) 0 (List.replicate m []), g + m⟩) 1 (m + 5) 2 (by omega)
      (y := c :: (rowc (fun j => j + 5) (fun j => g + j) 0 (List.replicate m []) ++ .sl (m + 5) (g + m) 2 0 0 false :: List.replicate (96 - (m + 1)) nilD)) rfl (by
        rw [e1]
        exact ⟨.inl rfl, rowL_mid _ _ _ _ _⟩)
    refine h.trans ?_
    have e2 : lset (rowh (fun j => g + j) 0 (List.replicate m [])) m (some ⟨g + m, 2, []⟩) = rowh (fun j => g + j) 0 (List.replicate (m + 1) []) := by
      have := lset_end (some ⟨g + m, 2, []⟩) (rowh (fun j => g + j) 0 (List.replicate m []))
      rw [hl] at this
      rw [this, List.replicate_succ', rowh_app]
      simp
    have e3 : rowc (fun j => j + 5) (fun j => g + j) 0 (List.replicate (m + 1) []) = rowc (fun j => j + 5) (fun j => g + j) 0 (List.replicate m []) ++ [.sl (m + 5) (g + m) 2 0 0 false] := by
      rw [List.replicate_succ', rowc_app]
      simp
    rw [e3, ← e2, List.append_assoc]
    exact Le.refl _
/-- All labels the same. -/
theorem le_same (tm : Env) (o0 : Option AObj) (T : HL) (n g : Nat) (c : DV) (lb lb' nm : Nat → Nat) (L : WL) : Le ⟨tm, o0 :: some ⟨n, 97, [c :: rowc lb nm 0 L]⟩ :: T, g⟩ ⟨tm, o0 :: some ⟨n, 97, [c :: rowc lb' nm 0 L]⟩ :: T, g⟩ :=
  le_lab (st := ⟨tm, o0 :: some ⟨n, 97, [c :: rowc lb nm 0 L]⟩ :: T, g⟩) 1 rfl (by simp [rowc_len]) (fun i d e hd he => by
    match i, hd, he with
    | 0, hd, he =>
      simp at hd he
      exact .inl (he.symm.trans hd)
    | i + 1, hd, he =>
      have hi : i < L.length := by
        have := (List.getElem?_eq_some_iff.1 hd).1
        simpa [rowc_len] using this
      obtain ⟨l, hl⟩ : ∃ l, L[i]? = some l := ⟨_, List.getElem?_eq_getElem hi⟩
      have h1 := rowc_get (lb := lb) (nm := nm) L 0 i l hl
      have h2 := rowc_get (lb := lb') (nm := nm) L 0 i l hl
      simp at hd he
      rw [hd] at h1
      rw [he] at h2
      exact .inr ⟨_, _, _, _, _, _, _, Option.some.inj h1, Option.some.inj h2⟩)
theorem le_focus {tm : Env} {g : Nat} {o0 b a2 a3 : Option AObj} {T : HL} (i : Nat) {o : AObj} (h : lget T i = some o) : Le ⟨tm, o0 :: b :: a2 :: a3 :: none :: T, g⟩ ⟨tm, o0 :: b :: a2 :: a3 :: some o :: lset T i none, g⟩ :=
  le_place (st := ⟨tm, o0 :: b :: a2 :: a3 :: none :: T, g⟩) (i + 5) 4 h (fun _ => rfl)
theorem le_unfocus {tm : Env} {g : Nat} {o0 b a2 a3 : Option AObj} {T : HL} (i : Nat) {o : AObj} (h : lget T i = none) : Le ⟨tm, o0 :: b :: a2 :: a3 :: some o :: T, g⟩ ⟨tm, o0 :: b :: none :: none :: none :: lset T i (some o), g⟩ :=
  (le_place (st := ⟨tm, o0 :: b :: a2 :: a3 :: some o :: T, g⟩) 4 (i + 5) rfl (fun _ => h)).trans (le_hs (hs_cons (.inl rfl) (hs_cons (.inl rfl) (hs_cons (.inr rfl) (hs_cons (.inr rfl) (hs_cons (.inl rfl) (hs_refl _)))))) (Nat.le_refl _))
/-! The rows given up. -/
theorem frzL_mid {o : AObj} {x y : DV} (h : frzP o x y) (B : List DV) : ∀ A : List DV, frzL o (A ++ x :: B) (A ++ y :: B)
  | [] => by
    simp only [List.nil_append, frzL]
    exact ⟨h, frzL_refl o B⟩
  | a :: r => by
    simp only [List.cons_append, frzL]
    exact ⟨frzP_refl o a, frzL_mid h B r⟩
theorem leG_rows {Γ : Gm} (hW : ∀ g, ¬ Γ.W0 g) (tm : Env) (o0 : Option AObj) (n g : Nat) (c : DV) (lb nm : Nat → Nat) (L : WL) : ∀ m, m ≤ L.length → LeG Γ ⟨tm, o0 :: some ⟨n, 97, [c :: rowc lb nm 0 L]⟩ :: none :: none :: none :: rowh nm 0 L, g⟩
    ⟨tm, o0 :: some ⟨n, 97, [c :: ((L.take m).map snapD ++ rowc lb nm m (L.drop m))]⟩ :: none :: none :: none :: (List.replicate m none ++ rowh nm m (L.drop m)), g⟩
  | 0, _ => fun N K a w h => ⟨K, by simpa using h⟩
  | m + 1, hm => by
    refine leG_trans (leG_rows hW tm o0 n g c lb nm L m (by omega)) ?_
    obtain ⟨l, hl⟩ : ∃ l, L[m]? = some l := ⟨_, List.getElem?_eq_getElem (by omega)⟩
    have hd : L.drop m = l :: L.drop (m + 1) := by
      rw [List.drop_eq_getElem_cons (by omega), show L[m] = l from Option.some.inj ((List.getElem?_eq_getElem (by omega)).symm.trans hl)]
    rw [hd]
    have hget : lget (List.replicate m none ++ rowh nm m (l :: L.drop (m + 1))) m = some ⟨nm m, 2, l.map Du.enc⟩ := by
      have : ∀ (A : HL) (x : Option AObj) (B : HL), lget (A ++ x :: B) A.length = x := fun A x B => by
        induction A with
        | nil => rfl
        | cons a r ih => exact ih
      have h := this (List.replicate m none) (some ⟨nm m, 2, l.map Du.enc⟩) (rowh nm (m + 1) (L.drop (m + 1)))
      rw [List.length_replicate] at h
      exact h
    have h := leG_freezeO (st := ⟨tm, o0 :: some ⟨n, 97, [c :: ((L.take m).map snapD ++ rowc lb nm m (l :: L.drop (m + 1)))]⟩ :: none :: none :: none :: (List.replicate m none ++ rowh nm m (l :: L.drop (m + 1))), g⟩) hW 1 (m + 5) (by omega)
      (ys := [c :: ((L.take m).map snapD ++ snapD l :: rowc lb nm (m + 1) (L.drop (m + 1)))]) hget rfl (by
        refine ⟨?_, rfl⟩
        simp only [frzL]
        refine ⟨frzP_refl _ c, frzL_mid ?_ _ _⟩
        rw [frzP]
        refine .inl ⟨rfl, rfl, by simp, ?_⟩
        rw [xall (by simp)])
    refine leG_trans h ?_
    have e1 : (L.take (m + 1)).map snapD ++ rowc lb nm (m + 1) (L.drop (m + 1)) = (L.take m).map snapD ++ snapD l :: rowc lb nm (m + 1) (L.drop (m + 1)) := by
      rw [take_snoc hl]
      simp
    have e2 : lset (List.replicate m none ++ rowh nm m (l :: L.drop (m + 1))) m none = List.replicate (m + 1) none ++ rowh nm (m + 1) (L.drop (m + 1)) := by
      have h := lset_mid (some ⟨nm m, 2, l.map Du.enc⟩) none (rowh nm (m + 1) (L.drop (m + 1))) (List.replicate m none)
      rw [List.length_replicate] at h
      rw [List.replicate_succ', List.append_assoc]
      exact h
    rw [e1, ← e2]
    exact le_leG (Le.refl _)
theorem leG_all {Γ : Gm} (hW : ∀ g, ¬ Γ.W0 g) (tm : Env) (o0 : Option AObj) (n g : Nat) (c : DV) (lb nm : Nat → Nat) (L : WL) : LeG Γ ⟨tm, o0 :: some ⟨n, 97, [c :: rowc lb nm 0 L]⟩ :: none :: none :: none :: rowh nm 0 L, g⟩ ⟨tm, [o0, some ⟨n, 97, [c :: L.map snapD]⟩], g⟩ := by
  refine leG_trans (leG_rows hW tm o0 n g c lb nm L L.length (Nat.le_refl _)) (le_leG ?_)
  rw [List.take_length, List.drop_length]
  simp only [rowc, List.append_nil]
  exact le_hs (hs_cons (.inl rfl) (hs_cons (.inl rfl) (hs_nil _))) (Nat.le_refl _)
/-! The same, one object more in front. -/
/-- Nil lists become rows of the call's own. -/
theorem le_rows6 (tm : Env) (a0 o0 : Option AObj) (n g : Nat) (c : DV) : ∀ m, m ≤ 96 → Le ⟨tm, a0 :: o0 :: some ⟨n, 97, [c :: List.replicate 96 nilD]⟩ :: [], g⟩
    ⟨tm, a0 :: o0 :: some ⟨n, 97, [c :: (rowc (fun j => j + 6) (fun j => g + j) 0 (List.replicate m []) ++ List.replicate (96 - m) nilD)]⟩ :: none :: none :: none :: rowh (fun j => g + j) 0 (List.replicate m []), g + m⟩
  | 0, _ => le_hs (hs_cons (.inl rfl) (hs_cons (.inl rfl) (hs_cons (.inl rfl) fun k o h => by
      match k, h with
      | 0, h | 1, h | 2, h => cases h
      | k + 3, h => simp [rowh, lget] at h))) (Nat.le_refl _)
  | m + 1, hm => by
    refine (le_rows6 tm a0 o0 n g c m (by omega)).trans ?_
    have e1 : List.replicate (96 - m) nilD = nilD :: List.replicate (96 - (m + 1)) nilD := by rw [show 96 - m = (96 - (m + 1)) + 1 by omega]; rfl
    have hl : (rowh (fun j => g + j) 0 (List.replicate m [])).length = m := by rw [rowh_len]; simp
    have h := le_rowO (st := ⟨tm, a0 :: o0 :: some ⟨n, 97, [c :: (rowc (fun j => j + 6) (fun j => g + j) 0 (List.replicate m []) ++ List.replicate (96 - m) nilD)]⟩ :: none :: none :: none :: rowh (fun j => g + j) 0 (List.replicate m []), g + m⟩) 2 (m + 6) 2 (by omega)
      (y := c :: (rowc (fun j => j + 6) (fun j => g + j) 0 (List.replicate m []) ++ .sl (m + 6) (g + m) 2 0 0 false :: List.replicate (96 - (m + 1)) nilD)) rfl (by
        rw [e1]
        exact ⟨.inl rfl, rowL_mid _ _ _ _ _⟩)
    refine h.trans ?_
    have e2 : lset (rowh (fun j => g + j) 0 (List.replicate m [])) m (some ⟨g + m, 2, []⟩) = rowh (fun j => g + j) 0 (List.replicate (m + 1) []) := by
      have := lset_end (some ⟨g + m, 2, []⟩) (rowh (fun j => g + j) 0 (List.replicate m []))
      rw [hl] at this
      rw [this, List.replicate_succ', rowh_app]
      simp
    have e3 : rowc (fun j => j + 6) (fun j => g + j) 0 (List.replicate (m + 1) []) = rowc (fun j => j + 6) (fun j => g + j) 0 (List.replicate m []) ++ [.sl (m + 6) (g + m) 2 0 0 false] := by
      rw [List.replicate_succ', rowc_app]
      simp
    rw [e3, ← e2, List.append_assoc]
    exact Le.refl _
theorem le_focus6 {tm : Env} {g : Nat} {a0 o0 b a2 a3 : Option AObj} {T : HL} (i : Nat) {o : AObj} (h : lget T i = some o) : Le ⟨tm, a0 :: o0 :: b :: a2 :: a3 :: none :: T, g⟩ ⟨tm, a0 :: o0 :: b :: a2 :: a3 :: some o :: lset T i none, g⟩ :=
  le_place (st := ⟨tm, a0 :: o0 :: b :: a2 :: a3 :: none :: T, g⟩) (i + 6) 5 h (fun _ => rfl)
theorem le_unfocus6 {tm : Env} {g : Nat} {a0 o0 b a2 a3 : Option AObj} {T : HL} (i : Nat) {o : AObj} (h : lget T i = none) : Le ⟨tm, a0 :: o0 :: b :: a2 :: a3 :: some o :: T, g⟩ ⟨tm, a0 :: o0 :: b :: none :: none :: none :: lset T i (some o), g⟩ :=
  (le_place (st := ⟨tm, a0 :: o0 :: b :: a2 :: a3 :: some o :: T, g⟩) 5 (i + 6) rfl (fun _ => h)).trans (le_hs (hs_cons (.inl rfl) (hs_cons (.inl rfl) (hs_cons (.inl rfl) (hs_cons (.inr rfl) (hs_cons (.inr rfl) (hs_cons (.inl rfl) (hs_refl _))))))) (Nat.le_refl _))
theorem leG_rows6 {Γ : Gm} {a0 : Option AObj} (hW : ∀ (st : St) (k : Nat) (o : AObj), lget st.H 0 = a0 → 1 ≤ k → lget st.H k = some o → ∀ N K a w, Rel Γ N st K a w → K.real o.n → ¬ Γ.W0 (K.μ o.n)) (tm : Env) (o0 : Option AObj) (n g : Nat) (c : DV) (lb nm : Nat → Nat) (L : WL) : ∀ m, m ≤ L.length → LeG Γ ⟨tm, a0 :: o0 :: some ⟨n, 97, [c :: rowc lb nm 0 L]⟩ :: none :: none :: none :: rowh nm 0 L, g⟩
    ⟨tm, a0 :: o0 :: some ⟨n, 97, [c :: ((L.take m).map snapD ++ rowc lb nm m (L.drop m))]⟩ :: none :: none :: none :: (List.replicate m none ++ rowh nm m (L.drop m)), g⟩
  | 0, _ => fun N K a w h => ⟨K, by simpa using h⟩
  | m + 1, hm => by
    refine leG_trans (leG_rows6 hW tm o0 n g c lb nm L m (by omega)) ?_
    obtain ⟨l, hl⟩ : ∃ l, L[m]? = some l := ⟨_, List.getElem?_eq_getElem (by omega)⟩
    have hd : L.drop m = l :: L.drop (m + 1) := by
      rw [List.drop_eq_getElem_cons (by omega), show L[m] = l from Option.some.inj ((List.getElem?_eq_getElem (by omega)).symm.trans hl)]
    rw [hd]
    have hget : lget (List.replicate m none ++ rowh nm m (l :: L.drop (m + 1))) m = some ⟨nm m, 2, l.map Du.enc⟩ := by
      have : ∀ (A : HL) (x : Option AObj) (B : HL), lget (A ++ x :: B) A.length = x := fun A x B => by
        induction A with
        | nil => rfl
        | cons a r ih => exact ih
      have h := this (List.replicate m none) (some ⟨nm m, 2, l.map Du.enc⟩) (rowh nm (m + 1) (L.drop (m + 1)))
      rw [List.length_replicate] at h
      exact h
    have h := leG_freezeOG (st := ⟨tm, a0 :: o0 :: some ⟨n, 97, [c :: ((L.take m).map snapD ++ rowc lb nm m (l :: L.drop (m + 1)))]⟩ :: none :: none :: none :: (List.replicate m none ++ rowh nm m (l :: L.drop (m + 1))), g⟩) 2 (m + 6)
      (ys := [c :: ((L.take m).map snapD ++ snapD l :: rowc lb nm (m + 1) (L.drop (m + 1)))]) (hW _ (m + 6) _ rfl (by omega) hget) hget rfl (by
        refine ⟨?_, rfl⟩
        simp only [frzL]
        refine ⟨frzP_refl _ c, frzL_mid ?_ _ _⟩
        rw [frzP]
        refine .inl ⟨rfl, rfl, by simp, ?_⟩
        rw [xall (by simp)])
    refine leG_trans h ?_
    have e1 : (L.take (m + 1)).map snapD ++ rowc lb nm (m + 1) (L.drop (m + 1)) = (L.take m).map snapD ++ snapD l :: rowc lb nm (m + 1) (L.drop (m + 1)) := by
      rw [take_snoc hl]
      simp
    have e2 : lset (List.replicate m none ++ rowh nm m (l :: L.drop (m + 1))) m none = List.replicate (m + 1) none ++ rowh nm (m + 1) (L.drop (m + 1)) := by
      have h := lset_mid (some ⟨nm m, 2, l.map Du.enc⟩) none (rowh nm (m + 1) (L.drop (m + 1))) (List.replicate m none)
      rw [List.length_replicate] at h
      rw [List.replicate_succ', List.append_assoc]
      exact h
    rw [e1, ← e2]
    exact le_leG (Le.refl _)
theorem leG_all6 {Γ : Gm} {a0 : Option AObj} (hW : ∀ (st : St) (k : Nat) (o : AObj), lget st.H 0 = a0 → 1 ≤ k → lget st.H k = some o → ∀ N K a w, Rel Γ N st K a w → K.real o.n → ¬ Γ.W0 (K.μ o.n)) (tm : Env) (o0 : Option AObj) (n g : Nat) (c : DV) (lb nm : Nat → Nat) (L : WL) : LeG Γ ⟨tm, a0 :: o0 :: some ⟨n, 97, [c :: rowc lb nm 0 L]⟩ :: none :: none :: none :: rowh nm 0 L, g⟩ ⟨tm, [a0, o0, some ⟨n, 97, [c :: L.map snapD]⟩], g⟩ := by
  refine leG_trans (leG_rows6 hW tm o0 n g c lb nm L L.length (Nat.le_refl _)) (le_leG ?_)
  rw [List.take_length, List.drop_length]
  simp only [rowc, List.append_nil]
  exact le_hs (hs_cons (.inl rfl) (hs_cons (.inl rfl) (hs_cons (.inl rfl) (hs_nil _)))) (Nat.le_refl _)
end Go.Proofs.Ytecnjhmpipfldaa
