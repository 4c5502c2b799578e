/-
  Feed: words for the walk in which a heap is found.
-/
import Derived.Test.YtidogmmfakcfgaaFeedE
namespace Go.Proofs.Ytidogmmfakcfgaa
set_option linter.unusedVariables false
set_option linter.unusedSimpArgs false
abbrev nilV : DV := .v (.slice none 0 0)
abbrev keyC (fr to pr id : Int) : List DV := [.v (.int .u32 fr), .v (.int .u32 to), .v (.int .i64 pr), .v (.int .i64 id), .v (.int .i64 0), .v (.int .i64 0), .v (.string { data := #[] }), nilV]
abbrev keyK (fr to pr id : Int) : Hp := ⟨fr, to, pr, id, 0, 0, [], []⟩
theorem sameKeyK_spec (o : Hp) (fr to pr id : Int) : Spec Try.prog 14 [dH o, .agg (keyC fr to pr id)] (.v (.bool (sameK o (keyK fr to pr id)))) :=
  hspec_args (sameKey_spec o (keyK fr to pr id)) (fun K w vs ha => argsRel_mem ha rfl (fun i d e hd he v hv => by
    match i, hd, he with
    | 0, hd, he =>
      obtain rfl := Option.some.inj hd
      obtain rfl := Option.some.inj he
      exact hv
    | 1, hd, he =>
      obtain rfl := Option.some.inj hd
      obtain rfl := Option.some.inj he
      exact nil_rel hv _ ⟨.inl rfl, .inl rfl, .inl rfl, .inl rfl, .inl rfl, .inl rfl, .inl rfl, .inr ⟨rfl, 3, rfl⟩, rfl⟩
    | i + 2, hd, he => simp at hd))
theorem feed1k_spec (o : Hp) (fr to pr id : Int) : Spec Try.prog 13 [dH o, .rptr (keyC fr to pr id)] (.v (.bool (sameK o (keyK fr to pr id)))) := by
  have h1 := sameKeyK_spec o fr to pr id
  refine hspec_fn Try.func13 rfl ok_frag_Feed_1 okr_frag_Feed_1 rfl (by kernel_rfl) ?_
  intro Γ hW0 hN0 hL0
  have hW := hW0 rfl
  clear hW0 hN0 hL0
  unfold x_frag_Feed_1 r_frag_Feed_1
  with_reducible refine auC ?_
  repeat' (first
    | (with_reducible refine auS ?_)
    | (with_reducible refine runR_call h1 ?_)
    | (with_reducible refine auD ?_)
    | ((with_reducible refine auB ?_ ?_); all_goals first | ((with_reducible intro h); first | exact auH | simp only [h, runR_t, runR_f] | skip) | skip)
    | fail)
  (all_goals first | exact auP | skip)
  all_goals with_reducible refine auF ?_
  all_goals (try first | with_reducible refine auR ?_ | exact auR0)
  all_goals (try simp only [hsM] at *)
theorem idx_spec (l : List Hp) (hl : l.length ≤ maxLen) (fr to pr id : Int) : Spec Try.prog 12 [dPool l, .fn (.func 13) [] [.rptr (keyC fr to pr id)]] (.v (.int .i64 (firstI (fun h => sameK h (keyK fr to pr id)) l 0))) :=
  hpindexf_spec (g := 13) (caps := [.rptr (keyC fr to pr id)]) (fun h => sameK h (keyK fr to pr id)) l false hl (fun t _ => feed1k_spec t fr to pr id)
theorem nfLL_mid {g : Nat} {x : List DV} (hx : nfL g x) : ∀ A B : List (List DV), nfLL g A → nfLL g B → nfLL g (A ++ x :: B)
  | [], B, _, hB => ⟨hx, hB⟩
  | a :: A, B, hA, hB => ⟨hA.1, nfLL_mid hx A B hA.2 hB⟩
theorem frzLL_mid {o : AObj} {x y : List DV} (h : frzL o x y) (B : List (List DV)) : ∀ A : List (List DV), frzLL o (A ++ x :: B) (A ++ y :: B)
  | [] => by
    simp only [List.nil_append, frzLL]
    exact ⟨h, frzLL_refl o B⟩
  | a :: r => by
    simp only [List.cons_append, frzLL]
    exact ⟨frzL_refl o a, frzLL_mid h B r⟩
theorem xset_mid {x y : List DV} (B : List (List DV)) : ∀ A : List (List DV), xset (A ++ x :: B) A.length y = A ++ y :: B
  | [] => rfl
  | a :: r => by
    simp only [List.cons_append, List.length_cons, xset, xset_mid B r]
theorem xget_mid {x : List DV} (B : List (List DV)) : ∀ A : List (List DV), xget (A ++ x :: B) A.length = x
  | [] => rfl
  | a :: r => by
    simp only [List.cons_append, List.length_cons, xget, xget_mid B r]
section
variable {l : List Hp} {i k : Nat}
theorem takeL_len (hi : i < l.length) : ((l.take i).map Hp.enc).length = i := by rw [List.length_map, List.length_take]; omega
theorem rowsO_get (hi : i < l.length) (u : Hp) (d : DV) (k : Nat) : xget (rowsO l i u d k) i = u.cells d := by
  unfold rowsO
  have := xget_mid (x := u.cells d) (((l.drop (i + 1)).take (k - (i + 1))).map Hp.enc) ((l.take i).map Hp.enc)
  rwa [takeL_len hi] at this
theorem rowsO_xset (hi : i < l.length) (u u' : Hp) (d d' : DV) (k : Nat) : xset (rowsO l i u d k) i (u'.cells d') = rowsO l i u' d' k := by
  unfold rowsO
  have := xset_mid (x := u.cells d) (y := u'.cells d') (((l.drop (i + 1)).take (k - (i + 1))).map Hp.enc) ((l.take i).map Hp.enc)
  rwa [takeL_len hi] at this
theorem rowsO_nf (u : Hp) (lb m : Nat) (ps : List Pt) (k g : Nat) (h : m < g) : nfLL g (rowsO l i u (slP lb m ps) k) := by
  unfold rowsO
  refine nfLL_mid ?_ _ _ (hp_nf _ _) (hp_nf _ _)
  exact ⟨trivial, trivial, trivial, trivial, trivial, trivial, trivial, h, trivial⟩
theorem rowsO_frz (u : Hp) (lb m : Nat) (ps : List Pt) (k : Nat) : frzLL ⟨m, 3, ps.map Pt.enc⟩ (rowsO l i u (slP lb m ps) k) (rowsO l i u (dPs ps) k) := by
  unfold rowsO
  refine frzLL_mid ?_ _ _
  simp only [frzL]
  refine ⟨frzP_refl _ _, frzP_refl _ _, frzP_refl _ _, frzP_refl _ _, frzP_refl _ _, frzP_refl _ _, frzP_refl _ _, ?_, trivial⟩
  rw [frzP]
  refine .inl ⟨rfl, rfl, by simp, ?_⟩
  rw [xall (by simp)]
theorem rowsO_all (hi : i < l.length) (u : Hp) : rowsO l i u (dPs u.ps) l.length = (l.set i u).map Hp.enc := by
  unfold rowsO
  have e : l.set i u = l.take i ++ u :: l.drop (i + 1) := List.set_eq_take_append_cons_drop.trans (if_pos hi)
  rw [e, List.map_append, List.map_cons, List.take_of_length_le (l := l.drop (i + 1)) (by rw [List.length_drop]; omega)]
theorem rowsO_same {u : Hp} (hi : l[i]? = some u) : rowsO l i u (dPs u.ps) l.length = l.map Hp.enc := by
  have hil := (List.getElem?_eq_some_iff.1 hi).1
  rw [rowsO_all hil]
  congr 1
  apply List.ext_getElem?
  intro j
  rw [List.getElem?_set]
  by_cases e : i = j
  · subst e
    rw [if_pos rfl, if_pos hil, hi]
  · rw [if_neg e]
end
theorem go_frzP {Γ : Gm} {P : Program} {N : Nat} {R : St → Prop} {x : XC} {kk : List KI} {st : St} (hW : ∀ g, ¬ Γ.W0 g) (j k : Nat) (hjk : j ≠ k) {b : Bool} (hs : st.tm.get ⟨.d0, .d1, .d7⟩ = .v (.bool b)) {l : List Hp} {i n m lb c : Nat} {u : Hp} {ps : List Pt} (hk : lget st.H k = some ⟨m, 3, ps.map Pt.enc⟩) (hj : lget st.H j = some ⟨n, 8, rowsO l i u (slP lb m ps) c⟩)
    (h : Go Γ P N R x kk ⟨st.tm, lset (lset st.H j (some ⟨n, 8, rowsO l i u (dPs ps) c⟩)) k none, st.gen⟩) : Go Γ P N R x kk st :=
  go_leG (leG_freezeO hW j k hjk hk hj (rowsO_frz u lb m ps c)) h
theorem putHyp_of {l : List Hp} {i : Nat} {u : Hp} {v : Pt} (hi : l[i]? = some u) (n m : Nat) (h1 : u.ps.length ≤ 64) (h2 : chR u.ps 0 = true) (h3 : ptOk v = true) (h4 : ∀ p ∈ u.ps, smD p.data.length) (h5 : smD v.data.length) : putHyp n (rowsO l i u (slP 1 m u.ps) l.length) i m u v := by
  have hil := (List.getElem?_eq_some_iff.1 hi).1
  exact ⟨by rw [rowsO_len _ _ _ _ _ hil (Nat.le_refl _)]; exact hil, rowsO_get hil _ _ _, fun g hg => rowsO_nf _ _ _ _ _ _ hg, h1, h2, h3, h4, h5⟩
end Go.Proofs.Ytidogmmfakcfgaa
