/-
  Feed's own copy of a pool: all parts given up, or those of one heap kept as a row of its own.
-/
import Derived.Test.YtidogmmfakcfgaaFeedK
namespace Go.Proofs.Ytidogmmfakcfgaa
set_option linter.unusedVariables false
set_option linter.unusedSimpArgs false
def rowsO (l : List Hp) (i : Nat) (u : Hp) (d : DV) (k : Nat) : List (List DV) := (l.take i).map Hp.enc ++ u.cells d :: ((l.drop (i + 1)).take (k - (i + 1))).map Hp.enc
theorem rowsO_len (l : List Hp) (i : Nat) (u : Hp) (d : DV) (k : Nat) (hi : i < k) (hk : k ≤ l.length) : (rowsO l i u d k).length = k := by
  unfold rowsO
  simp only [List.length_append, List.length_cons, List.length_map, List.length_take, List.length_drop]
  omega
theorem take_snoc' {l : List Hp} {k : Nat} {t : Hp} (ht : l[k]? = some t) : (l.take k).map Hp.enc ++ [t.enc] = (l.take (k + 1)).map Hp.enc := by
  rw [List.take_add_one, ht, List.map_append]
  rfl
theorem rowsO_next {l : List Hp} {i k : Nat} {u t : Hp} {d : DV} (hi : i < k) (ht : l[k]? = some t) : rowsO l i u d k ++ [t.enc] = rowsO l i u d (k + 1) := by
  unfold rowsO
  rw [List.append_assoc, List.cons_append]
  congr 2
  have h : (l.drop (i + 1))[k - (i + 1)]? = some t := by
    rw [List.getElem?_drop, show i + 1 + (k - (i + 1)) = k by omega]
    exact ht
  rw [show k + 1 - (i + 1) = (k - (i + 1)) + 1 by omega, take_snoc' h]
theorem rowsO_first {l : List Hp} {i : Nat} {u : Hp} {d : DV} : (l.take i).map Hp.enc ++ [u.cells d] = rowsO l i u d (i + 1) := by
  unfold rowsO
  rw [Nat.sub_self]
  rfl
abbrev PoolRm (l : List Hp) : Prop := room l.length 80 ∧ ∀ u ∈ l, room u.ps.length 32
set_option maxHeartbeats 1000000 in
theorem own_frz (lb : Nat) (l : List Hp) (hr : PoolRm l) : MSpec Try.prog 9 [dPool l] [] 1 (fun n d H => d = .sl lb n 8 0 l.length false ∧ H = [some ⟨n, 8, l.map Hp.enc⟩]) := by
  have hl := hr.1
  unfold room maxLen at hl
  refine mspec_fn Try.func9 rfl ok_frag_own okr_frag_own rfl (by kernel_rfl) ?_
  intro Γ hW0 hN0 hL0
  have hW := hW0 rfl
  clear hW0 hN0 hL0
  unfold x_frag_own r_frag_own
  with_reducible refine auC ?_
  repeat' (first
    | (with_reducible refine auS ?_)
    | fail
    | (with_reducible refine auD ?_)
    | ((with_reducible refine auB ?_ ?_); all_goals first | ((with_reducible intro h); first | exact auH | simp only [h, runR_t, runR_f] | skip) | skip)
    | fail)
  refine go_loopH (α := Nat × Nat × Nat) (fun a => [(⟨.d0, .d1, .d3⟩, .v (.int .i64 (a.1 : Nat))), (⟨.d0, .d0, .d3⟩, .sl 0 a.2.1 8 0 a.1 false)]) (fun a => [(0, some ⟨a.2.1, 8, (l.take a.1).map Hp.enc⟩), (1, none), (2, none)]) (fun a => a.2.2) (fun a => l.length - a.1) (fun a => a.1 ≤ l.length) (0, Γ.g0, Γ.g0 + 1) (Nat.zero_le _) ?_ ?_
  · skip
    refine le_mk ?_ ?_ (Nat.le_refl _)
    all_goals first | with_reducible refine auE ?_ | exact auE0
    all_goals (repeat' (first | exact trivial | exact rfl | apply And.intro))
  rintro ⟨k, nm, g⟩ hk
  dsimp only at hk ⊢
  with_reducible refine auL ?_
  have htl : ((l.take k).map Hp.enc).length = k := by rw [List.length_map, List.length_take]; omega
  by_cases hlt : k < l.length
  · obtain ⟨t, ht⟩ : ∃ t, l[k]? = some t := ⟨_, List.getElem?_eq_getElem hlt⟩
    have ex := xget_map Hp.enc l k t ht
    have hc := ptclonef_spec t.ps false (hr.2 t (List.mem_of_getElem? ht))
    have hs := take_snoc' ht
    repeat' (first
      | (with_reducible refine auS ?_)
      | (with_reducible refine runR_call hc ?_)
      | (with_reducible refine auD ?_)
      | ((with_reducible refine auB ?_ ?_); all_goals first | ((with_reducible intro h); first | exact auH | simp only [h, runR_t, runR_f] | skip) | skip)
      | (first | (simp only [Int.toNat_natCast, ex]) | (refine runR_n ⟨by trivial, by trivial, by trivial, by trivial, by (rw [htl])⟩ ?_) | (refine runR_n ⟨by rfl, by (unfold room maxLen; rw [htl]; simp; omega)⟩ ?_)))
    (all_goals first | exact auP | skip)
    refine nx_loop ⟨(k + 1, g + 1 + 1, g + 3), hlt, by dsimp only; omega, ?_⟩
    refine le_mk ?_ ?_ (Nat.le_refl _)
    all_goals first | with_reducible refine auE ?_ | exact auE0
    all_goals (repeat' (first | exact trivial | exact rfl | apply And.intro))
    all_goals first
      | exact dint ((IntWalk.i64_in _ (by omega)).trans (by omega))
      | (rw [htl]; done)
      | exact congrArg some (congrArg (AObj.mk (g + 1 + 1) 8) hs)
  · obtain rfl : k = l.length := by omega
    rw [List.take_length]
    repeat' (first
      | (with_reducible refine auS ?_)
      | fail
      | (with_reducible refine auD ?_)
      | ((with_reducible refine auB ?_ ?_); all_goals first | ((with_reducible intro h); first | exact auH | simp only [h, runR_t, runR_f] | skip) | skip)
      | fail)
    (all_goals first | exact auP | skip)
    exact ret_m [0] [nm] trivial (by decide) rfl (fun a ha => by simp at ha; subst ha; exact ⟨0, _, rfl, rfl⟩) (fun m => ⟨lb, m, .inl ⟨0, rfl, rfl⟩, rfl⟩) (fun m => ⟨⟨.inl ⟨0, rfl, rfl⟩, rfl, renMLL_nf _ (hp_nf _ _)⟩, rfl⟩)
theorem renMLL_mid {g n : Nat} {ns : List Nat} {x y : List DV} (h : renML g ns n x y) : ∀ A B : List (List DV), nfLL g A → nfLL g B → renMLL g ns n (A ++ x :: B) (A ++ y :: B)
  | [], B, _, hB => ⟨h, renMLL_nf B hB⟩
  | a :: A, B, hA, hB => ⟨renML_nf a hA.1, renMLL_mid h A B hA.2 hB⟩
abbrev slP (lb n : Nat) (ps : List Pt) : DV := .sl lb n 3 0 ps.length false
set_option maxHeartbeats 1000000 in
theorem own_one (lb lc : Nat) (l : List Hp) (hr : PoolRm l) (i : Nat) (u : Hp) (hi : l[i]? = some u) : MSpec Try.prog 9 [dPool l] [] 2 (fun n d H => d = .sl lb n 8 0 l.length false ∧ H = [some ⟨n, 8, rowsO l i u (slP lc (n + 1) u.ps) l.length⟩, some ⟨n + 1, 3, u.ps.map Pt.enc⟩]) := by
  have hl := hr.1
  unfold room maxLen at hl
  have hil : i < l.length := (List.getElem?_eq_some_iff.1 hi).1
  refine mspec_fn Try.func9 rfl ok_frag_own okr_frag_own rfl (by kernel_rfl) ?_
  intro Γ hW0 hN0 hL0
  have hW := hW0 rfl
  clear hW0 hN0 hL0
  unfold x_frag_own r_frag_own
  with_reducible refine auC ?_
  repeat' (first
    | (with_reducible refine auS ?_)
    | fail
    | (with_reducible refine auD ?_)
    | ((with_reducible refine auB ?_ ?_); all_goals first | ((with_reducible intro h); first | exact auH | simp only [h, runR_t, runR_f] | skip) | skip)
    | fail)
  refine go_loopH (α := Nat × List (List DV) × Option AObj × Nat × Nat × Nat) (fun a => [(⟨.d0, .d1, .d3⟩, .v (.int .i64 (a.1 : Nat))), (⟨.d0, .d0, .d3⟩, .sl 0 a.2.2.2.1 8 0 a.1 false)]) (fun a => [(0, some ⟨a.2.2.2.1, 8, a.2.1⟩), (1, none), (2, none), (5, a.2.2.1)]) (fun a => a.2.2.2.2.2) (fun a => l.length - a.1)
    (fun a => a.1 ≤ l.length ∧ ((a.1 ≤ i ∧ a.2.1 = (l.take a.1).map Hp.enc ∧ a.2.2.1 = none) ∨ (i < a.1 ∧ a.2.1 = rowsO l i u (slP 5 a.2.2.2.2.1 u.ps) a.1 ∧ a.2.2.1 = some ⟨a.2.2.2.2.1, 3, u.ps.map Pt.enc⟩))) (0, [], none, Γ.g0, Γ.g0, Γ.g0 + 1) ⟨Nat.zero_le _, .inl ⟨Nat.zero_le _, rfl, rfl⟩⟩ ?_ ?_
  · skip
    refine le_mk ?_ ?_ (Nat.le_refl _)
    all_goals first | with_reducible refine auE ?_ | exact auE0
    all_goals (repeat' (first | exact trivial | exact rfl | apply And.intro))
  rintro ⟨k, rows, op, nm, np, g⟩ ⟨hk, hcase⟩
  dsimp only at hk hcase ⊢
  with_reducible refine auL ?_
  by_cases hlt : k < l.length
  · obtain ⟨t, ht⟩ : ∃ t, l[k]? = some t := ⟨_, List.getElem?_eq_getElem hlt⟩
    have ex := xget_map Hp.enc l k t ht
    have hrt := hr.2 t (List.mem_of_getElem? ht)
    have hc := ptclonef_spec t.ps false hrt
    rcases hcase with ⟨hki, rfl, rfl⟩ | ⟨hki, rfl, rfl⟩
    · have htl : ((l.take k).map Hp.enc).length = k := by rw [List.length_map, List.length_take]; omega
      have hs := take_snoc' ht
      by_cases he : k = i
      · subst he
        obtain rfl : t = u := Option.some.inj (ht.symm.trans hi)
        have hco := ptclone_spec 5 t.ps false hrt
        repeat' (first
          | (with_reducible refine auS ?_)
          | (with_reducible refine runR_callO 5 hco ?_)
          | (with_reducible refine auD ?_)
          | ((with_reducible refine auB ?_ ?_); all_goals first | ((with_reducible intro h); first | exact auH | simp only [h, runR_t, runR_f] | skip) | skip)
          | (first | (simp only [Int.toNat_natCast, ex]) | (refine runR_n ⟨by trivial, by trivial, by trivial, by trivial, by (rw [htl])⟩ ?_) | (refine runR_n ⟨by rfl, by (unfold room maxLen; rw [htl]; simp; omega)⟩ ?_)))
        (all_goals first | exact auP | skip)
        refine nx_loop ⟨(k + 1, rowsO l k t (slP 5 (g + 1) t.ps) (k + 1), some ⟨g + 1, 3, t.ps.map Pt.enc⟩, g + 2 + 1, g + 1, g + 4), ⟨hlt, .inr ⟨Nat.lt_succ_self k, rfl, rfl⟩⟩, by dsimp only; omega, ?_⟩
        refine le_mk ?_ ?_ (Nat.le_refl _)
        all_goals first | with_reducible refine auE ?_ | exact auE0
        all_goals (repeat' (first | exact trivial | exact rfl | apply And.intro))
        all_goals first
          | exact dint ((IntWalk.i64_in _ (by omega)).trans (by omega))
          | (rw [htl]; done)
          | exact congrArg some (congrArg (AObj.mk (g + 2 + 1) 8) rowsO_first)
      · skip
        repeat' (first
          | (with_reducible refine auS ?_)
          | (with_reducible refine runR_call hc ?_)
          | (with_reducible refine auD ?_)
          | ((with_reducible refine auB ?_ ?_); all_goals first | ((with_reducible intro h); first | exact auH | simp only [h, runR_t, runR_f] | skip) | skip)
          | (first | (simp only [Int.toNat_natCast, ex]) | (refine runR_n ⟨by trivial, by trivial, by trivial, by trivial, by (rw [htl])⟩ ?_) | (refine runR_n ⟨by rfl, by (unfold room maxLen; rw [htl]; simp; omega)⟩ ?_)))
        (all_goals first | exact auP | skip)
        refine nx_loop ⟨(k + 1, (l.take (k + 1)).map Hp.enc, none, g + 1 + 1, np, g + 3), ⟨hlt, .inl ⟨by omega, rfl, rfl⟩⟩, by dsimp only; omega, ?_⟩
        refine le_mk ?_ ?_ (Nat.le_refl _)
        all_goals first | with_reducible refine auE ?_ | exact auE0
        all_goals (repeat' (first | exact trivial | exact rfl | apply And.intro))
        all_goals first
          | exact dint ((IntWalk.i64_in _ (by omega)).trans (by omega))
          | (rw [htl]; done)
          | exact congrArg some (congrArg (AObj.mk (g + 1 + 1) 8) hs)
    · have htl := rowsO_len l i u (slP 5 np u.ps) k hki hk
      have hs := rowsO_next (u := u) (d := slP 5 np u.ps) hki ht
      generalize rowsO l i u (slP 5 np u.ps) k = rows at *
      repeat' (first
        | (with_reducible refine auS ?_)
        | (with_reducible refine runR_call hc ?_)
        | (with_reducible refine auD ?_)
        | ((with_reducible refine auB ?_ ?_); all_goals first | ((with_reducible intro h); first | exact auH | simp only [h, runR_t, runR_f] | skip) | skip)
        | (first | (simp only [Int.toNat_natCast, ex]) | (refine runR_n ⟨by trivial, by trivial, by trivial, by trivial, by (rw [htl])⟩ ?_) | (refine runR_n ⟨by rfl, by (unfold room maxLen; rw [htl]; simp; omega)⟩ ?_)))
      (all_goals first | exact auP | skip)
      refine nx_loop ⟨(k + 1, rowsO l i u (slP 5 np u.ps) (k + 1), some ⟨np, 3, u.ps.map Pt.enc⟩, g + 1 + 1, np, g + 3), ⟨hlt, .inr ⟨by omega, rfl, rfl⟩⟩, by dsimp only; omega, ?_⟩
      refine le_mk ?_ ?_ (Nat.le_refl _)
      all_goals first | with_reducible refine auE ?_ | exact auE0
      all_goals (repeat' (first | exact trivial | exact rfl | apply And.intro))
      all_goals first
        | exact dint ((IntWalk.i64_in _ (by omega)).trans (by omega))
        | (rw [htl]; done)
        | exact congrArg some (congrArg (AObj.mk (g + 1 + 1) 8) hs)
  · obtain rfl : k = l.length := by omega
    rcases hcase with ⟨hki, -, -⟩ | ⟨hki, rfl, rfl⟩
    · omega
    · skip
      repeat' (first
        | (with_reducible refine auS ?_)
        | fail
        | (with_reducible refine auD ?_)
        | ((with_reducible refine auB ?_ ?_); all_goals first | ((with_reducible intro h); first | exact auH | simp only [h, runR_t, runR_f] | skip) | skip)
        | fail)
      (all_goals first | exact auP | skip)
      refine ret_m [0, 5] [nm, np] trivial (by decide) rfl (fun a ha => ?_) (fun m => ⟨lb, m, .inl ⟨0, rfl, rfl⟩, rfl⟩) (fun m => ⟨⟨.inl ⟨0, rfl, rfl⟩, rfl, ?_⟩, ⟨.inl ⟨1, rfl, rfl⟩, rfl, renMLL_nf _ (pt_nf _ _)⟩, rfl⟩)
      · rcases List.mem_cons.1 ha with rfl | ha
        · exact ⟨0, _, rfl, rfl⟩
        · obtain rfl := List.mem_singleton.1 ha
          exact ⟨5, _, rfl, rfl⟩
      · refine renMLL_mid ?_ _ _ (hp_nf _ _) (hp_nf _ _)
        exact ⟨⟨rfl, trivial⟩, ⟨rfl, trivial⟩, ⟨rfl, trivial⟩, ⟨rfl, trivial⟩, ⟨rfl, trivial⟩, ⟨rfl, trivial⟩, ⟨rfl, trivial⟩, ⟨lc, m + 1, .inl ⟨1, rfl, rfl⟩, rfl⟩, rfl⟩
end Go.Proofs.Ytidogmmfakcfgaa
