/-
  Is a wheel right? In the program.
-/
import Derived.Test.YtecnjhmpipfldaaWheelZ
namespace Go.Proofs.Ytecnjhmpipfldaa
set_option linter.unusedVariables false
set_option linter.unusedSimpArgs false
abbrev keyI (n : Int) : Value := .int .i64 n
theorem keyI_ok (n : Int) : keyOk (.one .i64) (keyI n) = true := rfl
theorem keyI_inj (a b : Int) (h : keyI a = keyI b) : a = b := by
  simpa using h
theorem mlay_keys {kt : KT} {k v : Value} (hk : keyOk kt k = true) : ∀ r : List (List DV), keysOk kt r = true → keysOk kt (mlay r k v) = true := by
  intro r
  induction r with
  | nil => intro _; simp [mlay, keysOk, hk, andB]
  | cons x r ih =>
    intro h
    unfold keysOk at h
    split at h
    · rename_i h0
      cases h0
    · rename_i a b r' h0
      obtain ⟨rfl, rfl⟩ := List.cons.inj h0
      have h1 : keyOk kt a = true ∧ keysOk kt r = true := by
        cases h2 : keyOk kt a <;> simp [h2, andB] at h ⊢
        exact h
      unfold mlay
      split
      · simp [keysOk, h1.1, h1.2, andB]
      · simp [keysOk, h1.1, ih h1.2, andB]
    · cases h
theorem cnt_keys (l : List Int) : keysOk (.one .i64) (cntM keyI l) = true := by
  unfold cntM
  have : ∀ (l : List Int) (r : List (List DV)), keysOk (.one .i64) r = true → keysOk (.one .i64) (l.foldl (incM keyI) r) = true := by
    intro l
    induction l with
    | nil => intro r h; exact h
    | cons a l ih =>
      intro r h
      exact ih _ (mlay_keys (keyI_ok a) r h)
  exact this l [] rfl
/-! What is found so far. -/
def okd (now : Int) (i : Nat) (d : Du) : Prop := now < d.t ∧ d.t ≤ 16777215 ∧ listOf now d.t = (i : Nat)
def GP (now : Int) (L : WL) (i : Nat) (P : List Du) : Prop := (∀ (j : Nat) (l : List Du), j < i → L[j]? = some l → ∀ d ∈ l, okd now j d) ∧ (∀ d ∈ P, okd now i d) ∧ (((L.take i).flatten ++ P).map Du.id).Nodup
theorem GP_end {now : Int} {L : WL} (h96 : L.length = 96) (h : GP now L 96 []) : Fair now L.flatten ∧ Stands now L := by
  obtain ⟨h1, -, h3⟩ := h
  rw [List.take_of_length_le (by omega), List.append_nil] at h3
  refine ⟨⟨fun d hd => ?_, h3⟩, fun i l hi d hd => (h1 i l (by rw [← h96]; exact (List.getElem?_eq_some_iff.1 hi).1) hi d hd).2.2⟩
  obtain ⟨l, hl, hd⟩ := List.mem_flatten.1 hd
  obtain ⟨j, hj⟩ := List.mem_iff_getElem?.1 hl
  have := h1 j l (by rw [← h96]; exact (List.getElem?_eq_some_iff.1 hj).1) hj d hd
  exact ⟨this.1, this.2.1⟩
theorem flat_split {L : WL} {i k : Nat} {l : List Du} {d : Du} (hl : L[i]? = some l) (hd : l[k]? = some d) : ∃ r, L.flatten = ((L.take i).flatten ++ l.take k) ++ d :: r := by
  refine ⟨l.drop (k + 1) ++ (L.drop (i + 1)).flatten, ?_⟩
  rw [flat_at hl]
  have hk := (List.getElem?_eq_some_iff.1 hd).1
  have e : l = l.take k ++ d :: l.drop (k + 1) := by
    conv => lhs; rw [← List.take_append_drop k l, List.drop_eq_getElem_cons hk]
    rw [show l[k] = d from Option.some.inj ((List.getElem?_eq_getElem hk).symm.trans hd)]
  conv => lhs; rw [e]
  simp
theorem GP_bad {now : Int} {L : WL} {i k : Nat} {l : List Du} {d : Du} (hl : L[i]? = some l) (hd : l[k]? = some d) (h : ¬ okd now i d ∨ d.id ∈ ((L.take i).flatten ++ l.take k).map Du.id) : ¬ (Fair now L.flatten ∧ Stands now L) := by
  rintro ⟨⟨h1, h2⟩, h3⟩
  have hdl := List.mem_of_getElem? hd
  have hdf : d ∈ L.flatten := List.mem_flatten.2 ⟨l, List.mem_of_getElem? hl, hdl⟩
  rcases h with h | h
  · exact h ⟨(h1 d hdf).1, (h1 d hdf).2, h3 i l hl d hdl⟩
  · obtain ⟨r, hr⟩ := flat_split hl hd
    rw [hr, List.map_append, List.map_cons, List.nodup_append] at h2
    exact h2.2.2 d.id h d.id (by simp) rfl
theorem GP_next {now : Int} {L : WL} {i k : Nat} {l : List Du} {d : Du} (hd : l[k]? = some d) (h : GP now L i (l.take k)) (ho : okd now i d) (hn : d.id ∉ ((L.take i).flatten ++ l.take k).map Du.id) : GP now L i (l.take (k + 1)) := by
  obtain ⟨h1, h2, h3⟩ := h
  rw [take_snoc hd]
  refine ⟨h1, fun x hx => ?_, ?_⟩
  · rcases List.mem_append.1 hx with hx | hx
    · exact h2 x hx
    · simp at hx
      rw [hx]
      exact ho
  · rw [← List.append_assoc, List.map_append, List.nodup_append]
    refine ⟨h3, by simp, fun a ha b hb => ?_⟩
    simp at hb
    rintro rfl
    exact hn (hb ▸ ha)
theorem GP_list {now : Int} {L : WL} {i : Nat} {l : List Du} (hl : L[i]? = some l) (h : GP now L i l) : GP now L (i + 1) [] := by
  obtain ⟨h1, h2, h3⟩ := h
  refine ⟨fun j l' hj hjl => ?_, fun d hd => by simp at hd, ?_⟩
  · by_cases e : j = i
    · subst e
      obtain rfl := Option.some.inj (hjl.symm.trans hl)
      exact h2
    · exact h1 j l' (by omega) hjl
  · rw [flat_take hl, List.append_nil]
    exact h3
set_option maxRecDepth 8000 in
set_option maxHeartbeats 4000000 in
theorem wcheck_spec (now : Int) (L : WL) (h96 : L.length = 96) (hz : ∀ l ∈ L, l.length ≤ 1407374) : Spec Try.prog 9 [.agg (wcs now L)] (.v (.int .i64 (wchk now L))) := by
  have hcount := count_spec now L h96 hz
  obtain ⟨hA, hB, hL, hT, hG⟩ := snaps h96
  rw [ddrop0] at hT
  unfold wcs at *
  have hlen : ∀ i, (L.take i).flatten.length ≤ L.flatten.length := fun i => by
    conv => rhs; rw [← List.take_append_drop i L]
    rw [List.flatten_append, List.length_append]
    omega
  rcases wchk_cases now L with ⟨h1, hw⟩ | ⟨h1, h2, hw⟩ | h12
  · rw [hw]
    have e1 : decide ((500 : Int) < (L.flatten.length : Nat)) = true := decide_eq_true (by omega)
    generalize L.map snapD = X at *
    refine hspec_fn Try.func9 rfl ok_wheel_Check okr_wheel_Check rfl (by kernel_rfl) ?_
    intro Γ hW0 hN0 hL0
    have hW := hW0 rfl
    clear hW0 hN0 hL0
    unfold x_wheel_Check r_wheel_Check
    refine auC ?_
    repeat' (first
      | (refine auS ?_)
      | (first | (simp only [hT, ddrop0, e1]) | (with_reducible refine runR_call hcount ?_))
      | (refine auD ?_)
      | (with_reducible refine runR_b (fun h => ?_) (fun h => ?_) <;> first | exact auH | simp only [h, runR_t, runR_f])
      | (with_reducible refine condK_bl ?_ ?_)
      | (with_reducible refine condK_b (fun h => ?_) (fun h => ?_) <;> first | exact auH | skip)
      | (first | (refine runR_n ⟨by simp only [hA, hB, allOne, lenB, oneD, oneV, andB], by decide⟩ ?_) | fail))
    (all_goals first | exact auP | skip)
    all_goals refine auF ?_
    all_goals (try first | refine auR ?_ | exact auR0)
    all_goals (try simp only [hsM] at *)
  · rw [hw]
    have e1 : decide ((500 : Int) < (L.flatten.length : Nat)) = false := decide_eq_false (by omega)
    generalize L.map snapD = X at *
    refine hspec_fn Try.func9 rfl ok_wheel_Check okr_wheel_Check rfl (by kernel_rfl) ?_
    intro Γ hW0 hN0 hL0
    have hW := hW0 rfl
    clear hW0 hN0 hL0
    unfold x_wheel_Check r_wheel_Check
    refine auC ?_
    repeat' (first
      | (refine auS ?_)
      | (first | (simp only [hT, ddrop0, e1]) | (with_reducible refine runR_call hcount ?_))
      | (refine auD ?_)
      | (with_reducible refine runR_b (fun h => ?_) (fun h => ?_) <;> first | exact auH | simp only [h, runR_t, runR_f])
      | (with_reducible refine condK_bl ?_ ?_)
      | (with_reducible refine condK_b (fun h => ?_) (fun h => ?_) <;> first | exact auH | skip)
      | (first | (refine runR_n ⟨by simp only [hA, hB, allOne, lenB, oneD, oneV, andB], by decide⟩ ?_) | fail))
    (all_goals first | exact auP | skip)
    all_goals refine auF ?_
    all_goals (try first | refine auR ?_ | exact auR0)
    all_goals (try simp only [hsM] at *)
    all_goals first
      | rfl
      | (exfalso; omega)
  have h1 : L.flatten.length ≤ 500 := by rcases h12 with h | h <;> exact h.1
  have h2 : 0 ≤ now ∧ now ≤ 16777215 := by rcases h12 with h | h <;> exact ⟨h.2.1, h.2.2.1⟩
  have hw0 : Fair now L.flatten ∧ Stands now L → wchk now L = 0 := fun q => by
    rcases h12 with h | h
    · exact h.2.2.2.2.2
    · exact absurd q h.2.2.2.1
  have hw4 : ¬ (Fair now L.flatten ∧ Stands now L) → wchk now L = 4 := fun q => by
    rcases h12 with h | h
    · exact absurd ⟨h.2.2.2.1, h.2.2.2.2.1⟩ q
    · exact h.2.2.2.2
  obtain ⟨n, rfl⟩ : ∃ n : Nat, now = n := ⟨now.toNat, by omega⟩
  have e1 : decide ((500 : Int) < (L.flatten.length : Nat)) = false := decide_eq_false (by omega)
  have e2 : decide (((n : Nat) : Int) < 0) = false := decide_eq_false (by omega)
  have e3 : decide ((16777216 : Int) ≤ (n : Nat)) = false := decide_eq_false (by omega)
  generalize L.map snapD = X at *
  refine hspec_fn Try.func9 rfl ok_wheel_Check okr_wheel_Check rfl (by kernel_rfl) ?_
  intro Γ hW0 hN0 hL0
  have hW := hW0 rfl
  clear hW0 hN0 hL0
  unfold x_wheel_Check r_wheel_Check
  refine auC ?_
  repeat' (first
    | (refine auS ?_)
    | (first | (simp only [hT, ddrop0, e1, e2, e3]) | (with_reducible refine runR_call hcount ?_))
    | (refine auD ?_)
    | (with_reducible refine runR_b (fun h => ?_) (fun h => ?_) <;> first | exact auH | simp only [h, runR_t, runR_f])
    | (with_reducible refine condK_bl ?_ ?_)
    | (with_reducible refine condK_b (fun h => ?_) (fun h => ?_) <;> first | exact auH | skip)
    | (first | (refine runR_n ⟨by simp only [hA, hB, allOne, lenB, oneD, oneV, andB], by decide⟩ ?_) | fail))
  (all_goals first | exact auP | skip)
  refine go_loopH (α := Nat × Nat) (fun x => [(⟨.d0, .d2, .d6⟩, .v (.int .i64 (x.1 : Nat)))]) (fun x => [(1, some ⟨Γ.g0 + 1, 0, cntM keyI ((L.take x.1).flatten.map Du.id)⟩), (2, none)]) (fun x => x.2) (fun x => 96 - x.1) (fun x => x.1 ≤ 96 ∧ GP n L x.1 []) (0, Γ.g0 + 1 + 1) ⟨Nat.zero_le _, fun j l hj => absurd hj (Nat.not_lt_zero j), fun d hd => by simp at hd, by simp⟩ ?_ ?_
  · skip
    refine le_mk ?_ ?_ (Nat.le_refl _)
    all_goals first | refine auE ?_ | exact auE0
    all_goals (repeat' (first | exact trivial | exact rfl | apply And.intro))
  rintro ⟨i, gn⟩ ⟨hi, hgp⟩
  dsimp only at hi hgp ⊢
  refine auL ?_
  by_cases hlt : i < 96
  · obtain ⟨l, hl⟩ : ∃ l, L[i]? = some l := ⟨_, List.getElem?_eq_getElem (by omega)⟩
    have hg := hG i l hl
    have hn1 : i * 1 + 1 ≤ X.length := by omega
    have w1 : IntKind.i64.wrap ((i : Int) + 1) = ((i + 1 : Nat) : Int) := by rw [IntWalk.i64_in _ (by omega)]; omega
    have hdl : (l.map Du.enc).length = l.length := List.length_map _
    have hll := hz l (List.mem_of_getElem? hl)
    repeat' (first
      | (refine auS ?_)
      | (simp only [hL, Int.toNat_natCast, Nat.mul_one, hg, hdl])
      | (refine auD ?_)
      | (with_reducible refine runR_b (fun h => ?_) (fun h => ?_) <;> first | exact auH | simp only [h, runR_t, runR_f])
      | (with_reducible refine condK_bl ?_ ?_)
      | (with_reducible refine condK_b (fun h => ?_) (fun h => ?_) <;> first | exact auH | skip)
      | (first | (refine runR_n (by omega) ?_) | fail))
    (all_goals first | exact auP | skip)
    refine go_loopH (α := Nat × Nat) (fun x => [(⟨.d0, .d3, .d4⟩, .v (.int .i64 (x.1 : Nat)))]) (fun x => [(1, some ⟨Γ.g0 + 1, 0, cntM keyI (((L.take i).flatten ++ l.take x.1).map Du.id)⟩), (2, none)]) (fun x => x.2) (fun x => l.length - x.1) (fun x => x.1 ≤ l.length ∧ GP n L i (l.take x.1)) (0, gn) ⟨Nat.zero_le _, hgp⟩ ?_ ?_
    · skip
      refine le_mk ?_ ?_ (Nat.le_refl _)
      all_goals first | refine auE ?_ | exact auE0
      all_goals (repeat' (first | exact trivial | exact rfl | apply And.intro))
      all_goals simp
    rintro ⟨k, gm⟩ ⟨hk, hgk⟩
    dsimp only at hk hgk ⊢
    refine auL ?_
    by_cases hkl : k < l.length
    · obtain ⟨d, hd⟩ : ∃ d, l[k]? = some d := ⟨_, List.getElem?_eq_getElem hkl⟩
      have hget := cnt_get keyI_ok keyI_inj (((L.take i).flatten ++ l.take k).map Du.id) d.id
      have hsn := cnt_snoc keyI_ok keyI_inj (((L.take i).flatten ++ l.take k).map Du.id) d.id
      have hmm : ((L.take i).flatten ++ l.take (k + 1)).map Du.id = ((L.take i).flatten ++ l.take k).map Du.id ++ [d.id] := by rw [take_snoc hd]; simp
      have hget2 := cnt_get keyI_ok keyI_inj (((L.take i).flatten ++ l.take (k + 1)).map Du.id) d.id
      have hc2 : (((L.take i).flatten ++ l.take (k + 1)).map Du.id).count d.id = (((L.take i).flatten ++ l.take k).map Du.id).count d.id + 1 := by rw [hmm, List.count_append]; simp only [List.count_singleton_self]
      rw [← hmm] at hsn
      rw [hc2] at hget2
      have hk1 := cnt_keys (((L.take i).flatten ++ l.take k).map Du.id)
      have hk2 := cnt_keys (((L.take i).flatten ++ l.take (k + 1)).map Du.id)
      have hmem : d.id ∈ ((L.take i).flatten ++ l.take k).map Du.id ↔ 0 < (((L.take i).flatten ++ l.take k).map Du.id).count d.id := List.count_pos_iff.symm
      have hcl : (((L.take i).flatten ++ l.take k).map Du.id).count d.id ≤ 2000000 := Nat.le_trans List.count_le_length (by
        have := hlen i
        rw [List.length_map, List.length_append, List.length_take]
        omega)
      have hgn := GP_next (now := (n : Int)) (L := L) (i := i) hd hgk
      generalize (((L.take i).flatten ++ l.take k).map Du.id).count d.id = c at hget hsn hget2 hmem hcl
      have hw : IntKind.i64.wrap ((c : Int) + 1) = (c : Int) + 1 := IntWalk.i64_in _ (by omega)
      have w2 : IntKind.i64.wrap ((k : Int) + 1) = ((k + 1 : Nat) : Int) := by rw [IntWalk.i64_in _ (by omega)]; omega
      by_cases q1 : d.t ≤ n
      · have c1 : decide (d.t ≤ ((n : Nat) : Int)) = true := decide_eq_true q1
        have c2 := c1
        have c3 := c1
        have c4 := c1
        have hlst := hcount
        rw [hw4 (GP_bad hl hd (.inl fun q => by have := q.1; omega))]
        repeat' (first
          | (refine auS ?_)
          | (first | (simp only [hdl, Int.toNat_natCast, xget_du hd, hget, hw, hsn, hget2, c1, c2, c3, c4]) | (with_reducible refine runR_call hlst ?_))
          | (refine auD ?_)
          | (with_reducible refine runR_b (fun h => ?_) (fun h => ?_) <;> first | exact auH | simp only [h, runR_t, runR_f])
          | (with_reducible refine condK_bl ?_ ?_)
          | (with_reducible refine condK_b (fun h => ?_) (fun h => ?_) <;> first | exact auH | skip)
          | (first | (refine runR_n ⟨hk1, keyI_ok _⟩ ?_) | (refine runR_n ⟨hk2, keyI_ok _⟩ ?_) | fail))
        (all_goals first | exact auP | skip)
        all_goals refine auF ?_
        all_goals (try first | refine auR ?_ | exact auR0)
        all_goals (try simp only [hsM] at *)
      have c1 : decide (d.t ≤ ((n : Nat) : Int)) = false := decide_eq_false q1
      by_cases q2 : 16777216 ≤ d.t
      · have c2 : decide ((16777216 : Int) ≤ d.t) = true := decide_eq_true q2
        have c3 := c1
        have c4 := c1
        have hlst := hcount
        rw [hw4 (GP_bad hl hd (.inl fun q => by have := q.2.1; omega))]
        repeat' (first
          | (refine auS ?_)
          | (first | (simp only [hdl, Int.toNat_natCast, xget_du hd, hget, hw, hsn, hget2, c1, c2, c3, c4]) | (with_reducible refine runR_call hlst ?_))
          | (refine auD ?_)
          | (with_reducible refine runR_b (fun h => ?_) (fun h => ?_) <;> first | exact auH | simp only [h, runR_t, runR_f])
          | (with_reducible refine condK_bl ?_ ?_)
          | (with_reducible refine condK_b (fun h => ?_) (fun h => ?_) <;> first | exact auH | skip)
          | (first | (refine runR_n ⟨hk1, keyI_ok _⟩ ?_) | (refine runR_n ⟨hk2, keyI_ok _⟩ ?_) | fail))
        (all_goals first | exact auP | skip)
        all_goals refine auF ?_
        all_goals (try first | refine auR ?_ | exact auR0)
        all_goals (try simp only [hsM] at *)
      have c2 : decide ((16777216 : Int) ≤ d.t) = false := decide_eq_false q2
      have hlst := list_spec n d.t.toNat (by omega) (by omega)
      have hcast : ((d.t.toNat : Nat) : Int) = d.t := by omega
      rw [hcast] at hlst
      have hlo : listOf (n : Int) d.t = lisR n d.t.toNat 6 := rfl
      by_cases q3 : lisR n d.t.toNat 6 = (i : Nat)
      · rw [q3] at hlst hlo
        have c3 : (!decide (((i : Nat) : Int) = (i : Nat))) = false := by simp
        have hokd : okd n i d := ⟨by omega, by omega, hlo⟩
        by_cases q4 : 0 < c
        · have c4 : decide ((1 : Int) < (c : Int) + 1) = true := decide_eq_true (by omega)
          rw [hw4 (GP_bad hl hd (.inr (hmem.2 q4)))]
          repeat' (first
            | (refine auS ?_)
            | (first | (simp only [hdl, Int.toNat_natCast, xget_du hd, hget, hw, hsn, hget2, c1, c2, c3, c4]) | (with_reducible refine runR_call hlst ?_))
            | (refine auD ?_)
            | (with_reducible refine runR_b (fun h => ?_) (fun h => ?_) <;> first | exact auH | simp only [h, runR_t, runR_f])
            | (with_reducible refine condK_bl ?_ ?_)
            | (with_reducible refine condK_b (fun h => ?_) (fun h => ?_) <;> first | exact auH | skip)
            | (first | (refine runR_n ⟨hk1, keyI_ok _⟩ ?_) | (refine runR_n ⟨hk2, keyI_ok _⟩ ?_) | fail))
          (all_goals first | exact auP | skip)
          all_goals refine auF ?_
          all_goals (try first | refine auR ?_ | exact auR0)
          all_goals (try simp only [hsM] at *)
        · have c4 : decide ((1 : Int) < (c : Int) + 1) = false := decide_eq_false (by omega)
          repeat' (first
            | (refine auS ?_)
            | (first | (simp only [hdl, Int.toNat_natCast, xget_du hd, hget, hw, hsn, hget2, c1, c2, c3, c4, w2]) | (with_reducible refine runR_call hlst ?_))
            | (refine auD ?_)
            | (with_reducible refine runR_b (fun h => ?_) (fun h => ?_) <;> first | exact auH | simp only [h, runR_t, runR_f])
            | (with_reducible refine condK_bl ?_ ?_)
            | (with_reducible refine condK_b (fun h => ?_) (fun h => ?_) <;> first | exact auH | skip)
            | (first | (refine runR_n ⟨hk1, keyI_ok _⟩ ?_) | (refine runR_n ⟨hk2, keyI_ok _⟩ ?_) | fail))
          (all_goals first | exact auP | skip)
          refine nx_loop ⟨(k + 1, gm + 1), ⟨hkl, hgn hokd fun q => q4 (hmem.1 q)⟩, Nat.sub_lt_sub_left hkl (Nat.lt_succ_self k), ?_⟩
          refine le_mk ?_ ?_ (Nat.le_refl _)
          all_goals first | refine auE ?_ | exact auE0
          all_goals (repeat' (first | exact trivial | exact rfl | apply And.intro))
      · have c3 : (!decide (lisR n d.t.toNat 6 = ((i : Nat) : Int))) = true := by simp [q3]
        have c4 := c1
        rw [hw4 (GP_bad hl hd (.inl fun q => q3 q.2.2))]
        repeat' (first
          | (refine auS ?_)
          | (first | (simp only [hdl, Int.toNat_natCast, xget_du hd, hget, hw, hsn, hget2, c1, c2, c3, c4]) | (with_reducible refine runR_call hlst ?_))
          | (refine auD ?_)
          | (with_reducible refine runR_b (fun h => ?_) (fun h => ?_) <;> first | exact auH | simp only [h, runR_t, runR_f])
          | (with_reducible refine condK_bl ?_ ?_)
          | (with_reducible refine condK_b (fun h => ?_) (fun h => ?_) <;> first | exact auH | skip)
          | (first | (refine runR_n ⟨hk1, keyI_ok _⟩ ?_) | (refine runR_n ⟨hk2, keyI_ok _⟩ ?_) | fail))
        (all_goals first | exact auP | skip)
        all_goals refine auF ?_
        all_goals (try first | refine auR ?_ | exact auR0)
        all_goals (try simp only [hsM] at *)
    · obtain rfl : k = l.length := by omega
      rw [List.take_length] at hgk ⊢
      repeat' (first
        | (refine auS ?_)
        | (simp only [hdl, w1])
        | (refine auD ?_)
        | (with_reducible refine runR_b (fun h => ?_) (fun h => ?_) <;> first | exact auH | simp only [h, runR_t, runR_f])
        | (with_reducible refine condK_bl ?_ ?_)
        | (with_reducible refine condK_b (fun h => ?_) (fun h => ?_) <;> first | exact auH | skip)
        | fail)
      (all_goals first | exact auP | skip)
      refine nx_loop ⟨(i + 1, gm), ⟨hlt, GP_list hl hgk⟩, by dsimp only; omega, ?_⟩
      refine le_mk ?_ ?_ (Nat.le_refl _)
      all_goals first | refine auE ?_ | exact auE0
      all_goals (repeat' (first | exact trivial | exact rfl | apply And.intro))
      rw [flat_take hl]
  · obtain rfl : i = 96 := by omega
    rw [hw0 (GP_end h96 hgp)]
    repeat' (first
      | (refine auS ?_)
      | fail
      | (refine auD ?_)
      | (with_reducible refine runR_b (fun h => ?_) (fun h => ?_) <;> first | exact auH | simp only [h, runR_t, runR_f])
      | (with_reducible refine condK_bl ?_ ?_)
      | (with_reducible refine condK_b (fun h => ?_) (fun h => ?_) <;> first | exact auH | skip)
      | fail)
    (all_goals first | exact auP | skip)
    all_goals refine auF ?_
    all_goals (try first | refine auR ?_ | exact auR0)
    all_goals (try simp only [hsM] at *)
end Go.Proofs.Ytecnjhmpipfldaa
