/-
  One more, one less, in the program: where the wheel is right.
-/
import Derived.Test.YtecnjhmpipfldaaWheelU
namespace Go.Proofs.Ytecnjhmpipfldaa
set_option linter.unusedVariables false
set_option linter.unusedSimpArgs false
theorem chk_zero {now : Int} {L : WL} (h : wchk now L = 0) : L.flatten.length ≤ 500 ∧ 0 ≤ now ∧ now ≤ 16777215 ∧ Fair now L.flatten ∧ Stands now L := by
  rcases wchk_cases now L with ⟨_, q⟩ | ⟨_, _, q⟩ | ⟨a, b, c, d, e, _⟩ | ⟨_, _, _, _, q⟩
  · omega
  · omega
  · exact ⟨a, b, c, d, e⟩
  · omega
/-- Where the thing of an Id stands. -/
theorem find_ex {L : WL} {id : Int} (hn : (L.flatten.map Du.id).Nodup) (hm : id ∈ L.flatten.map Du.id) : ∃ (i : Nat) (l : List Du) (k : Nat) (d : Du), L[i]? = some l ∧ l[k]? = some d ∧ d.id = id ∧ firstI (fun d : Du => decide (d.id = id)) l 0 = (k : Nat) ∧ ∀ (j : Nat) (l' : List Du), j < i → L[j]? = some l' → ∀ d' ∈ l', d'.id ≠ id := by
  obtain ⟨d0, h0, he⟩ := List.mem_map.1 hm
  obtain ⟨l, hl, hd⟩ := List.mem_flatten.1 h0
  obtain ⟨i, hi⟩ := List.mem_iff_getElem?.1 hl
  rcases firstI_cases (fun d : Du => decide (d.id = id)) l 0 with ⟨_, h2⟩ | ⟨k, t, h1, h2, h3, h4⟩
  · have := h2 d0 hd
    simp [he] at this
  · refine ⟨i, l, k, t, hi, h1, of_decide_eq_true h2, by rw [h4, Nat.zero_add], fun j l' hj hjl d' hd' e => ?_⟩
    rw [flat_at hi, List.append_assoc, List.map_append, List.nodup_append] at hn
    refine hn.2.2 d'.id (List.mem_map.2 ⟨d', List.mem_flatten.2 ⟨l', ?_, hd'⟩, rfl⟩) t.id (List.mem_map.2 ⟨t, List.mem_append.2 (.inl (List.mem_of_getElem? h1)), rfl⟩) (by rw [e, of_decide_eq_true h2])
    exact List.mem_of_getElem? (i := j) (by rw [List.getElem?_take, if_pos hj]; exact hjl)
theorem no_id {L : WL} {id : Int} (h : id ∉ L.flatten.map Du.id) (j : Nat) (l : List Du) (hl : L[j]? = some l) (d : Du) (hd : d ∈ l) : d.id ≠ id := fun e => h (List.mem_map.2 ⟨d, List.mem_flatten.2 ⟨l, List.mem_of_getElem? hl, hd⟩, e⟩)
theorem wof_del {now : Int} {L : WL} (h96 : L.length = 96) (hs : Stands now L) (hn : (L.flatten.map Du.id).Nodup) {i k : Nat} {l : List Du} {d : Du} (hl : L[i]? = some l) (hd : l[k]? = some d) : wof now (L.flatten.filter fun x => !decide (x.id = d.id)) = L.set i (l.take k ++ l.drop (k + 1)) := by
  have hw := (wof_eq now L h96).2 hs
  have hk := (List.getElem?_eq_some_iff.1 hd).1
  have hi := (List.getElem?_eq_some_iff.1 hl).1
  have hlk : l = l.take k ++ d :: l.drop (k + 1) := by
    conv => lhs; rw [← List.take_append_drop k l, List.drop_eq_getElem_cons hk]
    rw [show l[k] = d from Option.some.inj ((List.getElem?_eq_getElem hk).symm.trans hd)]
  apply List.ext_getElem?
  intro j
  by_cases hlt : j < 96
  · have h2 := wof_get now L.flatten hlt
    rw [hw] at h2
    have e : fil now (j : Nat) (L.flatten.filter fun x => !decide (x.id = d.id)) = (fil now (j : Nat) L.flatten).filter fun x => !decide (x.id = d.id) := by
      unfold fil
      rw [List.filter_filter, List.filter_filter]
      congr 1
      funext x
      exact Bool.and_comm _ _
    rw [wof_get now _ hlt, List.getElem?_set, e]
    by_cases hij : i = j
    · subst hij
      rw [if_pos rfl, if_pos hi]
      have h3 : fil now (i : Nat) L.flatten = l := Option.some.inj (h2.symm.trans hl)
      rw [h3]
      congr 1
      rw [flat_at hl, List.append_assoc, List.map_append, List.nodup_append] at hn
      have h4 := hn.2.1
      rw [List.map_append, List.nodup_append] at h4
      have h5 := h4.1
      rw [hlk, List.map_append, List.map_cons, List.nodup_append] at h5
      conv => lhs; rw [hlk]
      rw [List.filter_append, List.filter_cons]
      have q1 : (l.take k).filter (fun x => !decide (x.id = d.id)) = l.take k := List.filter_eq_self.2 fun x hx => by
        have := h5.2.2 x.id (List.mem_map.2 ⟨x, hx, rfl⟩) d.id (by simp)
        simp [this]
      have q2 : (l.drop (k + 1)).filter (fun x => !decide (x.id = d.id)) = l.drop (k + 1) := List.filter_eq_self.2 fun x hx => by
        have h6 := (List.nodup_cons.1 h5.2.1).1
        have : x.id ≠ d.id := fun q => h6 (List.mem_map.2 ⟨x, hx, q⟩)
        simp [this]
      rw [q1, q2]
      simp
    · rw [if_neg hij, h2]
      congr 1
      refine List.filter_eq_self.2 fun x hx => ?_
      have hne : x.id ≠ d.id := fun q => by
        have hxj : L[j]? = some (fil now (j : Nat) L.flatten) := h2
        have hdl : d ∈ l := List.mem_of_getElem? hd
        rcases Nat.lt_or_gt_of_ne hij with hlt2 | hgt
        · rw [flat_at hxj, List.append_assoc, List.map_append, List.nodup_append] at hn
          exact hn.2.2 d.id (List.mem_map.2 ⟨d, List.mem_flatten.2 ⟨l, List.mem_of_getElem? (i := i) (by rw [List.getElem?_take, if_pos hlt2]; exact hl), hdl⟩, rfl⟩) x.id (List.mem_map.2 ⟨x, List.mem_append.2 (.inl hx), rfl⟩) q.symm
        · rw [flat_at hl, List.append_assoc, List.map_append, List.nodup_append] at hn
          exact hn.2.2 x.id (List.mem_map.2 ⟨x, List.mem_flatten.2 ⟨_, List.mem_of_getElem? (i := j) (by rw [List.getElem?_take, if_pos hgt]; exact hxj), hx⟩, rfl⟩) d.id (List.mem_map.2 ⟨d, List.mem_append.2 (.inl hdl), rfl⟩) q
      simp [hne]
  · rw [List.getElem?_eq_none (by rw [wof_len]; omega), List.getElem?_eq_none (by simp; omega)]
theorem lset_lset (a b : Option AObj) : ∀ (T : HL) (i : Nat), lset (lset T i a) i b = lset T i b
  | [], 0 => rfl
  | [], i + 1 => by
    show none :: lset (lset [] i a) i b = none :: lset [] i b
    rw [lset_lset a b [] i]
  | _ :: _, 0 => rfl
  | x :: r, i + 1 => by
    show x :: lset (lset r i a) i b = x :: lset r i b
    rw [lset_lset a b r i]
open Classical in
/-- What Set answers. -/
noncomputable def setR (now : Int) (L : WL) (id t : Int) : Int × WL × Int :=
  if wchk now L ≠ 0 then (0, noW, wchk now L) else if ¬ (now + 1 ≤ t ∧ t ≤ 16777215) then (0, noW, 1) else if id ∈ L.flatten.map Du.id then (0, noW, 8) else if L.flatten.length = 500 then (0, noW, 6) else (now, wof now (L.flatten ++ [⟨id, t⟩]), 0)
open Classical in
/-- What Stop answers. -/
noncomputable def stopR (now : Int) (L : WL) (id : Int) : Int × WL × Int :=
  if wchk now L ≠ 0 then (0, noW, wchk now L) else if id ∉ L.flatten.map Du.id then (0, noW, 7) else (now, wof now (L.flatten.filter fun x => !decide (x.id = id)), 0)
abbrev dR (r : Int × WL × Int) : DV := dW r.1 r.2.1 r.2.2
set_option maxHeartbeats 4000000 in
theorem set_good (n : Nat) (id t : Int) (L : WL) (h96 : L.length = 96) (hz : ∀ l ∈ L, l.length ≤ 1407374) (h0 : wchk n L = 0) (ht : (n : Int) + 1 ≤ t ∧ t ≤ 16777215) (hid : id ∉ L.flatten.map Du.id) (hlen : L.flatten.length ≠ 500) : Spec Try.prog 5 [.agg (wcs n L), .v (.int .i64 id), .v (.int .i64 t)] (dW n (wof n (L.flatten ++ [⟨id, t⟩])) 0) := by
  obtain ⟨c1, c2, c3, c4, c5⟩ := chk_zero h0
  have hchk := wcheck_spec n L h96 hz
  rw [h0] at hchk
  have hcnt := count_spec n L h96 hz
  have hfind := find_spec n id L h96 (fun l hl => by have := hz l hl; unfold maxLen; omega) 96 (Nat.le_refl _) (-1) 0 (fun j l _ hl d hd => no_id hid j l hl d hd) (.inl ⟨rfl, rfl, rfl⟩)
  obtain ⟨hA, hB, hL, hT, hG⟩ := snaps h96
  rw [ddrop0] at hT
  have hrep : (List.replicate 96 nilD).length = 96 := by simp
  have hra := rep_ones 96
  have hrb := lenB_of hrep
  have hzz := splice_len _ _ (Eq.refl (List.replicate 96 nilD).length)
  have hdz := dtake_of hrep
  have hrng := lis_rng (n := n) (m := t.toNat) (by omega) (by omega)
  obtain ⟨i, hi⟩ : ∃ i : Nat, lisR n t.toNat 6 = i := ⟨(lisR n t.toNat 6).toNat, by omega⟩
  have hlo : listOf n (Du.mk id t).t = (i : Nat) := hi
  have hi96 : i < 96 := by omega
  obtain ⟨l, hl⟩ : ∃ l, L[i]? = some l := ⟨_, List.getElem?_eq_getElem (by omega)⟩
  have hsn := wof_snoc h96 c5 ⟨id, t⟩ hi96 hlo
  rw [hl] at hsn
  rw [hsn]
  dsimp only [Option.getD]
  have hown := own_spec n L h96 hz (fun j => j + 5)
  have hXl : ∀ nm, (rowc (fun j => j + 5) nm 0 L).length = 96 := fun nm => by rw [rowc_len]; exact h96
  have hXl' : ∀ nm (l' : List Du), (rowc (fun j => j + 5) nm 0 (L.set i l')).length = 96 := fun nm l' => by rw [rowc_len, List.length_set]; exact h96
  have hTl : ∀ nm, (rowh nm 0 L).length = 96 := fun nm => by rw [rowh_len]; exact h96
  have hX96 : (L.map snapD).length = 96 := by simpa using h96
  have hs1 : ∀ nm, splice (L.map snapD) 0 (rowc (fun j => j + 5) nm 0 L) = rowc (fun j => j + 5) nm 0 L := fun nm => splice_len _ _ (by rw [hXl, hX96])
  have hs2 : ∀ nm (l' : List Du), splice (List.replicate 96 nilD) 0 (rowc (fun j => j + 5) nm 0 (L.set i l')) = rowc (fun j => j + 5) nm 0 (L.set i l') := fun nm l' => splice_len _ _ (by rw [hXl', hrep])
  have ho1 : ∀ nm (l' : WL), allOne (rowc (fun j => j + 5) nm 0 l') = true := fun nm l' => rowc_ones l' 0
  have hb1 : ∀ nm, lenB (rowc (fun j => j + 5) nm 0 L) 96 = true := fun nm => lenB_of (hXl nm)
  have hb2 : ∀ nm (l' : List Du), lenB (rowc (fun j => j + 5) nm 0 (L.set i l')) 96 = true := fun nm l' => lenB_of (hXl' nm l')
  have hd2 : ∀ nm (l' : List Du), dtake (rowc (fun j => j + 5) nm 0 (L.set i l')) 96 = rowc (fun j => j + 5) nm 0 (L.set i l') := fun nm l' => dtake_of (hXl' nm l')
  have hput : ∀ nm nb, MSpec Try.prog 18 [.ptr 0 nb 97 0 0, .agg [.v (.int .i64 id), .v (.int .i64 t)]] (some ⟨nb, 97, [.v (.int .i64 n) :: rowc (fun j => j + 5) nm 0 L]⟩ :: rowh nm 0 L) 1 (fun m dd H => dd = .tup [] ∧ H = some ⟨nb, 97, [.v (.int .i64 n) :: rowc (fun j => j + 5) (upd nm i m) 0 (L.set i (l ++ [Du.mk id t]))]⟩ :: (lset (rowh nm 0 L) i none ++ [some ⟨m, 2, (l ++ [Du.mk id t]).map Du.enc⟩])) :=
    fun nm nb => put_spec 0 n ⟨id, t⟩ (by dsimp only; omega) L h96 i hlo l hl (by have := hz l (List.mem_of_getElem? hl); omega) (fun j => j + 5) nm nb
  have hTl2 : ∀ nm, (lset (rowh nm 0 L) i none).length = 96 := fun nm => by
    have : ∀ (T : HL) (k : Nat) (o : Option AObj), k < T.length → (lset T k o).length = T.length := fun T => by
      induction T with
      | nil => intro k o h; simp at h
      | cons a r ih =>
        intro k o h
        cases k with
        | zero => rfl
        | succ k => show (lset r k o).length + 1 = _; rw [ih k o (by simpa using h)]; rfl
    rw [this _ _ _ (by rw [hTl]; omega), hTl]
  have hTn : ∀ nm, lget (lset (rowh nm 0 L) i none) i = none := fun nm => by rw [lget_lset, if_pos rfl]
  have hrs := fun nm m => rowh_set (nm := nm) m (l ++ [Du.mk id t]) L 0 i (by omega)
  simp only [Nat.zero_add] at hrs
  have q1 : decide (t ≤ ((n : Nat) : Int)) = false := decide_eq_false (by omega)
  have q2 : decide ((16777216 : Int) ≤ t) = false := decide_eq_false (by omega)
  have q3 : decide (((L.flatten.length : Nat) : Int) = 500) = false := decide_eq_false (by omega)
  unfold wcs at hchk hcnt hfind
  refine hspec_fn Try.func5 rfl ok_wheel_Set okr_wheel_Set rfl (by kernel_rfl) ?_
  intro Γ hW0 hN0 hL0
  have hW := hW0 rfl
  clear hW0 hN0 hL0
  unfold x_wheel_Set r_wheel_Set
  refine auC ?_
  unfold wcs
  repeat' (first
    | (refine go_le (le_unfocus i (hTn _)) ?_)
    | (refine auS ?_)
    | (first | (simp only [hT, ddrop0, zv_eq, zv_len, hzz, splice_nil, hs1, hs2, hd2, q1, q2, q3]) | (with_reducible refine runR_call hchk ?_) | (with_reducible refine runR_call hcnt ?_) | (with_reducible refine runR_call hfind ?_) | (with_reducible refine runR_own hown (hTl _) ?_) | (with_reducible refine runR_lendW (hTl _) (hput _ _) (hTl2 _) ?_))
    | (refine auD ?_)
    | (with_reducible refine runR_b (fun h => ?_) (fun h => ?_) <;> first | exact auH | simp only [h, runR_t, runR_f])
    | (with_reducible refine condK_bl ?_ ?_)
    | (with_reducible refine condK_b (fun h => ?_) (fun h => ?_) <;> first | exact auH | skip)
    | (first | (refine runR_n ⟨by simp only [hA, hB, allOne, lenB, oneD, oneV, andB], by decide⟩ ?_) | (refine runR_n ⟨by decide, by decide, by simp only [hra, hrb, ho1, hb1, hb2, allOne, lenB, oneD, oneV, andB]⟩ ?_) | fail))
  (all_goals first | exact auP | skip)
  rw [hrs]
  refine retq_le (leG_all hW _ _ _ _ _ _ _ _) ?_
  have hlen' : (L.set i (l ++ [Du.mk id t])).length = 96 := by rw [List.length_set]; exact h96
  have hnf := snaps_nf (L.set i (l ++ [Du.mk id t])) Γ.g0
  have hdt' := dtake_of (show ((L.set i (l ++ [Du.mk id t])).map snapD).length = 96 by rw [List.length_map]; exact hlen')
  have hnf2 : nfL Γ.g0 (dtake ((L.set i (l ++ [Du.mk id t])).map snapD) 96) := by rw [hdt']; exact hnf
  unfold dW wcs
  generalize (L.set i (l ++ [Du.mk id t])).map snapD = Z at *
  all_goals with_reducible refine ret_spec2 (by (try first | refine auR ?_ | exact auR0); (repeat' (first | exact trivial | exact rfl | exact hnf2 | decide | apply And.intro))) ?_
  all_goals (try first | refine auR ?_ | exact auR0)
  rw [hdt']
end Go.Proofs.Ytecnjhmpipfldaa
