/-
  slices.Insert of one part into a row of the caller's own: a row of its own comes back.
-/
import Derived.Test.YtidogmmfakcfgaaInsX
import Derived.Test.YtidogmmfakcfgaaFeedP
import Derived.Test.YtidogmmfakcfgaaShB
import Derived.Test.YtidogmmfakcfgaaNamN
namespace Go.Proofs.Ytidogmmfakcfgaa
set_option linter.unusedVariables false
set_option linter.unusedSimpArgs false
def Pt.vals (p : Pt) : List Value := [.int .i64 p.at', .string (mkS p.data), .bool p.last]
def valsP : List Pt → List Value
  | [] => []
  | p :: r => p.vals ++ valsP r
theorem valsP_len : ∀ l : List Pt, (valsP l).length = l.length * 3
  | [] => rfl
  | p :: r => by
    rw [valsP, List.length_append, valsP_len r, List.length_cons]
    simp only [Pt.vals, List.length_cons, List.length_nil]
    omega
theorem valsP_app : ∀ l m : List Pt, valsP (l ++ m) = valsP l ++ valsP m
  | [], m => rfl
  | p :: r, m => by rw [List.cons_append, valsP, valsP, valsP_app r m, List.append_assoc]
theorem valsP_take (l : List Pt) (i : Nat) (R : List Value) (hi : i ≤ l.length) : (valsP l ++ R).take (i * 3) = valsP (l.take i) := by
  have h := congrArg valsP (List.take_append_drop i l)
  rw [valsP_app] at h
  rw [← h, List.append_assoc, List.take_left']
  rw [valsP_len, List.length_take, Nat.min_eq_left hi]
theorem valsP_drop (l : List Pt) (i : Nat) (R : List Value) (hi : i ≤ l.length) : (valsP l ++ R).drop (i * 3) = valsP (l.drop i) ++ R := by
  have h := congrArg valsP (List.take_append_drop i l)
  rw [valsP_app] at h
  rw [← h, List.append_assoc, List.drop_left']
  rw [valsP_len, List.length_take, Nat.min_eq_left hi]
theorem valsP_DT (l : List Pt) (i : Nat) (R : List Value) (hi : i ≤ l.length) : DT 0 (valsP l ++ R) (i * 3) (l.length * 3) = valsP (l.drop i) := by
  unfold DT
  rw [valsP_take l l.length R (Nat.le_refl _), List.take_length]
  have := valsP_drop l i [] hi
  simpa using this
theorem valsP_one : ∀ l : List Pt, ∀ v ∈ valsP l, v.oneCell' = true
  | [], v, h => by simp [valsP] at h
  | p :: r, v, h => by
    rw [valsP] at h
    rcases List.mem_append.1 h with h | h
    · simp only [Pt.vals, List.mem_cons, List.not_mem_nil, or_false] at h
      rcases h with rfl | rfl | rfl <;> rfl
    · exact valsP_one r v h
theorem valsP_get : ∀ (l : List Pt) (R : List Value) (i : Nat) (x : List DV) (j : Nat) (d : DV), (l.map Pt.enc)[i]? = some x → x[j]? = some d → ∃ v, (valsP l ++ R)[i * 3 + j]? = some v ∧ d = .v v
  | [], R, i, x, j, d, hx, hd => by simp at hx
  | p :: r, R, 0, x, j, d, hx, hd => by
    simp only [List.map_cons, List.getElem?_cons_zero, Option.some.injEq] at hx
    subst hx
    match j, hd with
    | 0, hd => exact ⟨_, rfl, (Option.some.inj hd).symm⟩
    | 1, hd => exact ⟨_, rfl, (Option.some.inj hd).symm⟩
    | 2, hd => exact ⟨_, rfl, (Option.some.inj hd).symm⟩
    | j + 3, hd => simp at hd
  | p :: r, R, i + 1, x, j, d, hx, hd => by
    obtain ⟨v, h1, h2⟩ := valsP_get r R i x j d (by simpa using hx) hd
    refine ⟨v, ?_, h2⟩
    rw [valsP, List.append_assoc, List.getElem?_append_right (by simp only [Pt.vals, List.length_cons, List.length_nil]; omega)]
    rw [← h1]
    congr 1
    simp only [Pt.vals, List.length_cons, List.length_nil]
    omega
theorem rowP_real {Γ : Gm} {K : Kr} {w : World} {H : Nat → Option AObj} {k n : Nat} {ps : List Pt} (hI : Inv Γ K H w) (ho : H k = some ⟨n, 3, ps.map Pt.enc⟩) (h0 : ps ≠ []) : K.real n ∧ ∃ cs t fr R, RowOk 3 cs.size fr ∧ w.heap[K.μ n]? = some (.cells cs t fr) ∧ cs.toList = valsP ps ++ R := by
  rcases (hI.obj k _ ho).two (fun hm => by have := hm.2.1; simp only at this; omega) with ⟨-, u2⟩ | ⟨u1, cs, t, fr, u2, u3, u4, u5, u6⟩
  · exact absurd (List.map_eq_nil_iff.1 u2) h0
  · refine ⟨u1, cs, t, fr, cs.toList.drop (ps.length * 3), u2, u3, ?_⟩
    simp only [List.length_map] at u4
    have h := List.take_append_drop (ps.length * 3) cs.toList
    have e : cs.toList.take (ps.length * 3) = valsP ps := by
      apply List.ext_getElem?
      intro q
      by_cases hq : q < ps.length * 3
      · rw [List.getElem?_take_of_lt hq]
        have hi : q / 3 < ps.length := by omega
        have hx : (ps.map Pt.enc)[q / 3]? = some (ps[q / 3].enc) := by rw [List.getElem?_map, List.getElem?_eq_getElem hi]; rfl
        obtain ⟨d, hd⟩ : ∃ d, (ps[q / 3].enc)[q % 3]? = some d := ⟨_, List.getElem?_eq_getElem (l := ps[q / 3].enc) (show q % 3 < 3 by omega)⟩
        obtain ⟨c, c1, c2⟩ := u6 (q / 3) _ (q % 3) d hx hd
        obtain ⟨v, v1, v2⟩ := valsP_get ps [] (q / 3) _ (q % 3) d hx hd
        rw [List.append_nil] at v1
        have e3 : q / 3 * 3 + q % 3 = q := by omega
        simp only at c1
        rw [e3] at c1 v1
        rw [v1, Array.getElem?_toList, c1]
        subst v2
        rw [vrel_v c2]
      · rw [List.getElem?_eq_none (by rw [List.length_take]; omega), List.getElem?_eq_none (by rw [valsP_len]; omega)]
    rw [e] at h
    exact h.symm
theorem sl3_inv {K : Kr} {w : World} {k n len : Nat} {full : Bool} {v : Value} (h : VRel K w (.sl k n 3 0 len full) v) (h0 : 0 < len) : ∃ cap, v = .slice (some ⟨K.μ n, 0, none⟩) len cap ∧ len ≤ cap ∧ ∃ cs t fr, w.heap[K.μ n]? = some (.cells cs t fr) ∧ cap * 3 ≤ cs.size ∧ (full = false → cap * 3 = cs.size) := by
  cases h with
  | sl hlc hf hh =>
    rename_i A cap
    rcases hh with hh | ⟨q1, rfl, cs, t, fr, q3, q4, q5⟩
    · omega
    · exact ⟨cap, by rw [Nat.zero_mul], hlc, cs, t, fr, q3, by omega, fun q => by have := q5 q; omega⟩
theorem inv_lendN {K : Kr} {w : World} {g0 n : Nat} {H0 : HL} {H : Nat → Option AObj} {w' : World} (hI : Inv (lend K w g0 H0) (K.cut w) H w') : Inv (lend K w n H0) (K.cut w) H w' :=
  ⟨hI.ext, ⟨fun m h => .inl h, fun m h _ => h, hI.base.keep, hI.base.M⟩, hI.obj, hI.inj, hI.dr, hI.lt, hI.dobj, hI.own, hI.gl⟩
def newL (n : Pt) (i : Nat) (ps : List Pt) : List Pt := ps.take i ++ n :: ps.drop i
theorem newL_len (n : Pt) (i : Nat) (ps : List Pt) (hi : i ≤ ps.length) : (newL n i ps).length = ps.length + 1 := by
  unfold newL
  rw [List.length_append, List.length_cons, List.length_take, List.length_drop]
  omega
theorem newL_vals (n : Pt) (i : Nat) (ps : List Pt) : valsP (newL n i ps) = valsP (ps.take i) ++ (n.vals ++ valsP (ps.drop i)) := by
  unfold newL
  rw [valsP_app]
  rfl
abbrev insO (m : Nat) (l : List Pt) : HL := [none, none, some ⟨m, 3, l.map Pt.enc⟩]
set_option maxHeartbeats 1000000 in
theorem ins_spec0 (n nv : Nat) (ps : List Pt) (p : Pt) (i : Nat) (hi : i < ps.length) (hl : ps.length ≤ 64) : MSpec Try.prog 38 [.sl 0 n 3 0 ps.length false, .v (.int .i64 (i : Nat)), .sl 1 nv 3 0 1 true] [some ⟨n, 3, ps.map Pt.enc⟩, some ⟨nv, 3, [p.enc]⟩] 1
    (fun m d H => d = .sl 2 m 3 0 (ps.length + 1) false ∧ H = insO m (newL p i ps)) := by
  refine ⟨by kernel_rfl, fun K w vs g0 hI hlt hargs => ?_⟩
  obtain ⟨a, b, c, rfl, ha, hb, hc⟩ := args3 hargs
  obtain rfl := (vrel_v hb)
  obtain ⟨hr, cs, t, fr, R, r1, r2, r3⟩ := rowP_real (k := 0) (ps := ps) hI rfl (by intro h; rw [h] at hi; simp at hi)
  obtain ⟨hrv, csv, tv, frv, Rv, v1, v2, v3⟩ := rowP_real (k := 1) (ps := [p]) hI rfl (by simp)
  obtain ⟨cap, rfl, hcap, cs', t', fr', q1, q2, q3⟩ := sl3_inv ha (by omega)
  rw [r2] at q1
  obtain ⟨rfl, rfl, rfl⟩ : cs = cs' ∧ t = t' ∧ fr = fr' := by
    have := Option.some.inj q1
    exact ⟨by injection this, by injection this, by injection this⟩
  have q3 := q3 rfl
  obtain ⟨capv, rfl, hcapv, csv', tv', frv', y1, y2, -⟩ := sl3_inv hc (by omega)
  rw [v2] at y1
  obtain ⟨rfl, rfl, rfl⟩ : csv = csv' ∧ tv = tv' ∧ frv = frv' := by
    have := Option.some.inj y1
    exact ⟨by injection this, by injection this, by injection this⟩
  have hne : (K.cut w).μ nv ≠ (K.cut w).μ n := fun e => by
    have := hI.inj 1 0 _ _ rfl rfl hrv hr e
    omega
  have hszv : 3 ≤ csv.size := by omega
  have hD : DT 0 cs.toList (i * 3) (ps.length * 3) = valsP (ps.drop i) := by rw [r3]; exact valsP_DT ps i R (by omega)
  have hV : DT 0 csv.toList 0 3 = p.vals := by
    have := valsP_DT [p] 0 Rv (by simp)
    rw [v3]
    simpa [valsP] using this
  have hDl : (valsP (ps.drop i)).length = ps.length * 3 - i * 3 := by rw [valsP_len, List.length_drop]; omega
  have hTl : (valsP (ps.take i)).length = i * 3 := by rw [valsP_len, List.length_take, Nat.min_eq_left (by omega)]
  have hVl : p.vals.length = 3 := rfl
  have hT : cs.toList.take (i * 3) = valsP (ps.take i) := by rw [r3]; exact valsP_take ps i R (by omega)
  have hNL := newL_len p i ps (by omega)
  have hcell : ∀ (Q : List Value) (i' : Nat) (x : List DV) (j : Nat) (d : DV), ((newL p i ps).map Pt.enc)[i']? = some x → x[j]? = some d → ∃ c, (valsP (newL p i ps) ++ Q).toArray[i' * 3 + j]? = some c ∧ VRel (K.cut w) w d c := fun Q i' x j d hx hd => by
    obtain ⟨v, e1, e2⟩ := valsP_get _ Q i' x j d hx hd
    exact ⟨v, by rw [List.getElem?_toArray]; exact e1, e2 ▸ .v v⟩
  have h3 : ∀ x ∈ (newL p i ps).map Pt.enc, x.length = 3 := fun x hx => by
    obtain ⟨y, -, rfl⟩ := List.mem_map.1 hx
    rfl
  by_cases hroom : ps.length + 1 ≤ cap
  · have hcall := ins_shift w ((K.cut w).μ n) ps.length cap i ((K.cut w).μ nv) capv cs csv t tv fr frv hi hroom q3 (by omega) hne r2 (r1.plain (by decide)) v2 (v1.plain (by decide)) hszv (by rw [hD]; exact valsP_one _) (by rw [hV]; intro v hv; exact valsP_one [p] v (by simpa [valsP] using hv))
    rw [hD, hV] at hcall
    refine hcall.mono ?_
    rintro e w' ⟨rfl, c1, c2, hc1, hc2, rfl⟩
    have hc2' : c2.toList = valsP (newL p i ps) ++ cs.toList.drop ((ps.length + 1) * 3) := by
      rw [hc2]
      show c1.toList.take (i * 3) ++ p.vals ++ c1.toList.drop (i * 3 + p.vals.length) = _
      have hc1' : c1.toList = cs.toList.take (i * 3) ++ (cs.toList.drop (i * 3)).take 3 ++ (valsP (ps.drop i) ++ cs.toList.drop ((ps.length + 1) * 3)) := by
        rw [hc1]
        show cs.toList.take ((i + 1) * 3) ++ _ ++ _ = _
        rw [hDl, show (i + 1) * 3 + (ps.length * 3 - i * 3) = (ps.length + 1) * 3 by omega, List.append_assoc]
        congr 1
        rw [show (i + 1) * 3 = i * 3 + 3 by omega, List.take_add]
      have l1 : (cs.toList.take (i * 3)).length = i * 3 := by rw [hT, hTl]
      have l2 : ((cs.toList.drop (i * 3)).take 3).length = 3 := by
        rw [List.length_take, List.length_drop, Array.length_toList]
        omega
      rw [hc1', List.append_assoc (cs.toList.take (i * 3)), List.take_left' l1, hVl, ← List.append_assoc (cs.toList.take (i * 3)), List.drop_left' (by rw [List.length_append, l1, l2]), hT, newL_vals]
      simp only [List.append_assoc]
    have hcs2 : c2.size = cs.size := by
      have := congrArg List.length hc2'
      simp only [Array.length_toList, List.length_append, valsP_len, hNL, List.length_drop] at this
      omega
    have hww : (w.drew.setRow ((K.cut w).μ n) c1).setRow ((K.cut w).μ n) c2 = w.drew.setRow ((K.cut w).μ n) c2 := setRow_setRow _ _ _ _
    rw [hww]
    refine ⟨_, rfl, fun m hm => ?_⟩
    have hmn : ¬ K.dom m := hm m (Nat.le_refl _) (Nat.lt_succ_self _)
    have hI1 := inv_lendN (n := m) (inv_ext hI (Ext.heap_eq (W := fun _ => False) (w' := w.drew) rfl rfl rfl rfl))
    have hw := inv_write hI1 (k := 0) rfl hr r1 r2 hcs2 (xs := (newL p i ps).map Pt.enc) (by rw [List.length_map, hNL]; show (ps.length + 1) * 3 ≤ cs.size; omega) h3 (fun i' x j d hx hd => by
      have := hcell (cs.toList.drop ((ps.length + 1) * 3)) i' x j d hx hd
      rw [← hc2'] at this
      obtain ⟨c, k1, k2⟩ := this
      exact ⟨c, by simpa using k1, VRel.mono (K := K.cut w) (w := w) (K' := K.cut w) (w' := w.drew) ⟨Ext.heap_eq rfl rfl rfl rfl, fun n h => ⟨h, rfl⟩, fun g _ h => h⟩ k2⟩)
    have hren := inv_ren (k := 2) (kx := 0) hw.2 (if_pos rfl) hr hmn (Nat.le_refl _)
    refine ⟨(K.cut w).ren m ((K.cut w).μ n), _, _, ⟨rfl, rfl⟩, fun q => ⟨fun h => h.elim .inl (fun h => .inr (by omega)), fun h => h.elim .inl (fun h => .inr (by omega))⟩, fun q h => h.elim .inl (fun h => .inr (by omega)), inv_less hren (fun k o hk => ?_), ?_⟩
    · match k, hk with
      | 0, hk => cases hk
      | 1, hk => cases hk
      | 2, hk => exact hk
      | k + 3, hk => simp [lget] at hk
    · refine .sl hroom (fun h => by cases h) (.inr ⟨.inr rfl, ?_, c2, t, fr, ?_, ?_, fun _ => ?_⟩)
      · show _ = some (⟨(if m = m then _ else _), 0 * 3, none⟩ : Addr)
        rw [if_pos rfl, Nat.zero_mul]
      · show (w.drew.setRow _ c2).heap[if m = m then _ else _]? = _
        rw [if_pos rfl]
        exact setRow_heap w.drew _ cs c2 t fr r2
      · omega
      · omega
  · have hcall := ins_grow w ((K.cut w).μ n) ps.length cap i ((K.cut w).μ nv) capv cs csv t tv fr frv hi hcap (by omega) (by omega) q3 r2 v2 hszv (by rw [hD]; exact valsP_one _) (by rw [hV]; intro v hv; exact valsP_one [p] v (by simpa [valsP] using hv))
    rw [hD, hV] at hcall
    refine hcall.mono ?_
    rintro e w' ⟨G, hG, rfl, Rr, c1, c2, hR, hc1, hc2, rfl⟩
    have hRl : Rr.size = G * 3 := by
      rw [hR, Array.size_append, Array.size_append, zP_size, zP_size, List.size_toArray, hT, hTl]
      omega
    have hRt : Rr.toList.take (i * 3) = valsP (ps.take i) := by
      rw [hR, Array.toList_append, Array.toList_append, List.append_assoc, hT]
      exact List.take_left' hTl
    have hc1' : c1.toList = valsP (ps.take i) ++ p.vals ++ Rr.toList.drop (i * 3 + 3) := by
      rw [hc1]
      show Rr.toList.take (i * 3) ++ p.vals ++ Rr.toList.drop (i * 3 + p.vals.length) = _
      rw [hRt, hVl]
    have hc1l : c1.size = G * 3 := by
      have := congrArg List.length hc1'
      rw [Array.length_toList, List.length_append, List.length_append, hTl, hVl, List.length_drop, Array.length_toList] at this
      omega
    have hc2' : c2.toList = valsP (newL p i ps) ++ c1.toList.drop ((ps.length + 1) * 3) := by
      rw [hc2]
      show c1.toList.take ((i + 1) * 3) ++ _ ++ _ = _
      rw [hDl, show (i + 1) * 3 + (ps.length * 3 - i * 3) = (ps.length + 1) * 3 by omega, newL_vals]
      have : c1.toList.take ((i + 1) * 3) = valsP (ps.take i) ++ p.vals := by
        rw [hc1']
        exact List.take_left' (by rw [List.length_append, hTl, hVl]; omega)
      rw [this]
      simp only [List.append_assoc]
    have hcs2 : c2.size = G * 3 := by
      have := congrArg List.length hc2'
      simp only [Array.length_toList, List.length_append, valsP_len, hNL, List.length_drop] at this
      omega
    refine ⟨_, rfl, fun m hm => ?_⟩
    have hmn : ¬ K.dom m := hm m (Nat.le_refl _) (Nat.lt_succ_self _)
    have hheap : ((((w.alloc (.cells Rr 47)).drew.setRow w.heap.size c1).drew).setRow w.heap.size c2).heap = (w.alloc (.cells c2 47)).heap := by
      apply Array.ext_getElem?
      intro k
      have hnew : (w.alloc (.cells Rr 47)).drew.heap[w.heap.size]? = some (.cells Rr 47 (0, 0)) := heap_new w _
      by_cases hk : k = w.heap.size
      · subst hk
        have e1 := setRow_heap _ _ Rr c1 _ _ hnew
        rw [show (w.alloc (.cells c2 47)).heap[w.heap.size]? = some (.cells c2 47 (0, 0)) from heap_new w _]
        exact setRow_heap (((w.alloc (.cells Rr 47)).drew.setRow w.heap.size c1).drew) _ c1 c2 _ _ e1
      · rw [setRow_other hk]
        show ((w.alloc (.cells Rr 47)).drew.setRow w.heap.size c1).heap[k]? = _
        rw [setRow_other hk]
        show (w.heap.push _)[k]? = (w.heap.push _)[k]?
        simp only [Array.getElem?_push, if_neg hk]
    have hI1 := inv_add (inv_lendN (n := m) hI) (n := m) (sz := 3) (k := 2) (xs := (newL p i ps).map Pt.enc) (cs := c2) (t := 47) hmn (Nat.le_refl _) (by decide) (by rw [List.length_map, hNL, hcs2]; omega) h3 (fun i' x j d hx hd => by
      have := hcell (c1.toList.drop ((ps.length + 1) * 3)) i' x j d hx hd
      rw [← hc2'] at this
      obtain ⟨c, k1, k2⟩ := this
      exact ⟨c, by simpa using k1, k2⟩)
    have hI2 := inv_ext hI1 (Ext.heap_eq (W := fun _ => False) (w' := ((((w.alloc (.cells Rr 47)).drew.setRow w.heap.size c1).drew).setRow w.heap.size c2)) rfl rfl rfl hheap)
    refine ⟨(K.cut w).add m w.heap.size, _, _, ⟨rfl, rfl⟩, fun q => ⟨fun h => h.elim .inl (fun h => .inr (by omega)), fun h => h.elim .inl (fun h => .inr (by omega))⟩, fun q h => h.elim .inl (fun h => .inr (by omega)), inv_less hI2 (fun k o hk => ?_), ?_⟩
    · match k, hk with
      | 0, hk => cases hk
      | 1, hk => cases hk
      | 2, hk => exact hk
      | k + 3, hk => simp [lget] at hk
    · refine .sl hG (fun h => by cases h) (.inr ⟨.inr rfl, ?_, c2, 47, (0, 0), ?_, ?_, fun _ => ?_⟩)
      · show _ = some (⟨(if m = m then _ else _), 0 * 3, none⟩ : Addr)
        rw [if_pos rfl, Nat.zero_mul]
      · rw [hheap]
        show (w.alloc _).heap[if m = m then _ else _]? = _
        rw [if_pos rfl]
        exact heap_new w _
      · omega
      · omega
set_option maxHeartbeats 1000000 in
theorem ins_end (n nv : Nat) (ps : List Pt) (p : Pt) (hl : ps.length ≤ 64) : MSpec Try.prog 38 [.sl 0 n 3 0 ps.length false, .v (.int .i64 (ps.length : Nat)), .sl 1 nv 3 0 1 true] [some ⟨n, 3, ps.map Pt.enc⟩, some ⟨nv, 3, [p.enc]⟩] 1
    (fun m d H => d = .sl 2 m 3 0 (ps.length + 1) false ∧ H = insO m (newL p ps.length ps)) := by
  have e : (newL p ps.length ps).map Pt.enc = ps.map Pt.enc ++ [p.enc] := by
    unfold newL
    simp
  have hones : ∀ r : List Pt, allOnes (r.map Pt.enc) = true := allOnes_map (fun x => rfl)
  unfold insO
  rw [e]
  refine mspec_fn Try.func38 rfl ok_slices_Insert_api_Part okr_slices_Insert_api_Part rfl (by kernel_rfl) ?_
  intro Γ hW0 hN0 hL0
  clear hW0
  unfold x_slices_Insert_api_Part r_slices_Insert_api_Part
  with_reducible refine auC ?_
  repeat' (first
    | (with_reducible refine auS ?_)
    | fail
    | (with_reducible refine auD ?_)
    | ((with_reducible refine auB ?_ ?_); all_goals first | ((with_reducible intro h); first | exact auH | simp only [h, runR_t, runR_f] | skip) | skip)
    | fail)
  (all_goals first | exact auP | skip)
  simp only [List.length_map]
  have hnf : nfLL Γ.g0 (ps.map Pt.enc ++ [p.enc]) := by
    rw [← e]
    exact nfLL_map (fun x => by simp [nfL, nfD])
  exact ret_m [0, 9, 2] [Γ.g0] trivial (by decide) rfl (fun a ha => by simp at ha; subst ha; exact ⟨2, _, rfl, rfl⟩) (fun m => ⟨2, m, .inl ⟨0, rfl, rfl⟩, rfl⟩) (fun m => ⟨⟨.inl ⟨0, rfl, rfl⟩, rfl, renMLL_nf _ hnf⟩, rfl⟩)
theorem ins_spec (n nv : Nat) (ps : List Pt) (p : Pt) (i : Nat) (hi : i ≤ ps.length) (hl : ps.length ≤ 64) : MSpec Try.prog 38 [.sl 0 n 3 0 ps.length false, .v (.int .i64 (i : Nat)), .sl 1 nv 3 0 1 true] [some ⟨n, 3, ps.map Pt.enc⟩, some ⟨nv, 3, [p.enc]⟩] 1
    (fun m d H => d = .sl 2 m 3 0 (ps.length + 1) false ∧ H = insO m (newL p i ps)) := by
  rcases Nat.lt_or_ge i ps.length with h | h
  · exact ins_spec0 n nv ps p i h hl
  · obtain rfl : i = ps.length := by omega
    exact ins_end n nv ps p hl
end Go.Proofs.Ytidogmmfakcfgaa
