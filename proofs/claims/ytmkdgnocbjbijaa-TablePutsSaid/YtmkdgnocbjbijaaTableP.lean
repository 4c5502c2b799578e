/-
  A table of keys: what Put and Remove make, in plain words.
-/
import Derived.Test.YtmkdgnocbjbijaaTableT
namespace Go.Proofs.Ytmkdgnocbjbijaa
set_option linter.unusedVariables false
set_option linter.unusedSimpArgs false
def unu (l : List Tb) (i : Nat) : Bool := match l[i]? with
  | some t => !t.u
  | none => true
/-- The first slot that isn't used, from slot h on. -/
def fre (l : List Tb) (h : Nat) : Nat := (h + ((List.range l.length).find? (fun j => unu l ((h + j) % l.length))).getD 0) % l.length
theorem fre_at {l : List Tb} {h j : Nat} (hj : j < l.length) (hs : unu l ((h + j) % l.length) = true) (hb : ∀ i, i < j → unu l ((h + i) % l.length) = false) : fre l h = (h + j) % l.length := by
  have : (List.range l.length).find? (fun j => unu l ((h + j) % l.length)) = some j := by
    rw [List.find?_range_eq_some]
    refine ⟨hs, by simp [hj], fun i hi => ?_⟩
    rw [hb i hi]; rfl
  unfold fre
  rw [this]; rfl
theorem fre_has {l : List Tb} {h i : Nat} (hh : h < l.length) (hi : i < l.length) (hs : unu l i = true) : ∃ j, j < l.length ∧ unu l ((h + j) % l.length) = true ∧ (∀ a, a < j → unu l ((h + a) % l.length) = false) ∧ fre l h = (h + j) % l.length := by
  have hex : ∃ j, j < l.length ∧ (h + j) % l.length = i := by
    by_cases hc : h ≤ i
    · exact ⟨i - h, by omega, by rw [show h + (i - h) = i by omega, Nat.mod_eq_of_lt hi]⟩
    · exact ⟨i + l.length - h, by omega, by rw [show h + (i + l.length - h) = i + l.length by omega, Nat.add_mod_right, Nat.mod_eq_of_lt hi]⟩
  obtain ⟨j0, h0, e0⟩ := hex
  cases hf : (List.range l.length).find? (fun j => unu l ((h + j) % l.length)) with
  | none =>
    have := List.find?_eq_none.1 hf j0 (by simp [h0])
    rw [e0, hs] at this
    exact absurd rfl this
  | some j =>
    have hj := List.find?_range_eq_some.1 hf
    have hlt : j < l.length := by simpa using hj.2.1
    have hb : ∀ a, a < j → unu l ((h + a) % l.length) = false := fun a ha => by
      have := hj.2.2 a ha
      simpa using this
    exact ⟨j, hlt, hj.1, hb, fre_at hlt hj.1 hb⟩
theorem stp_unu {l : List Tb} {key : Int} (hno : ∀ t ∈ l, t.u = true → ¬ t.k = key) (i : Nat) : stp l key i = unu l i := by
  unfold stp unu
  cases h : l[i]? with
  | none => rfl
  | some t =>
    have := hno t (List.mem_of_getElem? h)
    cases hu : t.u with
    | false => simp [hu]
    | true => simp [hu, this hu]
theorem fnd_fre {l : List Tb} {key : Int} (hno : ∀ t ∈ l, t.u = true → ¬ t.k = key) (h : Nat) : fnd l key h = fre l h := by
  have : (fun j => stp l key ((h + j) % l.length)) = (fun j => unu l ((h + j) % l.length)) := funext fun j => stp_unu hno _
  unfold fnd fre
  rw [this]
structure VT (b : Nat) (l : List Tb) : Prop where
  hb : 1 ≤ b ∧ b ≤ 6
  hl : l.length = 2 ^ b
  fr : ∃ i, i < l.length ∧ unu l i = true
  ok : ∀ (i : Nat) (t : Tb), l[i]? = some t → t.u = true → fnd l t.k (hm b t.k).toNat = i
  em : ∀ t ∈ l, t.u = false → t = ⟨false, 0, 0⟩
theorem vt_of {l : List Tb} (h : tbErr l = 0) : VT (btN l.length) l := by
  unfold tbErr at h
  split at h
  · cases h
  rename_i hb
  split at h
  · cases h
  rename_i ha
  split at h
  · rename_i hg
    obtain ⟨hb6, hlen⟩ := btN_of rfl hb
    refine ⟨hb6, hlen, ?_, fun i t ht hu => ?_, fun t ht hu => ?_⟩
    · obtain ⟨t, ht, hu⟩ := List.all_eq_false.1 (Bool.eq_false_iff.2 ha)
      obtain ⟨i, hi, e⟩ := List.mem_iff_getElem.1 ht
      refine ⟨i, hi, ?_⟩
      unfold unu
      rw [List.getElem?_eq_getElem hi, e]
      simpa using hu
    · have ho := goodG_at hg ht
      have hi := (List.getElem?_eq_some_iff.1 ht).1
      have hle : (l.take i).length = i := by simp; omega
      unfold okT at ho
      rw [List.nil_append, if_pos hu, hle] at ho
      simpa using ho
    · obtain ⟨i, hi⟩ := List.mem_iff_getElem?.1 ht
      have ho := goodG_at hg hi
      unfold okT at ho
      rw [if_neg (by rw [hu]; simp)] at ho
      obtain ⟨e1, e2⟩ : t.k = 0 ∧ t.v = 0 := by simpa using ho
      obtain ⟨u, k, w⟩ := t
      dsimp only at hu e1 e2
      rw [hu, e1, e2]
  · cases h
theorem vt_home {b : Nat} {l : List Tb} (v : VT b l) (k : Int) : (hm b k).toNat < l.length := by
  have := hm_bd v.hb k
  rw [v.hl]; omega
/-! INDEXES -/
theorem modc (x n : Nat) (h : x < 2 * n) : (x < n ∧ x % n = x) ∨ (n ≤ x ∧ x % n = x - n) := by
  by_cases hx : x < n
  · exact .inl ⟨hx, Nat.mod_eq_of_lt hx⟩
  · exact .inr ⟨by omega, by rw [Nat.mod_eq_sub_mod (by omega), Nat.mod_eq_of_lt (by omega)]⟩
theorem off_inj {h n i j : Nat} (hh : h < n) (hi : i < n) (hj : j < n) (e : (h + i) % n = (h + j) % n) : i = j := by
  have a := modc (h + i) n (by omega)
  have b := modc (h + j) n (by omega)
  omega
theorem off_has {h n k : Nat} (hh : h < n) (hk : k < n) : ∃ i, i < n ∧ (h + i) % n = k := by
  by_cases hc : h ≤ k
  · exact ⟨k - h, by omega, by rw [show h + (k - h) = k by omega, Nat.mod_eq_of_lt hk]⟩
  · exact ⟨k + n - h, by omega, by rw [show h + (k + n - h) = k + n by omega, Nat.add_mod_right, Nat.mod_eq_of_lt hk]⟩
theorem pos_rel {h H n d a j : Nat} (hh : h < n) (hH : H < n) (hd : d < n) (hj : j < n) (ha : a ≤ d) (e : (H + d) % n = (h + j) % n) : (d - a ≤ j ∧ (H + a) % n = (h + (j - (d - a))) % n) ∨ (j < d - a ∧ (H + a) % n = (h + (n + j - (d - a))) % n) := by
  have c1 := modc (H + d) n (by omega)
  have c2 := modc (h + j) n (by omega)
  have c3 := modc (H + a) n (by omega)
  by_cases hc : d - a ≤ j
  · have c4 := modc (h + (j - (d - a))) n (by omega)
    omega
  · have c4 := modc (h + (n + j - (d - a))) n (by omega)
    omega
theorem set_off {l : List Tb} {h n i o : Nat} {x : Tb} (hn : l.length = n) (hh : h < n) (hi : i < n) (ho : o < n) : (l.set ((h + o) % n) x)[(h + i) % n]? = if i = o then some x else l[(h + i) % n]? := by
  have hm : (h + o) % n < n := Nat.mod_lt _ (by omega)
  rw [List.getElem?_set]
  by_cases e : i = o
  · subst e
    rw [if_pos rfl, if_pos rfl, if_pos (by omega)]
  · rw [if_neg e, if_neg (fun q => e (off_inj hh hi ho q.symm))]
/-! REMOVAL -/
abbrev e0 : Tb := ⟨false, 0, 0⟩
def rmS (b h n : Nat) (s : List Tb × Nat) (j : Nat) : List Tb × Nat := match s.1[(h + (j + 1)) % n]? with
  | some t => if j + 1 - s.2 ≤ dst (hm b t.k).toNat ((h + (j + 1)) % n) n then (s.1.set ((h + s.2) % n) t, j + 1) else s
  | none => s
def rmL (b : Nat) (l : List Tb) (h : Nat) : Nat → List Tb × Nat
  | 0 => (l, 0)
  | j + 1 => rmS b h l.length (rmL b l h j) j
def clr (l : List Tb) (h : Nat) : Nat → List Tb
  | 0 => l.set ((h + 0) % l.length) e0
  | j + 1 => (clr l h j).set ((h + (j + 1)) % l.length) e0
def mvT (l : List Tb) (h j : Nat) : Tb := (l[(h + (j + 1)) % l.length]?).getD e0
def mvd (l : List Tb) (h : Nat) : Nat → List Tb
  | 0 => []
  | j + 1 => mvd l h j ++ [mvT l h j]
def ins (b : Nat) (l : List Tb) (h m : Nat) : Nat → List Tb
  | 0 => clr l h m
  | j + 1 => (ins b l h m j).set (fre (ins b l h m j) (hm b (mvT l h j).k).toNat) (mvT l h j)
theorem clr_len (l : List Tb) (h : Nat) : ∀ j, (clr l h j).length = l.length
  | 0 => by simp [clr]
  | j + 1 => by simp [clr, clr_len l h j]
theorem clr_get {l : List Tb} {h i : Nat} (hh : h < l.length) (hi : i < l.length) : ∀ j, j < l.length → (clr l h j)[(h + i) % l.length]? = if i ≤ j then some e0 else l[(h + i) % l.length]?
  | 0, hj => by
    rw [clr, set_off rfl hh hi hj]
    by_cases e : i = 0
    · rw [if_pos e, if_pos (by omega)]
    · rw [if_neg e, if_neg (by omega)]
  | j + 1, hj => by
    rw [clr, set_off (clr_len l h j) hh hi hj, clr_get hh hi j (by omega)]
    by_cases e : i = j + 1
    · rw [if_pos e, if_pos (by omega)]
    · rw [if_neg e]
      by_cases e2 : i ≤ j
      · rw [if_pos e2, if_pos (by omega)]
      · rw [if_neg e2, if_neg (by omega)]
theorem mvd_len (l : List Tb) (h : Nat) : ∀ j, (mvd l h j).length = j
  | 0 => rfl
  | j + 1 => by simp [mvd, mvd_len l h j]
theorem mvd_get (l : List Tb) (h : Nat) : ∀ m j, j < m → (mvd l h m)[j]? = some (mvT l h j)
  | m + 1, j, hj => by
    rw [mvd]
    by_cases e : j < m
    · rw [List.getElem?_append_left (by rw [mvd_len]; exact e)]
      exact mvd_get l h m j e
    · obtain rfl : j = m := by omega
      rw [List.getElem?_append_right (by rw [mvd_len]; exact Nat.le_refl _), mvd_len, Nat.sub_self]
      rfl
/-- What holds after j of the cells behind the hole. -/
structure RI (l : List Tb) (h m j : Nat) (s : List Tb × Nat) (R : List Tb) : Prop where
  hL : s.1.length = l.length
  hR : R.length = l.length
  ho : s.2 ≤ j
  keep : ∀ i, i < l.length → j < i → s.1[(h + i) % l.length]? = l[(h + i) % l.length]?
  used : ∀ i, i ≤ m → ∃ t, s.1[(h + i) % l.length]? = some t ∧ t.u = true
  rel : ∀ i, i < l.length → R[(h + i) % l.length]? = if i = s.2 ∨ (j < i ∧ i ≤ m) then some e0 else s.1[(h + i) % l.length]?
theorem unu_some {l : List Tb} {i : Nat} {t : Tb} (h : l[i]? = some t) : unu l i = !t.u := by unfold unu; rw [h]
theorem ri_zero {b : Nat} {l : List Tb} {h m : Nat} (hh : h < l.length) (hm : m + 1 < l.length) (hu : ∀ i, i ≤ m → ∃ t, l[(h + i) % l.length]? = some t ∧ t.u = true) : RI l h m 0 (rmL b l h 0) (ins b l h m 0) where
  hL := rfl
  hR := clr_len l h m
  ho := Nat.le_refl _
  keep := fun i _ _ => rfl
  used := hu
  rel := fun i hi => by
    show (clr l h m)[(h + i) % l.length]? = _
    rw [clr_get hh hi m (by omega)]
    by_cases e : i ≤ m
    · rw [if_pos e, if_pos (by show i = 0 ∨ _; omega)]
    · rw [if_neg e, if_neg (by show ¬ (i = 0 ∨ _); omega)]
      rfl
theorem ri_next {b : Nat} {l : List Tb} {h m j : Nat} {s : List Tb × Nat} {R : List Tb} (v : VT b l) (hh : h < l.length) (hmn : m + 1 < l.length) (hu : ∀ i, i ≤ m → ∃ t, l[(h + i) % l.length]? = some t ∧ t.u = true) (hend : unu l ((h + (m + 1)) % l.length) = true) (hj : j < m) (I : RI l h m j s R) : RI l h m (j + 1) (rmS b h l.length s j) (R.set (fre R (hm b (mvT l h j).k).toNat) (mvT l h j)) := by
  obtain ⟨t, ht, htu⟩ := hu (j + 1) (by omega)
  have hmt : mvT l h j = t := by unfold mvT; rw [ht]; rfl
  rw [hmt]
  have hst : s.1[(h + (j + 1)) % l.length]? = some t := by rw [I.keep (j + 1) (by omega) (by omega), ht]
  have hH := vt_home v t.k
  have hP : (h + (j + 1)) % l.length < l.length := Nat.mod_lt _ (by omega)
  have hd := dst_lt hH hP
  have hdi := (dst_is hH hP hd).2 rfl
  have hfd := (fnd_iff (b := b) ht hH).1 (v.ok _ t ht htu)
  unfold rmS
  rw [hst]
  dsimp only
  generalize dst (hm b t.k).toNat ((h + (j + 1)) % l.length) l.length = d at *
  generalize (hm b t.k).toNat = H at *
  have ho := I.ho
  have hpu : ∀ a, a < d → ∃ x, l[(H + a) % l.length]? = some x ∧ x.u = true := fun a ha => by
    have h1 := hfd a ha
    obtain ⟨x, hx⟩ : ∃ x, l[(H + a) % l.length]? = some x := ⟨_, List.getElem?_eq_getElem (Nat.mod_lt _ (by omega))⟩
    refine ⟨x, hx, ?_⟩
    unfold stp at h1
    rw [hx] at h1
    simp only [Bool.or_eq_false_iff, Bool.not_eq_false'] at h1
    exact h1.1
  have hRL : ∀ i, i < l.length → i ≠ s.2 → (i ≤ j ∨ m < i) → R[(h + i) % l.length]? = s.1[(h + i) % l.length]? := fun i hi h1 h2 => by rw [I.rel i hi, if_neg (by omega)]
  -- a slot ahead of where the cell goes is used
  have hpre : ∀ a, a < d → (j + 1 - s.2 ≤ d → a < d - (j + 1 - s.2)) → unu R ((H + a) % R.length) = false := fun a ha hc => by
    rw [I.hR]
    have hpr := pos_rel (a := a) hh hH hd (by omega : j + 1 < l.length) (by omega) hdi
    rcases hpr with ⟨h1, h2⟩ | ⟨h1, h2⟩
    · rw [h2]
      obtain ⟨x, hx, hxu⟩ := I.used (j + 1 - (d - a)) (by omega)
      rw [unu_some ((hRL _ (by omega) (by omega) (.inl (by omega))).trans hx), hxu]; rfl
    · have hbig : m < l.length + (j + 1) - (d - a) := by
        by_cases hle : l.length + (j + 1) - (d - a) ≤ m + 1
        · exfalso
          have hp2 := pos_rel (a := d - (j + 1 + (l.length - (m + 1)))) hh hH hd (by omega : j + 1 < l.length) (by omega) hdi
          obtain ⟨x, hx, hxu⟩ := hpu (d - (j + 1 + (l.length - (m + 1)))) (by omega)
          rcases hp2 with ⟨q1, q2⟩ | ⟨q1, q2⟩
          · omega
          · rw [q2, show l.length + (j + 1) - (d - (d - (j + 1 + (l.length - (m + 1))))) = m + 1 by omega] at hx
            rw [unu_some hx, hxu] at hend
            cases hend
        · omega
      rw [h2]
      obtain ⟨x, hx, hxu⟩ := hpu a ha
      rw [h2] at hx
      rw [unu_some ((hRL _ (by omega) (by omega) (.inr hbig)).trans ((I.keep _ (by omega) (by omega)).trans hx)), hxu]; rfl
  by_cases hc : j + 1 - s.2 ≤ d
  · rw [if_pos hc]
    have hat : (H + (d - (j + 1 - s.2))) % l.length = (h + s.2) % l.length := by
      rcases pos_rel (a := d - (j + 1 - s.2)) hh hH hd (by omega : j + 1 < l.length) (by omega) hdi with ⟨h1, h2⟩ | ⟨h1, h2⟩
      · rw [h2, show j + 1 - (d - (d - (j + 1 - s.2))) = s.2 by omega]
      · omega
    have hfre : fre R H = (h + s.2) % l.length := by
      have := fre_at (l := R) (h := H) (j := d - (j + 1 - s.2)) (by rw [I.hR]; omega) (by
        rw [I.hR, hat]
        have := I.rel s.2 (by omega)
        rw [if_pos (.inl rfl)] at this
        rw [unu_some this]; rfl) (fun a ha => hpre a (by omega) (fun _ => ha))
      rw [this, I.hR, hat]
    rw [hfre]
    refine ⟨by simp [I.hL], by simp [I.hR], Nat.le_refl _, fun i hi h1 => ?_, fun i hi => ?_, fun i hi => ?_⟩
    · dsimp only
      rw [set_off I.hL hh hi (by omega), if_neg (by omega)]
      exact I.keep i hi (by omega)
    · dsimp only
      rw [set_off I.hL hh (by omega) (by omega)]
      by_cases e : i = s.2
      · rw [if_pos e]; exact ⟨t, rfl, htu⟩
      · rw [if_neg e]; exact I.used i hi
    · dsimp only
      rw [set_off I.hR hh hi (by omega), set_off I.hL hh hi (by omega), I.rel i hi]
      by_cases e : i = s.2
      · rw [if_pos e, if_neg (by omega), if_pos e]
      · rw [if_neg e, if_neg e]
        by_cases e2 : j < i ∧ i ≤ m
        · rw [if_pos (.inr e2), if_pos (by omega)]
        · rw [if_neg (by omega), if_neg (by omega)]
  · rw [if_neg hc]
    have hfre : fre R H = (h + (j + 1)) % l.length := by
      have := fre_at (l := R) (h := H) (j := d) (by rw [I.hR]; omega) (by
        rw [I.hR, hdi]
        have := I.rel (j + 1) (by omega)
        rw [if_pos (by omega)] at this
        rw [unu_some this]; rfl) (fun a ha => hpre a ha (fun q => absurd q hc))
      rw [this, I.hR, hdi]
    rw [hfre]
    refine ⟨I.hL, by simp [I.hR], by omega, fun i hi h1 => I.keep i hi (by omega), I.used, fun i hi => ?_⟩
    rw [set_off I.hR hh hi (by omega), I.rel i hi]
    by_cases e : i = j + 1
    · subst e
      rw [if_pos rfl, if_neg (by omega), hst]
    · rw [if_neg e]
      by_cases e2 : i = s.2 ∨ (j < i ∧ i ≤ m)
      · rw [if_pos e2, if_pos (by omega)]
      · rw [if_neg e2, if_neg (by omega)]
theorem ri_all {b : Nat} {l : List Tb} {h m : Nat} (v : VT b l) (hh : h < l.length) (hmn : m + 1 < l.length) (hu : ∀ i, i ≤ m → ∃ t, l[(h + i) % l.length]? = some t ∧ t.u = true) (hend : unu l ((h + (m + 1)) % l.length) = true) : ∀ j, j ≤ m → RI l h m j (rmL b l h j) (ins b l h m j)
  | 0, _ => ri_zero hh hmn hu
  | j + 1, hj => ri_next v hh hmn hu hend (by omega) (ri_all v hh hmn hu hend j (by omega))
theorem rm_same {b : Nat} {l : List Tb} {h m : Nat} (v : VT b l) (hh : h < l.length) (hmn : m + 1 < l.length) (hu : ∀ i, i ≤ m → ∃ t, l[(h + i) % l.length]? = some t ∧ t.u = true) (hend : unu l ((h + (m + 1)) % l.length) = true) : ins b l h m m = (rmL b l h m).1.set ((h + (rmL b l h m).2) % l.length) e0 := by
  have I := ri_all v hh hmn hu hend m (Nat.le_refl _)
  refine List.ext_getElem? fun k => ?_
  by_cases hk : k < l.length
  · obtain ⟨i, hi, rfl⟩ := off_has hh hk
    have ho := I.ho
    rw [I.rel i hi, set_off I.hL hh hi (by omega)]
    by_cases e : i = (rmL b l h m).2
    · rw [if_pos (.inl e), if_pos e]
    · rw [if_neg (by omega), if_neg e]
  · rw [List.getElem?_eq_none (by rw [I.hR]; omega), List.getElem?_eq_none (by rw [List.length_set, I.hL]; omega)]
/-- How many cells stand behind slot h, up to a gap. -/
theorem gap_has {b : Nat} {l : List Tb} {h : Nat} {t : Tb} (v : VT b l) (ht : l[h]? = some t) (htu : t.u = true) : ∃ m, m + 1 < l.length ∧ (∀ i, i ≤ m → ∃ x, l[(h + i) % l.length]? = some x ∧ x.u = true) ∧ unu l ((h + (m + 1)) % l.length) = true := by
  have hh := (List.getElem?_eq_some_iff.1 ht).1
  obtain ⟨i0, hi0, hs0⟩ := v.fr
  obtain ⟨j, hj, hs, hb, -⟩ := fre_has hh hi0 hs0
  have hj0 : j ≠ 0 := fun e => by
    subst e
    rw [Nat.add_zero, Nat.mod_eq_of_lt hh, unu_some ht, htu] at hs
    cases hs
  refine ⟨j - 1, by omega, fun i hi => ?_, by rw [show j - 1 + 1 = j by omega]; exact hs⟩
  have := hb i (by omega)
  obtain ⟨x, hx⟩ : ∃ x, l[(h + i) % l.length]? = some x := ⟨_, List.getElem?_eq_getElem (Nat.mod_lt _ (by omega))⟩
  refine ⟨x, hx, ?_⟩
  rw [unu_some hx] at this
  simpa using this
end Go.Proofs.Ytmkdgnocbjbijaa
