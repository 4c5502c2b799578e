/-
  A table of keys: the reference's check.
-/
import Derived.Test.YtmkdgnocbjbijaaTableZ
namespace Go.Proofs.Ytmkdgnocbjbijaa
set_option linter.unusedVariables false
set_option linter.unusedSimpArgs false
def ukey (L : List Tb) (k : Int) (i : Nat) : Bool := match L[i]? with
  | some o => o.u && decide (o.k = k)
  | none => false
abbrev dst (h i n : Nat) : Nat := if h ≤ i then i - h else i + n - h
def okS (b : Nat) (L pre : List Tb) (t : Tb) : Bool :=
  if t.u then
    (List.range (dst (hm b t.k).toNat pre.length L.length)).all (fun j => !stp L t.k (((hm b t.k).toNat + j) % L.length)) &&
    (List.range L.length).all (fun k => decide (k = pre.length) || !ukey L t.k k)
  else decide (t.k = 0) && decide (t.v = 0)
def trErr (l : List Tb) : Int := if btN l.length = 0 then 1 else if goodG (okS (btN l.length) l) [] l then if l.all Tb.u then 4 else 0 else 4
theorem dst_lt {h i n : Nat} (hh : h < n) (hi : i < n) : dst h i n < n := by unfold dst; split <;> omega
theorem mod_if {h j n : Nat} (hh : h < n) (hj : j < n) : (h + j) % n = if h + j < n then h + j else h + j - n := by
  split
  · exact Nat.mod_eq_of_lt (by assumption)
  · rw [Nat.mod_eq_sub_mod (by omega), Nat.mod_eq_of_lt (by omega)]
theorem dst_is {h i n j : Nat} (hh : h < n) (hi : i < n) (hj : j < n) : (h + j) % n = i ↔ j = dst h i n := by
  rw [mod_if hh hj]; unfold dst
  split <;> split <;> omega
theorem stp_self {L : List Tb} {i : Nat} {t : Tb} (ht : L[i]? = some t) : stp L t.k i = true := by unfold stp; rw [ht]; simp
theorem fnd_iff {b : Nat} {L : List Tb} {i : Nat} {t : Tb} (ht : L[i]? = some t) {h : Nat} (hh : h < L.length) : fnd L t.k h = i ↔ ∀ j, j < dst h i L.length → stp L t.k ((h + j) % L.length) = false := by
  have hi : i < L.length := (List.getElem?_eq_some_iff.1 ht).1
  have hd := dst_lt hh hi
  have hdi := (dst_is hh hi hd).2 rfl
  obtain ⟨j, hj, hs, hb, hf⟩ := fnd_has hh hi (stp_self ht)
  constructor
  · intro e a ha
    have := (dst_is hh hi hj).1 (hf.symm.trans e)
    exact hb a (by omega)
  · intro hall
    rw [fnd_at hd (by rw [hdi]; exact stp_self ht) hall, hdi]
theorem goodG_all {α : Type} {ok : List α → α → Bool} : ∀ {l pre : List α}, (∀ j z, l[j]? = some z → ok (pre ++ l.take j) z = true) → goodG ok pre l = true
  | [], pre, _ => rfl
  | t :: r, pre, h => by
    have h0 := h 0 t rfl
    simp at h0
    unfold goodG
    rw [h0]
    have := goodG_all (l := r) (pre := pre ++ [t]) (fun j z hz => by
      have := h (j + 1) z (by simpa using hz)
      simpa using this)
    simpa using this
theorem okS_iff {b : Nat} {L : List Tb} {i : Nat} {t : Tb} (ht : L[i]? = some t) (hu : t.u = true) (hh : (hm b t.k).toNat < L.length) : okS b L (L.take i) t = true ↔ (∀ j, j < dst (hm b t.k).toNat i L.length → stp L t.k (((hm b t.k).toNat + j) % L.length) = false) ∧ ∀ k, k < L.length → k = i ∨ ukey L t.k k = false := by
  have hi : i < L.length := (List.getElem?_eq_some_iff.1 ht).1
  have hl : (L.take i).length = i := by simp; omega
  unfold okS
  rw [if_pos hu, hl]
  simp only [Bool.and_eq_true, List.all_eq_true, List.mem_range, Bool.not_eq_true', Bool.or_eq_true, decide_eq_true_eq]
theorem tb_tr (l : List Tb) : tbErr l = trErr l := by
  unfold tbErr trErr
  cases hb : btN l.length with
  | zero => rfl
  | succ c =>
    obtain ⟨hb6, hlen⟩ := btN_of hb (Nat.succ_ne_zero c)
    have hh : ∀ t : Tb, (hm (c + 1) t.k).toNat < l.length := fun t => by
      have := hm_bd hb6 t.k
      rw [hlen]; omega
    have hle : ∀ {i : Nat} {t : Tb}, l[i]? = some t → (l.take i).length = i := fun ht => by
      have := (List.getElem?_eq_some_iff.1 ht).1
      simp; omega
    have hgg : goodG (okT (c + 1) l) [] l = goodG (okS (c + 1) l) [] l := by
      rw [Bool.eq_iff_iff]
      constructor
      · intro hg
        refine goodG_all fun i t ht => ?_
        have ho := goodG_at hg ht
        rw [List.nil_append] at ho ⊢
        unfold okT at ho
        cases hu : t.u with
        | false =>
          unfold okS
          rw [hu] at ho ⊢
          exact ho
        | true =>
          rw [hu, hle ht] at ho
          have ho' : fnd l t.k (hm (c + 1) t.k).toNat = i := by simpa using ho
          refine (okS_iff ht hu (hh t)).2 ⟨(fnd_iff (b := 0) ht (hh t)).1 ho', fun k hk => ?_⟩
          cases hq : ukey l t.k k with
          | false => exact .inr rfl
          | true =>
            left
            obtain ⟨o, hok⟩ : ∃ o, l[k]? = some o := ⟨_, List.getElem?_eq_getElem hk⟩
            unfold ukey at hq
            rw [hok] at hq
            obtain ⟨ou, ok⟩ : o.u = true ∧ o.k = t.k := by simpa using hq
            have h2 := goodG_at hg hok
            rw [List.nil_append] at h2
            unfold okT at h2
            rw [ou, hle hok, ok] at h2
            have h2' : fnd l t.k (hm (c + 1) t.k).toNat = k := by simpa using h2
            omega
      · intro hg
        refine goodG_all fun i t ht => ?_
        have ho := goodG_at hg ht
        rw [List.nil_append] at ho ⊢
        cases hu : t.u with
        | false =>
          unfold okS at ho
          unfold okT
          rw [hu] at ho ⊢
          exact ho
        | true =>
          have := ((okS_iff ht hu (hh t)).1 ho).1
          unfold okT
          rw [hu, hle ht]
          simpa using (fnd_iff (b := 0) ht (hh t)).2 this
    rw [hgg]
    cases goodG (okS (c + 1) l) [] l <;> cases l.all Tb.u <;> rfl
end Go.Proofs.Ytmkdgnocbjbijaa
