/-
  Plain facts on trimmed rows: the state byte by byte, and what a whole run of bytes within does to it.
-/
import Derived.Below
namespace Go.Proofs.Ytolbnadafelkhaa
open Go.RowKit
set_option linter.unusedVariables false
set_option linter.unusedSimpArgs false

def offI (a fr : Int) (j : Nat) : Int := (a + (j : Int) - fr) % 4294967296

structure TS where
  row : List UInt8
  best : List UInt8
  beg : Int
  fst : Int

def tstep (a fr sz : Int) (l : List UInt8) (j : Nat) (s : TS) : TS :=
  if offI a fr j < sz then
    (if s.best.length < (s.row ++ (l.drop j).take 1).length then ⟨s.row ++ (l.drop j).take 1, s.row ++ (l.drop j).take 1, if s.row = [] then (a + (j : Int)) % 4294967296 else s.beg, if s.row = [] then (a + (j : Int)) % 4294967296 else s.beg⟩
     else ⟨s.row ++ (l.drop j).take 1, s.best, if s.row = [] then (a + (j : Int)) % 4294967296 else s.beg, s.fst⟩)
  else ⟨[], s.best, s.beg, s.fst⟩

def tst (a fr sz : Int) (l : List UInt8) : Nat → TS
  | 0 => ⟨[], [], fr, fr⟩
  | k + 1 => tstep a fr sz l k (tst a fr sz l k)

theorem take_one_more (l : List UInt8) (i m : Nat) : (l.drop i).take m ++ (l.drop (i + m)).take 1 = (l.drop i).take (m + 1) := by
  rw [← List.drop_drop, List.take_add]

theorem run_within (a fr sz : Int) (l : List UInt8) (i : Nat) (h0 : (tst a fr sz l i).row = []) : ∀ m : Nat, 0 < m → i + m ≤ l.length → (∀ t, t < m → offI a fr (i + t) < sz) →
    tst a fr sz l (i + m) = (if (tst a fr sz l i).best.length < m then ⟨(l.drop i).take m, (l.drop i).take m, (a + (i : Int)) % 4294967296, (a + (i : Int)) % 4294967296⟩
      else ⟨(l.drop i).take m, (tst a fr sz l i).best, (a + (i : Int)) % 4294967296, (tst a fr sz l i).fst⟩)
  | 0, h, _, _ => absurd h (by omega)
  | 1, _, hl, hin => by
    show tstep a fr sz l i (tst a fr sz l i) = _
    have h1 : offI a fr i < sz := hin 0 (by omega)
    have h2 : ((l.drop i).take 1).length = 1 := by rw [List.length_take, List.length_drop]; omega
    unfold tstep
    rw [if_pos h1, h0]
    simp only [List.nil_append, h2, if_true]
  | m + 2, _, hl, hin => by
    have ih := run_within a fr sz l i h0 (m + 1) (by omega) (by omega) (fun t ht => hin t (by omega))
    have h1 : offI a fr (i + (m + 1)) < sz := hin (m + 1) (by omega)
    have h2 : ((l.drop i).take (m + 2)).length = m + 2 := by rw [List.length_take, List.length_drop]; omega
    have h3 : ((l.drop i).take (m + 1)).length = m + 1 := by rw [List.length_take, List.length_drop]; omega
    have h4 : (l.drop i).take (m + 1) ≠ [] := by intro e; rw [e] at h3; simp at h3
    have h5 : (l.drop i).take (m + 1) ++ (l.drop (i + (m + 1))).take 1 = (l.drop i).take (m + 2) := take_one_more l i (m + 1)
    show tstep a fr sz l (i + (m + 1)) (tst a fr sz l (i + (m + 1))) = _
    rw [ih]
    unfold tstep
    rw [if_pos h1]
    by_cases hb : (tst a fr sz l i).best.length < m + 1
    · rw [if_pos hb]
      simp only [h5, h2, h3, if_neg h4]
      rw [if_pos (by omega), if_pos (by omega)]
    · rw [if_neg hb]
      simp only [h5, h2, if_neg h4]

theorem run_outside (a fr sz : Int) (l : List UInt8) (i : Nat) : ∀ m : Nat, (∀ t, t < m → ¬ offI a fr (i + t) < sz) →
    (tst a fr sz l (i + m)).best = (tst a fr sz l i).best ∧ (tst a fr sz l (i + m)).fst = (tst a fr sz l i).fst ∧ (0 < m → (tst a fr sz l (i + m)).row = [])
  | 0, _ => ⟨rfl, rfl, fun h => absurd h (by omega)⟩
  | m + 1, hin => by
    obtain ⟨h1, h2, _⟩ := run_outside a fr sz l i m (fun t ht => hin t (by omega))
    have h3 := hin m (by omega)
    show (tstep a fr sz l (i + m) (tst a fr sz l (i + m))).best = _ ∧ (tstep a fr sz l (i + m) (tst a fr sz l (i + m))).fst = _ ∧ _
    unfold tstep
    rw [if_neg h3]
    refine ⟨h1, h2, fun _ => ?_⟩
    show (tstep a fr sz l (i + m) (tst a fr sz l (i + m))).row = _
    unfold tstep
    rw [if_neg h3]

/-- What the loop over runs knows at its head. -/
def AtHead (a fr sz : Int) (l : List UInt8) (i : Nat) (best : List UInt8) (fst : Int) : Prop :=
  (tst a fr sz l i).best = best ∧ (tst a fr sz l i).fst = fst ∧ ((tst a fr sz l i).row = [] ∨ ¬ offI a fr i < sz ∨ l.length ≤ i)

theorem off_more (a fr : Int) (i t : Nat) (h : offI a fr i + (t : Int) < 4294967296) : offI a fr (i + t) = offI a fr i + (t : Int) := by
  unfold offI at *
  omega

theorem head_start (a fr sz : Int) (l : List UInt8) : AtHead a fr sz l 0 [] fr := ⟨rfl, rfl, .inl rfl⟩

theorem head_break {a fr sz : Int} {l : List UInt8} {i : Nat} {best : List UInt8} {fst : Int} (h : AtHead a fr sz l i best fst) (hi : i ≤ l.length) (hs : 0 ≤ sz) (ho : sz ≤ offI a fr i) (hk : ((l.length - i : Nat) : Int) ≤ 4294967296 - offI a fr i) :
    (tst a fr sz l l.length).best = best ∧ (tst a fr sz l l.length).fst = fst := by
  have hr := run_outside a fr sz l i (l.length - i) (fun t ht => by rw [off_more a fr i t (by omega)]; omega)
  rw [show i + (l.length - i) = l.length by omega] at hr
  exact ⟨hr.1.trans h.1, hr.2.1.trans h.2.1⟩

theorem head_skip {a fr sz : Int} {l : List UInt8} {i : Nat} {best : List UInt8} {fst : Int} (h : AtHead a fr sz l i best fst) (ho : sz ≤ offI a fr i) (k : Nat) (hk : (k : Int) = 4294967296 - offI a fr i) : AtHead a fr sz l (i + k) best fst := by
  have hlt : offI a fr i < 4294967296 := by unfold offI; omega
  have hr := run_outside a fr sz l i k (fun t ht => by rw [off_more a fr i t (by omega)]; omega)
  exact ⟨hr.1.trans h.1, hr.2.1.trans h.2.1, .inl (hr.2.2 (by omega))⟩

theorem head_run {a fr sz : Int} {l : List UInt8} {i : Nat} {best : List UInt8} {fst : Int} (h : AtHead a fr sz l i best fst) (hi : i < l.length) (hz : sz < 4294967296) (ho : offI a fr i < sz) (n : Nat) (hn : (n : Int) = min (sz - offI a fr i) ((l.length - i : Nat) : Int)) :
    AtHead a fr sz l (i + n) (if best.length < n then (l.drop i).take n else best) (if best.length < n then (a + (i : Int)) % 4294967296 else fst) := by
  have h0 : 0 ≤ offI a fr i := by unfold offI; omega
  have hrow : (tst a fr sz l i).row = [] := by
    rcases h.2.2 with h1 | h1 | h1
    · exact h1
    · exact absurd ho h1
    · omega
  have hr := run_within a fr sz l i hrow n (by omega) (by omega) (fun t ht => by rw [off_more a fr i t (by omega)]; omega)
  rw [h.1] at hr
  refine ⟨?_, ?_, ?_⟩
  · rw [hr]; split <;> simp_all
  · rw [hr]; split
    · rfl
    · exact h.2.1
  · by_cases he : l.length ≤ i + n
    · exact .inr (.inr he)
    · refine .inr (.inl ?_)
      rw [off_more a fr i n (by omega)]
      omega

theorem head_take {a fr sz : Int} {l : List UInt8} {i m n p : Nat} {fst : Int} (h : AtHead a fr sz l i ((l.drop p).take n) fst) (e : m = n) : AtHead a fr sz l i ((l.drop p).take m) fst := e ▸ h

theorem tst_in {a fr sz : Int} {l : List UInt8} {k : Nat} (h : offI a fr k < sz) : tst a fr sz l (k + 1) =
    (if (tst a fr sz l k).best.length < ((tst a fr sz l k).row ++ (l.drop k).take 1).length then ⟨(tst a fr sz l k).row ++ (l.drop k).take 1, (tst a fr sz l k).row ++ (l.drop k).take 1, if (tst a fr sz l k).row = [] then (a + (k : Int)) % 4294967296 else (tst a fr sz l k).beg, if (tst a fr sz l k).row = [] then (a + (k : Int)) % 4294967296 else (tst a fr sz l k).beg⟩
     else ⟨(tst a fr sz l k).row ++ (l.drop k).take 1, (tst a fr sz l k).best, if (tst a fr sz l k).row = [] then (a + (k : Int)) % 4294967296 else (tst a fr sz l k).beg, (tst a fr sz l k).fst⟩) := by
  show tstep a fr sz l k (tst a fr sz l k) = _
  unfold tstep
  rw [if_pos h]
theorem tst_out {a fr sz : Int} {l : List UInt8} {k : Nat} (h : ¬ offI a fr k < sz) : tst a fr sz l (k + 1) = ⟨[], (tst a fr sz l k).best, (tst a fr sz l k).beg, (tst a fr sz l k).fst⟩ := by
  show tstep a fr sz l k (tst a fr sz l k) = _
  unfold tstep
  rw [if_neg h]

end Go.Proofs.Ytolbnadafelkhaa
