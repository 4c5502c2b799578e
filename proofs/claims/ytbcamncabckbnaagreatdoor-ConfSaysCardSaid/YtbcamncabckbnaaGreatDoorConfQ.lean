/-
  The lines of a plan, as the program reads them and as the reference does; no program in sight.
-/
import Derived.Test.YtbcamncabckbnaaGreatDoorConfP
namespace Go.Proofs.YtbcamncabckbnaaGreatDoor
open Go
set_option linter.unusedVariables false
set_option linter.unusedSimpArgs false
abbrev W8 := List UInt8
abbrev wPass : W8 := [112, 97, 115, 115]
abbrev wDrop : W8 := [100, 114, 111, 112]
abbrev wOut : W8 := [111, 117, 116, 115, 105, 100, 101]
abbrev wPorts : W8 := [112, 111, 114, 116, 115]
abbrev wLife : W8 := [108, 105, 102, 101]
abbrev wRate : W8 := [114, 97, 116, 101]
abbrev wElse : W8 := [101, 108, 115, 101]
/-- What is ahead of a byte, what is behind it, and is it there? -/
def cutB (c : UInt8) : W8 → W8 × W8 × Bool
  | [] => ([], [], false)
  | b :: l => if b = c then ([], l, true) else (b :: (cutB c l).1, (cutB c l).2.1, (cutB c l).2.2)
theorem cutB_miss {c : UInt8} : ∀ {l : W8}, Lib.indexByte l c = -1 → cutB c l = (l, [], false)
  | [], _ => rfl
  | b :: l, h => by
    unfold Lib.indexByte at h
    split at h
    · cases h
    · rename_i hb
      have hb' : ¬ b = c := by simpa using hb
      have hge := Lib.indexByte_ge l c
      have hm : Lib.indexByte l c = -1 := by
        split at h
        · rename_i q; simpa using q
        · omega
      unfold cutB
      rw [if_neg hb', cutB_miss hm]
theorem cutB_hit {c : UInt8} : ∀ {l : W8} {i : Nat}, Lib.indexByte l c = (i : Int) → cutB c l = (l.take i, l.drop (i + 1), true) ∧ i < l.length
  | [], i, h => by simp [Lib.indexByte] at h
  | b :: l, i, h => by
    unfold Lib.indexByte at h
    split at h
    · rename_i hb
      have hb' : b = c := by simpa using hb
      obtain rfl : i = 0 := by omega
      unfold cutB
      rw [if_pos hb']
      exact ⟨rfl, Nat.succ_pos _⟩
    · rename_i hb
      have hb' : ¬ b = c := by simpa using hb
      split at h
      · omega
      · rename_i hm
        obtain ⟨k, rfl⟩ : ∃ k, i = k + 1 := ⟨i - 1, by
          have := Lib.indexByte_ge l c
          have : ¬ Lib.indexByte l c = -1 := by simpa using hm
          omega⟩
        have hk : Lib.indexByte l c = (k : Int) := by omega
        obtain ⟨e1, e2⟩ := cutB_hit hk
        unfold cutB
        rw [if_neg hb', e1]
        exact ⟨rfl, by simp [e2]⟩
theorem cutB_spl {c : UInt8} (l : W8) : spl c l = (cutB c l).1 :: (if (cutB c l).2.2 = true then spl c (cutB c l).2.1 else []) := by
  induction l with
  | nil => rfl
  | cons b l ih =>
    by_cases hb : b = c
    · subst hb
      rw [spl_eq, cutB, if_pos rfl]
      rfl
    · rw [spl_cons hb ih, cutB, if_neg hb]
theorem cutB_len {c : UInt8} (l : W8) : (cutB c l).1.length ≤ l.length ∧ (cutB c l).2.1.length ≤ l.length ∧ (l ≠ [] → (cutB c l).2.1.length < l.length) := by
  induction l with
  | nil => exact ⟨Nat.le_refl _, Nat.le_refl _, fun h => absurd rfl h⟩
  | cons b l ih =>
    unfold cutB
    split
    · simp
    · simp only [List.length_cons]
      omega
structure Rl where
  (fa fl ta tl pr fp fq tp tq : Int) (ps : Bool)
deriving DecidableEq
structure Pl where
  (ou lt st lf ra mo : Int) (rs : List Rl) (el : Bool)
/-- The words of a line that are still to be read; was one bad? -/
abbrev WS := List W8 × Bool
def nx (t : WS) : W8 × WS := match t.1 with
  | [] => ([], ([], true))
  | s :: r => (s, (r, t.2))
def vl (s : W8) (t : WS) : Int × WS := (vN s, (t.1, t.2 || !vOk s))
def nu (t : WS) : Int × WS := vl (nx t).1 (nx t).2
def ad (s : W8) (t : WS) : Int × WS := (((parA s).1 : Nat), (t.1, t.2 || decide (¬ (parA s).2 = 0)))
def pa (c : UInt8) (t : WS) : (W8 × W8) × WS := (((cutB c (nx t).1).1, (cutB c (nx t).1).2.1), ((nx t).2.1, (nx t).2.2 || !(cutB c (nx t).1).2.2))
def nt (t : WS) : (Int × Int) × WS := (((ad (pa 47 t).1.1 (pa 47 t).2).1, (vl (pa 47 t).1.2 (ad (pa 47 t).1.1 (pa 47 t).2).2).1), (vl (pa 47 t).1.2 (ad (pa 47 t).1.1 (pa 47 t).2).2).2)
def bo (t : WS) : (Int × Int) × WS := (((vl (pa 45 t).1.1 (pa 45 t).2).1, (vl (pa 45 t).1.2 (vl (pa 45 t).1.1 (pa 45 t).2).2).1), (vl (pa 45 t).1.2 (vl (pa 45 t).1.1 (pa 45 t).2).2).2)
def vd (s : W8) (t : WS) : Bool × WS := (decide (s = wPass), (t.1, t.2 || !(decide (s = wPass) || decide (s = wDrop))))
def ruleL (w0 : W8) (t : WS) : Rl × WS :=
  let v := vd w0 t
  let a := nt v.2
  let b := nt a.2
  let c := nu b.2
  let d := bo c.2
  let e := bo d.2
  (⟨a.1.1, a.1.2, b.1.1, b.1.2, c.1, d.1.1, d.1.2, e.1.1, e.1.2, v.1⟩, e.2)
/-- A line of the program, behind its first word. -/
def lineB (p : Pl) (w0 : W8) (t : WS) : Pl × WS :=
  if w0 = wOut then ({ p with ou := (ad (nx t).1 (nx t).2).1 }, (ad (nx t).1 (nx t).2).2)
  else if w0 = wPorts then ({ p with lt := (nu t).1, st := (nu (nu t).2).1 }, (nu (nu t).2).2)
  else if w0 = wLife then ({ p with lf := (nu t).1 }, (nu t).2)
  else if w0 = wRate then ({ p with ra := (nu t).1, mo := (nu (nu t).2).1 }, (nu (nu t).2).2)
  else if w0 = wElse then ({ p with el := (vd (nx t).1 (nx t).2).1 }, (vd (nx t).1 (nx t).2).2)
  else ({ p with rs := p.rs ++ [(ruleL w0 t).1] }, (ruleL w0 t).2)
def badL (t : WS) : Bool := t.2 || decide (0 < t.1.length)
/-- Which kinds of words stand behind a first one. -/
def shapeR (w0 : W8) : W8 × Bool :=
  if w0 = wOut then ([97], true) else if w0 = wPorts ∨ w0 = wRate then ([110, 110], true) else if w0 = wLife then ([110], true) else if w0 = wElse then ([118], true) else if w0 = wPass ∨ w0 = wDrop then ([116, 116, 110, 98, 98], true) else ([], false)
abbrev NS := List Int × Bool
def rNum (s : W8) (x : NS) : NS := (x.1 ++ [((rlong s).1 : Int)], x.2 && (rlong s).2)
def rAdr (s : W8) (x : NS) : NS := (x.1 ++ [((parA s).1 : Int)], x.2 && decide ((parA s).2 = 0))
def rOne (c : UInt8) (s : W8) (x : NS) : NS :=
  if c = 97 then rAdr s x else if c = 110 then rNum s x else if c = 118 then (x.1, x.2 && (decide (s = wPass) || decide (s = wDrop)))
  else if c = 116 then rNum (cutB 47 s).2.1 (rAdr (cutB 47 s).1 (x.1, x.2 && (cutB 47 s).2.2))
  else if c = 98 then rNum (cutB 45 s).2.1 (rNum (cutB 45 s).1 (x.1, x.2 && (cutB 45 s).2.2)) else x
def rAll : W8 → List W8 → NS → NS
  | c :: cs, s :: ss, x => rAll cs ss (rOne c s x)
  | _, _, x => x
def lineN (w0 : W8) (r : List W8) : NS := if (shapeR w0).2 = true ∧ (shapeR w0).1.length = r.length then rAll (shapeR w0).1 r ([], true) else ([], false)
def at0 (o : List Int) (i : Nat) : Int := (o[i]?).getD 0
/-- The plan behind a line, as the reference has it. -/
def applyN (p : Pl) (w0 : W8) (r : List W8) (o : List Int) : Pl :=
  if w0 = wPass ∨ w0 = wDrop then { p with rs := p.rs ++ [⟨at0 o 0, at0 o 1, at0 o 2, at0 o 3, at0 o 4, at0 o 5, at0 o 6, at0 o 7, at0 o 8, decide (w0 = wPass)⟩] }
  else if w0 = wOut then { p with ou := at0 o 0 }
  else if w0 = wPorts then { p with lt := at0 o 0, st := at0 o 1 }
  else if w0 = wLife then { p with lf := at0 o 0 }
  else if w0 = wRate then { p with ra := at0 o 0, mo := at0 o 1 }
  else { p with el := decide (r.head? = some wPass) }
theorem vf {s : W8} (h : vOk s = true) : ((rlong s).1 : Int) = vN s := ((v_same s).2 (by rw [← (v_same s).1]; exact h)).symm
theorem rl2 (s : W8) : (rlong s).2 = vOk s := (v_same s).1.symm
theorem five {r : List W8} (h : r.length = 5) : ∃ a b c d e, r = [a, b, c, d, e] := by
  match r, h with
  | [a, b, c, d, e], _ => exact ⟨a, b, c, d, e, rfl⟩
/-- Words so many as the line's kind wants, or it is bad. -/
theorem badL_mono {t : WS} (h : t.2 = true) : badL t = true := by simp [badL, h]
theorem nx_b {t : WS} (h : t.2 = true) : (nx t).2.2 = true := by unfold nx; split <;> simp [h]
/-- Reading so many words off a list: what is left, and whether it went bad for want of words. -/
def leftN (n : Nat) (t : WS) : WS := (t.1.drop n, t.2 || decide (t.1.length < n))
theorem nx_left (t : WS) : (nx t).2.1 = t.1.drop 1 ∧ ((nx t).2.2 = (t.2 || decide (t.1.length < 1))) := by
  unfold nx
  split
  · rename_i h; rw [h]; simp
  · rename_i s r h; rw [h]; simp
set_option maxHeartbeats 4000000 in
theorem rule_short (w0 : W8) (r : List W8) (h : ¬ r.length = 5) : badL (ruleL w0 (r, false)).2 = true := by
  match r with
  | [] => simp [badL, ruleL, nt, bo, pa, vl, ad, nu, vd, nx]
  | [_] => simp [badL, ruleL, nt, bo, pa, vl, ad, nu, vd, nx]
  | [_, _] => simp [badL, ruleL, nt, bo, pa, vl, ad, nu, vd, nx]
  | [_, _, _] => simp [badL, ruleL, nt, bo, pa, vl, ad, nu, vd, nx]
  | [_, _, _, _] => simp [badL, ruleL, nt, bo, pa, vl, ad, nu, vd, nx]
  | [_, _, _, _, _] => exact absurd rfl h
  | _ :: _ :: _ :: _ :: _ :: _ :: r => simp [badL, ruleL, nt, bo, pa, vl, ad, nu, vd, nx]
set_option maxHeartbeats 4000000 in
theorem line_same (p : Pl) (w0 : W8) (r : List W8) : (lineN w0 r).2 = !badL (lineB p w0 (r, false)).2 ∧ ((lineN w0 r).2 = true → applyN p w0 r (lineN w0 r).1 = (lineB p w0 (r, false)).1) := by
  by_cases h1 : w0 = wOut
  · subst h1
    have e1 : shapeR wOut = ([97], true) := by decide
    unfold lineN lineB applyN
    rw [e1, if_pos rfl]
    match r with
    | [] => simp [badL, nx, ad]
    | [x] => by_cases q : (parA x).2 = 0 <;> simp [badL, nx, ad, rAll, rOne, rAdr, at0, q]
    | x :: y :: r => simp [badL, nx, ad]
  by_cases h2 : w0 = wPorts
  · subst h2
    have e1 : shapeR wPorts = ([110, 110], true) := by decide
    unfold lineN lineB applyN
    rw [e1, if_neg h1, if_pos rfl]
    match r with
    | [] => simp [badL, nx, nu, vl]
    | [x] => simp [badL, nx, nu, vl]
    | [x, y] =>
      simp [badL, nx, nu, vl, rAll, rOne, rNum, at0, rl2]
      intro a b
      exact ⟨vf a, vf b⟩
    | x :: y :: z :: r => simp [badL, nx, nu, vl]
  by_cases h3 : w0 = wLife
  · subst h3
    have e1 : shapeR wLife = ([110], true) := by decide
    unfold lineN lineB applyN
    rw [e1, if_neg h1, if_neg h2, if_pos rfl]
    match r with
    | [] => simp [badL, nx, nu, vl]
    | [x] =>
      simp [badL, nx, nu, vl, rAll, rOne, rNum, at0, rl2]
      exact vf
    | x :: y :: r => simp [badL, nx, nu, vl]
  by_cases h4 : w0 = wRate
  · subst h4
    have e1 : shapeR wRate = ([110, 110], true) := by decide
    unfold lineN lineB applyN
    rw [e1, if_neg h1, if_neg h2, if_neg h3, if_pos rfl]
    match r with
    | [] => simp [badL, nx, nu, vl]
    | [x] => simp [badL, nx, nu, vl]
    | [x, y] =>
      simp [badL, nx, nu, vl, rAll, rOne, rNum, at0, rl2]
      intro a b
      exact ⟨vf a, vf b⟩
    | x :: y :: z :: r => simp [badL, nx, nu, vl]
  by_cases h5 : w0 = wElse
  · subst h5
    have e1 : shapeR wElse = ([118], true) := by decide
    unfold lineN lineB applyN
    rw [e1, if_neg h1, if_neg h2, if_neg h3, if_neg h4, if_pos rfl]
    match r with
    | [] => simp [badL, nx, vd]
    | [x] => by_cases q1 : x = wPass <;> by_cases q2 : x = wDrop <;> simp [badL, nx, vd, rAll, rOne, at0, q1, q2]
    | x :: y :: r => simp [badL, nx, vd]
  unfold lineN lineB applyN
  rw [if_neg h1, if_neg h2, if_neg h3, if_neg h4, if_neg h5]
  by_cases h6 : w0 = wPass ∨ w0 = wDrop
  · have e1 : shapeR w0 = ([116, 116, 110, 98, 98], true) := by
      rcases h6 with rfl | rfl <;> decide
    have e2 : (!(decide (w0 = wPass) || decide (w0 = wDrop))) = false := by
      rcases h6 with q | q <;> simp [q]
    rw [e1, if_pos h6]
    by_cases h7 : r.length = 5
    · obtain ⟨a, b, c, d, e, rfl⟩ := five h7
      have hb : badL (ruleL w0 ([a, b, c, d, e], false)).2 = !(((((((((cutB 47 a).2.2 && decide ((parA (cutB 47 a).1).2 = 0)) && vOk (cutB 47 a).2.1) && (((cutB 47 b).2.2 && decide ((parA (cutB 47 b).1).2 = 0)) && vOk (cutB 47 b).2.1)) && vOk c) && ((cutB 45 d).2.2 && vOk (cutB 45 d).1)) && vOk (cutB 45 d).2.1) && ((cutB 45 e).2.2 && vOk (cutB 45 e).1)) && vOk (cutB 45 e).2.1) := by
        simp [badL, ruleL, nt, bo, pa, vl, ad, nu, vd, nx, Bool.and_assoc, Bool.or_assoc, e2]
      rw [hb]
      rw [if_pos ⟨rfl, rfl⟩]
      have hr : rAll [116, 116, 110, 98, 98] [a, b, c, d, e] ([], true) = ([((parA (cutB 47 a).1).1 : Int), ((rlong (cutB 47 a).2.1).1 : Int), ((parA (cutB 47 b).1).1 : Int), ((rlong (cutB 47 b).2.1).1 : Int), ((rlong c).1 : Int), ((rlong (cutB 45 d).1).1 : Int), ((rlong (cutB 45 d).2.1).1 : Int), ((rlong (cutB 45 e).1).1 : Int), ((rlong (cutB 45 e).2.1).1 : Int)], ((((((((cutB 47 a).2.2 && decide ((parA (cutB 47 a).1).2 = 0)) && vOk (cutB 47 a).2.1) && (((cutB 47 b).2.2 && decide ((parA (cutB 47 b).1).2 = 0)) && vOk (cutB 47 b).2.1)) && vOk c) && ((cutB 45 d).2.2 && vOk (cutB 45 d).1)) && vOk (cutB 45 d).2.1) && ((cutB 45 e).2.2 && vOk (cutB 45 e).1)) && vOk (cutB 45 e).2.1) := by
        simp [rAll, rOne, rAdr, rNum, rl2, Bool.and_assoc]
      rw [hr]
      refine ⟨by simp, fun hk => ?_⟩
      simp only [Bool.and_eq_true] at hk
      obtain ⟨⟨⟨⟨⟨⟨⟨-, k1⟩, -, k2⟩, k3⟩, -, k4⟩, k5⟩, -, k6⟩, k7⟩ := hk
      simp [at0, vf k1, vf k2, vf k3, vf k4, vf k5, vf k6, vf k7, ruleL, nt, bo, pa, vl, ad, nu, vd, nx]
    · rw [if_neg (fun q => h7 q.2.symm), rule_short w0 r h7]
      simp
  · have e1 : shapeR w0 = ([], false) := by
      unfold shapeR
      rw [if_neg h1, if_neg (by simp [h2, h4]), if_neg h3, if_neg h5, if_neg h6]
    have e2 : badL (ruleL w0 (r, false)).2 = true := by
      apply badL_mono
      have m1 : ∀ (s : W8) (t : WS), t.2 = true → (vl s t).2.2 = true := fun s t h => by simp [vl, h]
      have m2 : ∀ (s : W8) (t : WS), t.2 = true → (ad s t).2.2 = true := fun s t h => by simp [ad, h]
      have m3 : ∀ (c : UInt8) (t : WS), t.2 = true → (pa c t).2.2 = true := fun c t h => by simp [pa, nx_b h]
      have m4 : ∀ (t : WS), t.2 = true → (nt t).2.2 = true := fun t h => m1 _ _ (m2 _ _ (m3 _ _ h))
      have m5 : ∀ (t : WS), t.2 = true → (bo t).2.2 = true := fun t h => m1 _ _ (m1 _ _ (m3 _ _ h))
      have m6 : ∀ (t : WS), t.2 = true → (nu t).2.2 = true := fun t h => m1 _ _ (nx_b h)
      have h0 : (vd w0 (r, false)).2.2 = true := by
        have q1 : ¬ w0 = wPass := fun q => h6 (.inl q)
        have q2 : ¬ w0 = wDrop := fun q => h6 (.inr q)
        simp [vd, q1, q2]
      exact m5 _ (m5 _ (m6 _ (m4 _ (m4 _ h0))))
    rw [e1, e2, if_neg (by simp)]
    simp
end Go.Proofs.YtbcamncabckbnaaGreatDoor
