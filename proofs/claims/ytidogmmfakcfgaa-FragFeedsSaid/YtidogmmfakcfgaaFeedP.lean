/-
  Packets in pieces that come in: pools, parts, what Feed answers: in plain words.
-/
import Derived.Test.YtidogmmfakcfgaaIpZ
namespace Go.Proofs.Ytidogmmfakcfgaa
set_option linter.unusedVariables false
set_option linter.unusedSimpArgs false
abbrev B8 := List UInt8
structure Pt where
  (at' : Int) (data : B8) (last : Bool)
deriving DecidableEq
abbrev Pt.enc (p : Pt) : List DV := [.v (.int .i64 p.at'), .v (.string (mkS p.data)), .v (.bool p.last)]
structure Hp where
  (fr to pr id tos life : Int) (opt : B8) (ps : List Pt)
abbrev dPs (l : List Pt) : DV := .snap 3 (l.map Pt.enc) false
abbrev Hp.cells (h : Hp) (d : DV) : List DV := [.v (.int .u32 h.fr), .v (.int .u32 h.to), .v (.int .i64 h.pr), .v (.int .i64 h.id), .v (.int .i64 h.tos), .v (.int .i64 h.life), .v (.string (mkS h.opt)), d]
abbrev Hp.enc (h : Hp) : List DV := h.cells (dPs h.ps)
abbrev dPool (l : List Hp) : DV := .snap 8 (l.map Hp.enc) false
def Pt.fin (p : Pt) : Int := p.at' + (p.data.length : Nat)
def ptOk (p : Pt) : Bool := decide (p.data ≠ []) && decide (0 ≤ p.at') && decide (p.at' % 8 = 0) && decide (p.at' ≤ 65515) && decide (p.fin ≤ 65515) && (p.last || decide (p.data.length % 8 = 0))
def chR : List Pt → Int → Bool
  | [], _ => true
  | p :: r, a => ptOk p && decide (a ≤ p.at') && (!p.last || r.isEmpty) && chR r p.fin
theorem ptOk_fact {p : Pt} (h : ptOk p = true) : p.data ≠ [] ∧ 0 ≤ p.at' ∧ p.at' % 8 = 0 ∧ p.at' ≤ 65515 ∧ p.fin ≤ 65515 ∧ (p.last = false → p.data.length % 8 = 0) := by
  unfold ptOk at h
  simp only [Bool.and_eq_true, decide_eq_true_eq, Bool.or_eq_true] at h
  exact ⟨h.1.1.1.1.1, h.1.1.1.1.2, h.1.1.1.2, h.1.1.2, h.1.2, fun q => by rw [q] at h; simpa using h.2⟩
theorem chR_cons {p : Pt} {r : List Pt} {a : Int} (h : chR (p :: r) a = true) : ptOk p = true ∧ a ≤ p.at' ∧ (p.last = true → r = []) ∧ chR r p.fin = true := by
  simp only [chR, Bool.and_eq_true, decide_eq_true_eq, Bool.or_eq_true] at h
  exact ⟨h.1.1.1, h.1.1.2, fun q => by rw [q] at h; simpa using h.1.2, h.2⟩
theorem chR_mk {p : Pt} {r : List Pt} {a : Int} (h1 : ptOk p = true) (h2 : a ≤ p.at') (h3 : p.last = true → r = []) (h4 : chR r p.fin = true) : chR (p :: r) a = true := by
  simp only [chR, Bool.and_eq_true, decide_eq_true_eq, Bool.or_eq_true]
  refine ⟨⟨⟨h1, h2⟩, ?_⟩, h4⟩
  cases hl : p.last with
  | false => exact .inl rfl
  | true => rw [h3 hl]; exact .inr rfl
theorem fin_gt {p : Pt} (h : ptOk p = true) : p.at' < p.fin := by
  have := (ptOk_fact h).1
  have : 0 < p.data.length := List.length_pos_iff.2 this
  unfold Pt.fin
  omega
theorem chR_ge : ∀ {l : List Pt} {a : Int}, chR l a = true → ∀ p ∈ l, a ≤ p.at' ∧ ptOk p = true
  | [], _, _, p, hp => by simp at hp
  | q :: r, a, h, p, hp => by
    obtain ⟨h1, h2, -, h4⟩ := chR_cons h
    rcases List.mem_cons.1 hp with rfl | hp
    · exact ⟨h2, h1⟩
    · have h5 := chR_ge h4 p hp
      have := fin_gt h1
      exact ⟨by omega, h5.2⟩
def clash (n o : Pt) : Bool := (decide (n.at' < o.fin) && decide (o.at' < n.fin)) || (o.last && decide (o.at' < n.at')) || (n.last && decide (n.at' < o.at'))
def scan (n : Pt) : List Pt → Nat → Nat → Option Bool × Nat
  | [], _, a => (none, a)
  | o :: r, i, a => if o = n then (some true, a) else if clash n o = true then (some false, a) else scan n r (i + 1) (if o.at' < n.at' then i + 1 else a)
def lows (n : Pt) : List Pt → Nat
  | [] => 0
  | o :: r => if o.at' < n.at' then lows n r + 1 else 0
def insP (n : Pt) (l : List Pt) : List Pt := l.take (lows n l) ++ n :: l.drop (lows n l)
def scanR (n : Pt) (l : List Pt) : Option Bool := if n ∈ l then some true else if l.any (clash n) = true then some false else none
theorem lows_zero (n : Pt) {l : List Pt} {a : Int} (h : chR l a = true) (ha : n.at' ≤ a) : lows n l = 0 := by
  cases l with
  | nil => rfl
  | cons o r =>
    have := (chR_cons h).2.1
    simp only [lows]
    rw [if_neg (by omega)]
theorem scan_eq (n : Pt) : ∀ (l : List Pt) (a0 : Int) (i a : Nat), chR l a0 = true → (scan n l i a).1 = scanR n l ∧ (scanR n l = none → (scan n l i a).2 = if lows n l = 0 then a else i + lows n l)
  | [], a0, i, a, h => ⟨rfl, fun _ => rfl⟩
  | o :: r, a0, i, a, h => by
    obtain ⟨h1, h2, h3, h4⟩ := chR_cons h
    have hg := fin_gt h1
    unfold scan
    by_cases e : o = n
    · subst e
      rw [if_pos rfl]
      simp [scanR]
    · rw [if_neg e]
      by_cases hc : clash n o = true
      · rw [if_pos hc]
        have hn : ¬ n ∈ o :: r := fun q => by
          rcases List.mem_cons.1 q with q | q
          · exact e q.symm
          · have h5 := (chR_ge h4 n q).1
            unfold clash at hc
            simp only [Bool.or_eq_true, Bool.and_eq_true, decide_eq_true_eq] at hc
            rcases hc with (hc | hc) | hc
            · omega
            · rw [h3 hc.1] at q
              simp at q
            · omega
        have : (o :: r).any (clash n) = true := by simp [hc]
        simp [scanR, hn, this]
      · rw [if_neg hc]
        obtain ⟨k1, k2⟩ := scan_eq n r o.fin (i + 1) (if o.at' < n.at' then i + 1 else a) h4
        have hs : scanR n (o :: r) = scanR n r := by
          unfold scanR
          have e1 : n ∈ o :: r ↔ n ∈ r := by
            rw [List.mem_cons]
            exact ⟨fun q => q.resolve_left (fun q => e q.symm), .inr⟩
          have e2 : (o :: r).any (clash n) = r.any (clash n) := by simp [hc]
          rw [e2]
          by_cases hm : n ∈ r
          · rw [if_pos hm, if_pos (e1.2 hm)]
          · rw [if_neg hm, if_neg (fun q => hm (e1.1 q))]
        rw [hs]
        refine ⟨k1, fun hnone => ?_⟩
        rw [k2 hnone]
        by_cases hlt : o.at' < n.at'
        · have e3 : lows n (o :: r) = lows n r + 1 := by simp [lows, hlt]
          rw [if_pos hlt, e3, if_neg (Nat.succ_ne_zero _)]
          by_cases hz : lows n r = 0
          · rw [if_pos hz, hz]
          · rw [if_neg hz]; omega
        · have e3 : lows n (o :: r) = 0 := by simp [lows, hlt]
          rw [if_neg hlt, e3, lows_zero n h4 (by omega)]
          rfl
theorem scan0 (n : Pt) (l : List Pt) (h : chR l 0 = true) (hn : scanR n l = none) : scan n l 0 0 = (none, lows n l) := by
  obtain ⟨h1, h2⟩ := scan_eq n l 0 0 0 h
  have h3 := h2 hn
  apply Prod.ext
  · rw [h1, hn]
  · rw [h3]
    by_cases hz : lows n l = 0
    · rw [if_pos hz, hz]
    · rw [if_neg hz, Nat.zero_add]
theorem chR_ins (n : Pt) (hn : ptOk n = true) : ∀ (l : List Pt) (a : Int), chR l a = true → scanR n l = none → a ≤ n.at' → chR (insP n l) a = true
  | [], a, _, _, ha => chR_mk hn ha (fun _ => rfl) rfl
  | o :: r, a, h, hs, ha => by
    obtain ⟨h1, h2, h3, h4⟩ := chR_cons h
    have hg := fin_gt h1
    have hgn := fin_gt hn
    have hno : ¬ n ∈ o :: r := fun q => by simp [scanR, q] at hs
    have hcl : ¬ (o :: r).any (clash n) = true := fun q => by
      unfold scanR at hs
      rw [if_neg hno, if_pos q] at hs
      cases hs
    have hc : clash n o = false := by
      cases hq : clash n o with
      | false => rfl
      | true => exact absurd (by simp [hq]) hcl
    have hsr : scanR n r = none := by
      unfold scanR
      rw [if_neg (fun q => hno (List.mem_cons_of_mem _ q)), if_neg (fun q => hcl (by simp only [List.any_cons, q, Bool.or_true]))]
    unfold clash at hc
    simp only [Bool.or_eq_false_iff, Bool.and_eq_false_iff, decide_eq_false_iff_not] at hc
    obtain ⟨⟨c1, c2⟩, c3⟩ := hc
    unfold insP
    simp only [lows]
    by_cases hlt : o.at' < n.at'
    · rw [if_pos hlt]
      have hfin : o.fin ≤ n.at' := by
        rcases c1 with c1 | c1
        · omega
        · omega
      have ih := chR_ins n hn r o.fin h4 hsr hfin
      have hl : o.last = false := by
        rcases c2 with c2 | c2
        · exact c2
        · exact absurd hlt c2
      exact chR_mk h1 h2 (fun q => by rw [hl] at q; cases q) ih
    · rw [if_neg hlt]
      have hneq : o.at' ≠ n.at' := fun q => by
        rcases c1 with c1 | c1
        · omega
        · omega
      have hnl : n.last = false := by
        rcases c3 with c3 | c3
        · exact c3
        · omega
      have hfin : n.fin ≤ o.at' := by
        rcases c1 with c1 | c1
        · omega
        · omega
      exact chR_mk hn ha (fun q => by rw [hnl] at q; cases q) (chR_mk h1 hfin h3 h4)
def cont : List Pt → B8 → Option B8
  | [], acc => some acc
  | p :: r, acc => if p.at' = (acc.length : Nat) then cont r (acc ++ p.data) else none
def accR : List Pt → B8 → B8
  | [], acc => acc
  | p :: r, acc => accR r (if p.at' = (acc.length : Nat) then acc ++ p.data else acc)
def lastP : List Pt → Pt
  | [] => ⟨0, [], false⟩
  | [p] => p
  | _ :: q :: r => lastP (q :: r)
theorem accR_stay : ∀ (l : List Pt) (a : Int) (acc : B8), chR l a = true → (acc.length : Int) < a → accR l acc = acc
  | [], _, _, _, _ => rfl
  | p :: r, a, acc, h, ha => by
    obtain ⟨h1, h2, h3, h4⟩ := chR_cons h
    have := fin_gt h1
    simp only [accR]
    rw [if_neg (by omega)]
    exact accR_stay r p.fin acc h4 (by omega)
theorem last_fin : ∀ (l : List Pt) (a : Int), chR l a = true → l ≠ [] → a < (lastP l).fin
  | [], _, _, h => absurd rfl h
  | [p], a, h, _ => by
    obtain ⟨h1, h2, h3, h4⟩ := chR_cons h
    have := fin_gt h1
    simp only [lastP]
    omega
  | p :: q :: r, a, h, _ => by
    obtain ⟨h1, h2, h3, h4⟩ := chR_cons h
    have := fin_gt h1
    have := last_fin (q :: r) p.fin h4 (by simp)
    simp only [lastP]
    omega
theorem cont_acc : ∀ (l : List Pt) (a : Int) (acc : B8), chR l a = true → (acc.length : Int) ≤ a → l ≠ [] →
    (∀ d, cont l acc = some d → accR l acc = d ∧ (d.length : Int) = (lastP l).fin) ∧ (cont l acc = none → ((accR l acc).length : Int) < (lastP l).fin)
  | [], _, _, _, _, h => absurd rfl h
  | [p], a, acc, h, ha, _ => by
    obtain ⟨h1, h2, h3, h4⟩ := chR_cons h
    have := fin_gt h1
    simp only [cont, accR, lastP]
    by_cases e : p.at' = (acc.length : Nat)
    · rw [if_pos e, if_pos e]
      refine ⟨fun d hd => ⟨Option.some.inj hd, ?_⟩, fun q => by cases q⟩
      rw [← Option.some.inj hd, List.length_append]
      unfold Pt.fin
      omega
    · rw [if_neg e, if_neg e]
      exact ⟨fun d hd => by (cases hd), fun _ => by omega⟩
  | p :: q :: r, a, acc, h, ha, _ => by
    obtain ⟨h1, h2, h3, h4⟩ := chR_cons h
    have := fin_gt h1
    have hl : lastP (p :: q :: r) = lastP (q :: r) := rfl
    rw [hl]
    unfold cont accR
    by_cases e : p.at' = (acc.length : Nat)
    · rw [if_pos e, if_pos e]
      exact cont_acc (q :: r) p.fin (acc ++ p.data) h4 (by rw [List.length_append]; unfold Pt.fin; omega) (by simp)
    · rw [if_neg e, if_neg e]
      refine ⟨fun d hd => by (cases hd), fun _ => ?_⟩
      rw [accR_stay (q :: r) p.fin acc h4 (by omega)]
      have := last_fin (q :: r) p.fin h4 (by simp)
      omega
theorem insP_perm (n : Pt) (l : List Pt) : (insP n l).Perm (l ++ [n]) := by
  unfold insP
  have h1 : (l.take (lows n l) ++ n :: l.drop (lows n l)).Perm (n :: (l.take (lows n l) ++ l.drop (lows n l))) := List.perm_middle
  rw [List.take_append_drop] at h1
  exact h1.trans (List.perm_append_comm (l₁ := [n]) (l₂ := l))
theorem chR_sorted : ∀ (l : List Pt) (a : Int), chR l a = true → l.Pairwise (fun x y => x.at' < y.at')
  | [], _, _ => List.Pairwise.nil
  | p :: r, a, h => by
    obtain ⟨h1, h2, h3, h4⟩ := chR_cons h
    have := fin_gt h1
    exact List.Pairwise.cons (fun q hq => by have := (chR_ge h4 q hq).1; omega) (chR_sorted r p.fin h4)
theorem insP_len (n : Pt) (l : List Pt) : (insP n l).length = l.length + 1 := by
  have := (insP_perm n l).length_eq
  simpa using this
theorem insP_ne (n : Pt) (l : List Pt) : insP n l ≠ [] := fun h => by
  have := insP_len n l
  rw [h] at this
  simp at this
theorem lows_le (n : Pt) : ∀ l : List Pt, lows n l ≤ l.length
  | [] => Nat.le_refl _
  | o :: r => by
    have := lows_le n r
    simp only [lows, List.length_cons]
    split <;> omega
theorem sorted_ins (n : Pt) (l d : List Pt) (a : Int) (h : chR (insP n l) a = true) (hp : d.Perm (l ++ [n])) (hs : d.Pairwise (fun x y => ¬ y.at' < x.at')) : d = insP n l := by
  have hst := chR_sorted _ _ h
  refine List.Perm.eq_of_pairwise (le := fun x y => ¬ y.at' < x.at') (fun x y hx hy h1 h2 => ?_) hs (hst.imp (fun q => by omega)) (hp.trans (insP_perm n l).symm)
  have hx' : x ∈ insP n l := (hp.trans (insP_perm n l).symm).mem_iff.1 hx
  obtain ⟨i, hi, rfl⟩ := List.mem_iff_getElem.1 hx'
  obtain ⟨j, hj, rfl⟩ := List.mem_iff_getElem.1 hy
  rw [List.pairwise_iff_getElem] at hst
  rcases Nat.lt_trichotomy i j with q | q | q
  · have := hst i j hi hj q
    omega
  · subst q
    rfl
  · have := hst j i hj hi q
    omega
def chF : Option Pt → List Pt → Bool
  | _, [] => true
  | q, p :: r => ptOk p && (match q with | none => true | some q => !q.last && decide (q.fin ≤ p.at')) && chF (some p) r
theorem chF_some : ∀ (l : List Pt) (q : Pt), chF (some q) l = ((!q.last || l.isEmpty) && chR l q.fin)
  | [], q => by simp [chF, chR]
  | p :: r, q => by
    simp only [chF, chR, chF_some r p, List.isEmpty_cons, Bool.or_false]
    cases ptOk p <;> cases q.last <;> cases decide (q.fin ≤ p.at') <;> cases p.last <;> cases r.isEmpty <;> cases chR r p.fin <;> rfl
theorem chF_none (l : List Pt) : chF none l = chR l 0 := by
  cases l with
  | nil => rfl
  | cons p r =>
    simp only [chF, chR, chF_some r p, Bool.and_true]
    cases h : ptOk p with
    | false => rfl
    | true =>
      have := (ptOk_fact h).2.1
      simp [this]
def headOk (h : Hp) : Bool := match h.ps with
  | [] => false
  | p :: _ => decide (p.at' = 0) || (decide (h.tos = 0) && decide (h.life = 0) && decide (h.opt = []))
def hpOk (h : Hp) : Bool := chR h.ps 0 && headOk h
def sameK (a b : Hp) : Bool := decide (a.fr = b.fr) && decide (a.to = b.to) && decide (a.pr = b.pr) && decide (a.id = b.id)
def poolOk (pre : List Hp) (h : Hp) : Bool := hpOk h && !pre.any (fun o => sameK o h)
def bigB (l : List Hp) : Bool := l.any (fun h => decide (64 < h.ps.length))
def poolErr (l : List Hp) : Int := if 16 < l.length then 2 else if bigB l = true then 2 else if goodG poolOk [] l = true then 0 else 4
theorem poolErr_ok {l : List Hp} (h : poolErr l = 0) : l.length ≤ 16 ∧ (∀ x ∈ l, x.ps.length ≤ 64) ∧ goodG poolOk [] l = true := by
  unfold poolErr at h
  split at h
  · cases h
  · split at h
    · cases h
    · rename_i h1 h3
      split at h
      · rename_i h2
        refine ⟨by omega, fun x hx => ?_, h2⟩
        unfold bigB at h3
        simp only [List.any_eq_true, decide_eq_true_eq, not_exists, not_and] at h3
        have := h3 x hx
        omega
      · cases h
theorem poolErr_get {l : List Hp} (h : poolErr l = 0) {i : Nat} {x : Hp} (hi : l[i]? = some x) : chR x.ps 0 = true ∧ headOk x = true := by
  have := goodG_at (poolErr_ok h).2.2 hi
  unfold poolOk hpOk at this
  simp only [Bool.and_eq_true] at this
  exact this.1
def keyH (p : Pk) : Hp := ⟨p.fr, p.to, p.proto, p.id, 0, 0, [], []⟩
def newPt (p : Pk) : Pt := ⟨8 * p.start, p.data, !p.mo⟩
def putH (h : Hp) (p : Pk) : Hp := if p.start = 0 then { h with ps := insP (newPt p) h.ps, tos := p.tos, life := p.life, opt := p.opt } else { h with ps := insP (newPt p) h.ps }
def outP (h : Hp) (d : B8) : Pk := ⟨h.tos, h.id, false, false, 0, h.life, h.pr, h.fr, h.to, h.opt, d⟩
def doneB (l : List Pt) : Option B8 := match cont l [] with
  | some d => if (lastP l).last = true then some d else none
  | none => none
abbrev FdR := List Hp × Pk × Bool × Int
abbrev dFd (r : FdR) : DV := .tup [dPool r.1, dP r.2.1, .v (.bool r.2.2.1), .v (.int .i64 r.2.2.2)]
def cutL (l : List Hp) (i : Nat) : List Hp := l.take i ++ l.drop (i + 1)
theorem newPt_ok {p : Pk} (h1 : 0 ≤ p.start) (h4 : ¬ 65515 < 8 * p.start + (p.data.length : Nat)) (h5 : p.data ≠ []) (h6 : ¬ (p.mo = true ∧ p.data.length % 8 ≠ 0)) : ptOk (newPt p) = true := by
  unfold ptOk newPt Pt.fin
  simp only [Bool.and_eq_true, decide_eq_true_eq, Bool.or_eq_true]
  refine ⟨⟨⟨⟨⟨h5, by omega⟩, by omega⟩, by omega⟩, by omega⟩, ?_⟩
  cases hm : p.mo with
  | false => exact .inl rfl
  | true => exact .inr (by rw [hm] at h6; simpa using h6)
end Go.Proofs.Ytidogmmfakcfgaa
