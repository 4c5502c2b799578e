/-
  One address for many, plain: taking the maps' ports out of the ports that are taken, one by one, leaves none just where the maps' ports are those that are taken.
-/
import Derived.Test.YtegnfpmbmbbaiaaDoorGen
namespace Go.Proofs.YtegnfpmbmbbaiaaDoor
set_option linter.unusedVariables false
set_option linter.unusedSimpArgs false
structure Mp where
  (pr ad po ou tm : Int)
abbrev Mp.enc (t : Mp) : List DV := [.v (.int .i64 t.pr), .v (.int .u32 t.ad), .v (.int .i64 t.po), .v (.int .i64 t.ou), .v (.int .i64 t.tm)]
def sameE (a b : Mp) : Bool := decide (a.pr = b.pr ∧ a.ad = b.ad ∧ a.po = b.po)
def tkd (b : Int) (t : Nat) (o : Int) : Bool := decide (b ≤ o ∧ o ≤ b + 63) && t.testBit (o - b).toNat
def clr (b : Int) (t : Nat) (o : Int) : Nat := t ^^^ 2 ^ (o - b).toNat
theorem tkd_in {b : Int} {t : Nat} {o : Int} (h : tkd b t o = true) : b ≤ o ∧ o ≤ b + 63 ∧ t.testBit (o - b).toNat = true := by
  unfold tkd at h
  rw [Bool.and_eq_true, decide_eq_true_eq] at h
  exact ⟨h.1.1, h.1.2, h.2⟩
theorem clr_tkd {b : Int} {t : Nat} {o : Int} (h : tkd b t o = true) (x : Int) : tkd b (clr b t o) x = (tkd b t x && decide (x ≠ o)) := by
  obtain ⟨h1, h2, h3⟩ := tkd_in h
  unfold tkd clr
  by_cases hx : b ≤ x ∧ x ≤ b + 63
  · by_cases e : x = o
    · subst e
      rw [Nat.testBit_xor, Nat.testBit_two_pow, h3]
      simp
    · have hne : ¬ (o - b).toNat = (x - b).toNat := by omega
      rw [Nat.testBit_xor, Nat.testBit_two_pow]
      simp [hne, e]
  · simp [hx]
theorem clr_lt {b : Int} {t : Nat} {o : Int} (h : tkd b t o = true) (ht : t < 18446744073709551616) : clr b t o < 18446744073709551616 := by
  obtain ⟨h1, h2, h3⟩ := tkd_in h
  have h4 : (2 : Nat) ^ (o - b).toNat < 2 ^ 64 := Nat.pow_lt_pow_right (by omega) (by omega)
  exact Nat.xor_lt_two_pow (n := 64) ht h4
theorem zero_tkd {b : Int} {t : Nat} (ht : t < 18446744073709551616) : t = 0 ↔ ∀ o, tkd b t o = false := by
  constructor
  · rintro rfl o
    simp [tkd]
  · intro h
    refine Nat.eq_of_testBit_eq (fun i => ?_)
    rw [Nat.zero_testBit]
    by_cases hi : i < 64
    · have := h (b + i)
      unfold tkd at this
      rw [show decide (b ≤ b + (i : Int) ∧ b + (i : Int) ≤ b + 63) = true by simp; omega, Bool.true_and, show (b + (i : Int) - b).toNat = i by omega] at this
      exact this
    · exact Nat.testBit_lt_two_pow (Nat.lt_of_lt_of_le ht (Nat.pow_le_pow_right (n := 2) (by omega) (by omega : 64 ≤ i)))

/-! As the program goes. -/
def okE (pre : List Mp) (at' : Int) (m : Mp) : Bool := decide (m.pr = 17 ∨ m.pr = 6) && decide (0 ≤ m.po ∧ m.po ≤ 65535) && decide (at' ≤ m.tm ∧ m.tm ≤ 1099511627776) && pre.all (fun y => !sameE y m)
def tk2 (b1 b2 : Int) (t1 t2 : Nat) (m : Mp) : Bool := if m.pr = 17 then tkd b1 t1 m.ou else tkd b2 t2 m.ou
def n1 (b1 : Int) (t1 : Nat) (m : Mp) : Nat := if m.pr = 17 then clr b1 t1 m.ou else t1
def n2 (b2 : Int) (t2 : Nat) (m : Mp) : Nat := if m.pr = 17 then t2 else clr b2 t2 m.ou
def natRun (b1 b2 : Int) : List Mp → List Mp → Nat → Nat → Int → Bool
  | _, [], t1, t2, _ => decide (t1 = 0 ∧ t2 = 0)
  | pre, m :: r, t1, t2, a => okE pre a m && tk2 b1 b2 t1 t2 m && natRun b1 b2 (pre ++ [m]) r (n1 b1 t1 m) (n2 b2 t2 m) m.tm

/-! As the document says. -/
def clash (o m : Mp) : Bool := decide (m.tm < o.tm ∨ o.pr = m.pr ∧ (o.ou = m.ou ∨ o.ad = m.ad ∧ o.po = m.po))
def refE (pre : List Mp) (m : Mp) : Bool := decide (m.pr = 17 ∨ m.pr = 6) && decide (0 ≤ m.po ∧ m.po ≤ 65535) && decide (0 ≤ m.tm ∧ m.tm ≤ 1099511627776) && pre.all (fun o => !clash o m)
def takenL (b : Int) (t : Nat) : List Int := ((List.range 64).filter (fun k => t.testBit k)).map (fun (k : Nat) => b + (k : Int))
def hasM (pr : Int) (ms : List Mp) (p : Int) : Bool := ms.any (fun m => decide (m.pr = pr ∧ m.ou = p))
def refFin (b1 b2 : Int) (t1 t2 : Nat) (ms : List Mp) : Bool := decide (ms.length = (takenL b1 t1).length + (takenL b2 t2).length) && ((takenL b1 t1).all (hasM 17 ms) && (takenL b2 t2).all (hasM 6 ms))

/-! They agree. -/
def tkB (b1 b2 : Int) (t1 t2 : Nat) (k : Int × Int) : Prop := (k.1 = 17 ∧ tkd b1 t1 k.2 = true) ∨ (k.1 = 6 ∧ tkd b2 t2 k.2 = true)
def keyE (m : Mp) : Int × Int := (m.pr, m.ou)
def seqE : List Mp → List Mp → Int → Prop
  | _, [], _ => True
  | pre, m :: r, a => okE pre a m = true ∧ seqE (pre ++ [m]) r m.tm
theorem run_iff (b1 b2 : Int) : ∀ (r pre : List Mp) (t1 t2 : Nat) (a : Int), t1 < 18446744073709551616 → t2 < 18446744073709551616 →
    (natRun b1 b2 pre r t1 t2 a = true ↔ seqE pre r a ∧ (r.map keyE).Nodup ∧ ∀ k, tkB b1 b2 t1 t2 k ↔ k ∈ r.map keyE)
  | [], pre, t1, t2, a, h1, h2 => by
    simp only [natRun, decide_eq_true_eq, seqE, List.map_nil, List.nodup_nil, true_and, List.not_mem_nil, iff_false, zero_tkd (b := b1) h1, zero_tkd (b := b2) h2]
    constructor
    · rintro ⟨p, q⟩ k (⟨_, h⟩ | ⟨_, h⟩)
      · rw [p] at h; cases h
      · rw [q] at h; cases h
    · intro h
      refine ⟨fun o => ?_, fun o => ?_⟩
      · cases e : tkd b1 t1 o with
        | false => rfl
        | true => exact (h (17, o) (.inl ⟨rfl, e⟩)).elim
      · cases e : tkd b2 t2 o with
        | false => rfl
        | true => exact (h (6, o) (.inr ⟨rfl, e⟩)).elim
  | m :: r, pre, t1, t2, a, h1, h2 => by
    have key : (m.pr = 17 ∨ m.pr = 6) → tk2 b1 b2 t1 t2 m = true → (n1 b1 t1 m < 18446744073709551616 ∧ n2 b2 t2 m < 18446744073709551616) ∧ (tkB b1 b2 t1 t2 (keyE m)) ∧ ∀ k, tkB b1 b2 (n1 b1 t1 m) (n2 b2 t2 m) k ↔ tkB b1 b2 t1 t2 k ∧ k ≠ keyE m := by
      intro hp ht
      by_cases e : m.pr = 17
      · simp only [tk2, n1, n2, if_pos e] at ht ⊢
        refine ⟨⟨clr_lt ht h1, h2⟩, .inl ⟨e, ht⟩, fun k => ?_⟩
        unfold tkB
        rw [clr_tkd ht]
        obtain ⟨k1, k2⟩ := k
        simp only [keyE, ne_eq, Prod.mk.injEq, Bool.and_eq_true, decide_eq_true_eq, e]
        constructor
        · rintro (⟨q1, q2, q3⟩ | ⟨q1, q2⟩)
          · exact ⟨.inl ⟨q1, q2⟩, fun q => q3 q.2⟩
          · exact ⟨.inr ⟨q1, q2⟩, fun q => by omega⟩
        · rintro ⟨⟨q1, q2⟩ | ⟨q1, q2⟩, q3⟩
          · exact .inl ⟨q1, q2, fun q => q3 ⟨q1, q⟩⟩
          · exact .inr ⟨q1, q2⟩
      · simp only [tk2, n1, n2, if_neg e] at ht ⊢
        have e6 : m.pr = 6 := hp.resolve_left e
        refine ⟨⟨h1, clr_lt ht h2⟩, .inr ⟨e6, ht⟩, fun k => ?_⟩
        unfold tkB
        rw [clr_tkd ht]
        obtain ⟨k1, k2⟩ := k
        simp only [keyE, ne_eq, Prod.mk.injEq, Bool.and_eq_true, decide_eq_true_eq, e6]
        constructor
        · rintro (⟨q1, q2⟩ | ⟨q1, q2, q3⟩)
          · exact ⟨.inl ⟨q1, q2⟩, fun q => by omega⟩
          · exact ⟨.inr ⟨q1, q2⟩, fun q => q3 q.2⟩
        · rintro ⟨⟨q1, q2⟩ | ⟨q1, q2⟩, q3⟩
          · exact .inl ⟨q1, q2⟩
          · exact .inr ⟨q1, q2, fun q => q3 ⟨q1, q⟩⟩
    simp only [natRun, seqE, Bool.and_eq_true, List.map_cons, List.nodup_cons, List.mem_cons]
    constructor
    · rintro ⟨⟨q1, q2⟩, q3⟩
      have hp : m.pr = 17 ∨ m.pr = 6 := by
        simp only [okE, Bool.and_eq_true, decide_eq_true_eq] at q1
        exact q1.1.1.1
      obtain ⟨⟨l1, l2⟩, k1, k2⟩ := key hp q2
      obtain ⟨s1, s2, s3⟩ := (run_iff b1 b2 r _ _ _ _ l1 l2).1 q3
      refine ⟨⟨q1, s1⟩, ⟨fun h => ((k2 _).1 ((s3 _).2 h)).2 rfl, s2⟩, fun k => ⟨fun h => ?_, fun h => ?_⟩⟩
      · by_cases e : k = keyE m
        · exact .inl e
        · exact .inr ((s3 k).1 ((k2 k).2 ⟨h, e⟩))
      · rcases h with rfl | h
        · exact k1
        · exact ((k2 k).1 ((s3 k).2 h)).1
    · rintro ⟨⟨q1, q2⟩, ⟨q3, q4⟩, q5⟩
      have hp : m.pr = 17 ∨ m.pr = 6 := by
        simp only [okE, Bool.and_eq_true, decide_eq_true_eq] at q1
        exact q1.1.1.1
      have ht : tk2 b1 b2 t1 t2 m = true := by
        unfold tk2
        rcases (q5 (keyE m)).2 (.inl rfl) with ⟨e, h⟩ | ⟨e, h⟩
        · have e' : m.pr = 17 := e
          rw [if_pos e']; exact h
        · have e' : m.pr = 6 := e
          rw [if_neg (by omega)]; exact h
      obtain ⟨⟨l1, l2⟩, k1, k2⟩ := key hp ht
      refine ⟨⟨q1, ht⟩, (run_iff b1 b2 r _ _ _ _ l1 l2).2 ⟨q2, q4, fun k => ?_⟩⟩
      rw [k2, q5]
      constructor
      · rintro ⟨h | h, hne⟩
        · exact (hne h).elim
        · exact h
      · intro h
        exact ⟨.inr h, fun e => q3 (e ▸ h)⟩
/-- A row without a thing twice, that lies within another no longer one, is all of it. -/
theorem pig {α : Type} [DecidableEq α] : ∀ (S L : List α), S.Nodup → (∀ x ∈ S, x ∈ L) → L.length ≤ S.length → ∀ x ∈ L, x ∈ S
  | [], L, _, _, hl, x, hx => by
    have : L = [] := List.eq_nil_of_length_eq_zero (by simpa using hl)
    subst this
    cases hx
  | a :: S, L, hn, hs, hl, x, hx => by
    rw [List.nodup_cons] at hn
    have ha : a ∈ L := hs a (by simp)
    by_cases e : x = a
    · simp [e]
    · refine List.mem_cons_of_mem _ (pig S (L.erase a) hn.2 (fun y hy => ?_) (by rw [List.length_erase_of_mem ha]; simp at hl; omega) x ((List.mem_erase_of_ne e).2 hx))
      exact (List.mem_erase_of_ne (fun (q : y = a) => hn.1 (q ▸ hy))).2 (hs y (by simp [hy]))
theorem pig_le {α : Type} [DecidableEq α] : ∀ (S L : List α), S.Nodup → (∀ x ∈ S, x ∈ L) → S.length ≤ L.length
  | [], L, _, _ => Nat.zero_le _
  | a :: S, L, hn, hs => by
    rw [List.nodup_cons] at hn
    have ha : a ∈ L := hs a (by simp)
    have := pig_le S (L.erase a) hn.2 (fun y hy => (List.mem_erase_of_ne (fun (q : y = a) => hn.1 (q ▸ hy))).2 (hs y (by simp [hy])))
    rw [List.length_erase_of_mem ha] at this
    have := List.length_pos_of_mem ha
    simp
    omega
theorem mem_takenL {b : Int} {t : Nat} {o : Int} : o ∈ takenL b t ↔ tkd b t o = true := by
  unfold takenL tkd
  simp only [List.mem_map, List.mem_filter, List.mem_range, Bool.and_eq_true, decide_eq_true_eq]
  constructor
  · rintro ⟨k, ⟨h1, h2⟩, rfl⟩
    refine ⟨by omega, ?_⟩
    rw [show (b + (k : Int) - b).toNat = k by omega]
    exact h2
  · rintro ⟨h1, h2⟩
    exact ⟨(o - b).toNat, ⟨by omega, h2⟩, by omega⟩
theorem nodup_map_inj {α β : Type} {f : α → β} (hf : ∀ a b, f a = f b → a = b) : ∀ {l : List α}, l.Nodup → (l.map f).Nodup
  | [], _ => List.nodup_nil
  | a :: l, h => by
    rw [List.nodup_cons] at h
    rw [List.map_cons, List.nodup_cons]
    refine ⟨fun hm => ?_, nodup_map_inj hf h.2⟩
    obtain ⟨x, hx, e⟩ := List.mem_map.1 hm
    exact h.1 (hf _ _ e ▸ hx)
theorem nodup_takenL (b : Int) (t : Nat) : (takenL b t).Nodup := by
  unfold takenL
  exact nodup_map_inj (fun x y h => by omega) (List.Pairwise.filter _ List.nodup_range)
def bothL (b1 b2 : Int) (t1 t2 : Nat) : List (Int × Int) := (takenL b1 t1).map (fun o => (17, o)) ++ (takenL b2 t2).map (fun o => (6, o))
theorem mem_bothL {b1 b2 : Int} {t1 t2 : Nat} {k : Int × Int} : k ∈ bothL b1 b2 t1 t2 ↔ tkB b1 b2 t1 t2 k := by
  obtain ⟨p, o⟩ := k
  unfold bothL tkB
  simp only [List.mem_append, List.mem_map, Prod.mk.injEq, mem_takenL]
  constructor
  · rintro (⟨x, h, rfl, rfl⟩ | ⟨x, h, rfl, rfl⟩)
    · exact .inl ⟨rfl, h⟩
    · exact .inr ⟨rfl, h⟩
  · rintro (⟨rfl, h⟩ | ⟨rfl, h⟩)
    · exact .inl ⟨o, h, rfl, rfl⟩
    · exact .inr ⟨o, h, rfl, rfl⟩
theorem nodup_bothL (b1 b2 : Int) (t1 t2 : Nat) : (bothL b1 b2 t1 t2).Nodup := by
  unfold bothL
  rw [List.nodup_append]
  refine ⟨nodup_map_inj (fun x y h => by simpa using h) (nodup_takenL _ _), nodup_map_inj (fun x y h => by simpa using h) (nodup_takenL _ _), ?_⟩
  intro a ha b hb e
  obtain ⟨x, _, rfl⟩ := List.mem_map.1 ha
  obtain ⟨y, _, rfl⟩ := List.mem_map.1 hb
  simp at e
theorem mem_keys {pr p : Int} {ms : List Mp} : (pr, p) ∈ ms.map keyE ↔ hasM pr ms p = true := by
  unfold hasM
  rw [List.any_eq_true]
  simp only [List.mem_map, keyE, Prod.mk.injEq, decide_eq_true_eq]
theorem fin_iff {b1 b2 : Int} {t1 t2 : Nat} {ms : List Mp} (hn : (ms.map keyE).Nodup) : refFin b1 b2 t1 t2 ms = true ↔ ∀ k, tkB b1 b2 t1 t2 k ↔ k ∈ ms.map keyE := by
  have hlen : (bothL b1 b2 t1 t2).length = (takenL b1 t1).length + (takenL b2 t2).length := by simp [bothL]
  unfold refFin
  simp only [Bool.and_eq_true, decide_eq_true_eq, List.all_eq_true]
  constructor
  · rintro ⟨h1, h2, h3⟩ k
    have hsub : ∀ x ∈ bothL b1 b2 t1 t2, x ∈ ms.map keyE := by
      intro x hx
      rcases mem_bothL.1 hx with ⟨e, h⟩ | ⟨e, h⟩
      · have := mem_keys.2 (h2 x.2 (mem_takenL.2 h))
        rw [← e] at this
        exact this
      · have := mem_keys.2 (h3 x.2 (mem_takenL.2 h))
        rw [← e] at this
        exact this
    rw [← mem_bothL]
    exact ⟨hsub k, fun h => pig _ _ (nodup_bothL _ _ _ _) hsub (by rw [hlen, List.length_map]; omega) k h⟩
  · intro h
    have a1 := pig_le _ _ (nodup_bothL b1 b2 t1 t2) (fun x hx => (h x).1 (mem_bothL.1 hx))
    have a2 := pig_le _ _ hn (fun x hx => mem_bothL.2 ((h x).2 hx))
    rw [hlen, List.length_map] at a1
    rw [hlen, List.length_map] at a2
    refine ⟨by omega, fun p hp => mem_keys.1 ((h (17, p)).1 (.inl ⟨rfl, mem_takenL.1 hp⟩)), fun p hp => mem_keys.1 ((h (6, p)).1 (.inr ⟨rfl, mem_takenL.1 hp⟩))⟩
/-- The latest so far: what the program carries along. -/
def latest (pre : List Mp) (a : Int) : Prop := 0 ≤ a ∧ (a = 0 ∨ ∃ o ∈ pre, o.tm = a) ∧ ∀ o ∈ pre, o.tm ≤ a
theorem latest_next {pre : List Mp} {a : Int} {m : Mp} (h : latest pre a) (hm : a ≤ m.tm) : latest (pre ++ [m]) m.tm := by
  obtain ⟨h0, h1, h2⟩ := h
  refine ⟨by omega, .inr ⟨m, by simp, rfl⟩, fun o ho => ?_⟩
  rcases List.mem_append.1 ho with ho | ho
  · have := h2 o ho; omega
  · obtain rfl := List.mem_singleton.1 ho
    exact Int.le_refl _
theorem refE_iff {pre : List Mp} {a : Int} {m : Mp} (h : latest pre a) : refE pre m = true ↔ okE pre a m = true ∧ keyE m ∉ pre.map keyE := by
  obtain ⟨h0, h1, h2⟩ := h
  unfold refE okE
  simp only [Bool.and_eq_true, decide_eq_true_eq, List.all_eq_true, Bool.not_eq_true', clash, sameE, decide_eq_false_iff_not]
  constructor
  · rintro ⟨⟨⟨q1, q2⟩, q3⟩, q4⟩
    refine ⟨⟨⟨⟨q1, q2⟩, ?_, q3.2⟩, fun y hy => ?_⟩, fun hk => ?_⟩
    · rcases h1 with rfl | ⟨o, ho, rfl⟩
      · exact q3.1
      · have := q4 o ho; omega
    · have := q4 y hy
      rintro ⟨e1, e2, e3⟩
      exact this (.inr ⟨e1, .inr ⟨e2, e3⟩⟩)
    · obtain ⟨o, ho, e⟩ := List.mem_map.1 hk
      simp only [keyE, Prod.mk.injEq] at e
      exact q4 o ho (.inr ⟨e.1, .inl e.2⟩)
  · rintro ⟨⟨⟨⟨q1, q2⟩, q3⟩, q4⟩, q5⟩
    refine ⟨⟨⟨q1, q2⟩, by omega, q3.2⟩, fun o ho => ?_⟩
    have := h2 o ho
    rintro (e | ⟨e1, e2 | ⟨e2, e3⟩⟩)
    · omega
    · exact q5 (List.mem_map.2 ⟨o, ho, by simp [keyE, e1, e2]⟩)
    · exact q4 o ho ⟨e1, e2, e3⟩
theorem seq_iff : ∀ (r pre : List Mp) (a : Int), latest pre a → (goodG refE pre r = true ↔ seqE pre r a ∧ (r.map keyE).Nodup ∧ ∀ m ∈ r, keyE m ∉ pre.map keyE)
  | [], pre, a, h => by simp [goodG, seqE]
  | m :: r, pre, a, h => by
    simp only [goodG, Bool.and_eq_true, seqE, List.map_cons, List.nodup_cons, refE_iff h]
    constructor
    · rintro ⟨⟨q1, q2⟩, q3⟩
      have hm : a ≤ m.tm := by
        simp only [okE, Bool.and_eq_true, decide_eq_true_eq] at q1
        exact q1.1.2.1
      obtain ⟨s1, s2, s3⟩ := (seq_iff r (pre ++ [m]) m.tm (latest_next h hm)).1 q3
      refine ⟨⟨q1, s1⟩, ⟨fun hk => ?_, s2⟩, fun y hy => ?_⟩
      · obtain ⟨y, hy, e⟩ := List.mem_map.1 hk
        exact s3 y hy (List.mem_map.2 ⟨m, by simp, e.symm⟩)
      · rcases List.mem_cons.1 hy with rfl | hy
        · exact q2
        · intro hk
          refine s3 y hy ?_
          rw [List.map_append]
          exact List.mem_append.2 (.inl hk)
    · rintro ⟨⟨q1, q2⟩, ⟨q3, q4⟩, q5⟩
      have hm : a ≤ m.tm := by
        simp only [okE, Bool.and_eq_true, decide_eq_true_eq] at q1
        exact q1.1.2.1
      refine ⟨⟨q1, q5 m (by simp)⟩, (seq_iff r (pre ++ [m]) m.tm (latest_next h hm)).2 ⟨q2, q4, fun y hy hk => ?_⟩⟩
      rw [List.map_append] at hk
      rcases List.mem_append.1 hk with hk | hk
      · exact q5 y (by simp [hy]) hk
      · simp only [List.map_cons, List.map_nil, List.mem_singleton] at hk
        exact q3 (List.mem_map.2 ⟨y, hy, hk⟩)
theorem nat_agree (b1 b2 : Int) (t1 t2 : Nat) (ms : List Mp) (h1 : t1 < 18446744073709551616) (h2 : t2 < 18446744073709551616) : (goodG refE [] ms && refFin b1 b2 t1 t2 ms) = natRun b1 b2 [] ms t1 t2 0 := by
  have hl : latest [] 0 := ⟨Int.le_refl _, .inl rfl, fun o ho => by cases ho⟩
  rw [Bool.eq_iff_iff, run_iff b1 b2 ms [] t1 t2 0 h1 h2, Bool.and_eq_true, seq_iff ms [] 0 hl]
  constructor
  · rintro ⟨⟨q1, q2, _⟩, q3⟩
    exact ⟨q1, q2, (fin_iff q2).1 q3⟩
  · rintro ⟨q1, q2, q3⟩
    exact ⟨⟨q1, q2, fun m _ h => by simp at h⟩, (fin_iff q2).2 q3⟩
end Go.Proofs.YtegnfpmbmbbaiaaDoor
