/-
  A turn of the wheel: new names for what is lent, places, calls.
-/
import Derived.Test.YtecnjhmpipfldaaWheelT
namespace Go.Proofs.Ytecnjhmpipfldaa
set_option linter.unusedVariables false
set_option linter.unusedSimpArgs false
/-- A cell that speaks of a row by a new name. -/
def cellN (g : Nat) (f : Nat → Nat) (c : Nat) (d e : DV) : Prop := e = d ∨ ∃ j k k' sz lo len full, j < c ∧ d = .sl k (f j) sz lo len full ∧ e = .sl k' (g + j) sz lo len full
/-- An object under a new name, or that speaks of such. -/
def objN (g : Nat) (f : Nat → Nat) (c : Nat) (o p : AObj) : Prop := p = o ∨ ((p.n = o.n ∨ ∃ j, j < c ∧ p.n = g + j ∧ o.n = f j) ∧ 0 < o.sz ∧ p.sz = o.sz ∧ p.xs.length = o.xs.length ∧
  ∀ (i : Nat) (y : List DV), p.xs[i]? = some y → ∃ x, o.xs[i]? = some x ∧ y.length = x.length ∧ ∀ (t : Nat) (e : DV), y[t]? = some e → ∃ d, x[t]? = some d ∧ cellN g f c d e)
theorem le_names {st : St} {H' : HL} (f : Nat → Nat) (c : Nat) (h : ∀ k p, lget H' k = some p → ∃ o, lget st.H k = some o ∧ objN st.gen f c o p) : Le st ⟨st.tm, H', st.gen + c⟩ := by
  intro Γ N K a w hR
  have hI := hR.inv
  have hlt := hR.fresh
  let K' : Kr := ⟨fun n => K.dom n ∨ (st.gen ≤ n ∧ n < st.gen + c), fun n => K.real n ∨ (st.gen ≤ n ∧ n < st.gen + c ∧ K.real (f (n - st.gen))), fun n => if st.gen ≤ n ∧ n < st.gen + c then K.μ (f (n - st.gen)) else K.μ n, K.M⟩
  have hμ : ∀ n, K.dom n → K'.μ n = K.μ n := fun n hn => if_neg (by have := hlt n hn; omega)
  have hre : ∀ n, K.dom n → K'.real n → K.real n := fun n hn hr => by
    rcases hr with hr | ⟨h1, h2, -⟩
    · exact hr
    · have := hlt n hn
      omega
  have hμj : ∀ j, j < c → K'.μ (st.gen + j) = K.μ (f j) := fun j hj => by
    have : K'.μ (st.gen + j) = K.μ (f (st.gen + j - st.gen)) := if_pos (by omega)
    rw [this, Nat.add_sub_cancel_left]
  have hrj : ∀ j, j < c → (K'.real (st.gen + j) ↔ K.real (f j)) := fun j hj => by
    constructor
    · rintro (hr | ⟨-, -, hr⟩)
      · have := hlt _ (hI.dr _ hr)
        omega
      · rwa [Nat.add_sub_cancel_left] at hr
    · intro hr
      exact .inr ⟨by omega, by omega, by rwa [Nat.add_sub_cancel_left]⟩
  have hm : Mono K w K' w := ⟨Ext.refl _ _, fun n hn => ⟨.inl hn, hμ n (hI.dr n hn)⟩, fun g _ hg => hg⟩
  have hA : ∀ k p, lget H' k = some p → ∃ o, lget st.H k = some o ∧ (K'.real p.n ↔ K.real o.n) ∧ K'.μ p.n = K.μ o.n ∧ K'.dom p.n := fun k p hp => by
    obtain ⟨o, ho, hn⟩ := h k p hp
    refine ⟨o, ho, ?_⟩
    have hd := hI.dobj k o ho
    have hsame : p.n = o.n → (K'.real p.n ↔ K.real o.n) ∧ K'.μ p.n = K.μ o.n ∧ K'.dom p.n := fun e => by
      rw [e]
      exact ⟨⟨hre _ hd, .inl⟩, hμ _ hd, .inl hd⟩
    rcases hn with rfl | ⟨e | ⟨j, hj, e1, e2⟩, -⟩
    · exact hsame rfl
    · exact hsame e
    · rw [e1, e2]
      exact ⟨hrj j hj, hμj j hj, .inr ⟨by omega, by omega⟩⟩
  refine ⟨K', ⟨⟨hI.ext, ⟨fun n hn => ?_, fun n hn h0 => ?_, fun n hn => ?_, hI.base.M⟩, fun k p hp => ?_, fun k k' p p' h1 h2 r1 r2 e => ?_, fun n hn => ?_, fun n hn => ?_, fun k p hp => ?_, fun k p hp hr => ?_, hI.gl⟩, fun n hn => ?_, Nat.le_trans hR.g0 (Nat.le_add_right _ _), hR.size, hR.defers, fun s => (hR.tm s).mono hm⟩⟩
  · rcases hn with hn | hn
    · exact hI.base.dom n hn
    · exact .inr (Nat.le_trans hR.g0 hn.1)
  · rcases hn with hn | hn
    · exact hI.base.old n hn h0
    · have := hR.g0
      omega
  · have := hI.base.keep n hn
    exact ⟨.inl this.1, (hμ n (hI.dr n this.1)).trans this.2⟩
  · obtain ⟨o, ho, hn⟩ := h k p hp
    obtain ⟨o', ho', hr1, hm1, -⟩ := hA k p hp
    obtain rfl : o' = o := Option.some.inj (ho'.symm.trans ho)
    have hO := hI.obj k o' ho
    rcases hn with rfl | ⟨-, hz, hsz, hln, hrow⟩
    · exact hO.mono hm (fun q q2 => q (hr1.1 q2)) (fun _ => rfl)
    · rcases hO with ⟨q1, q2⟩ | ⟨q1, cs, t, fr, q2, q3, q4, q5, q6⟩ | ⟨-, q, -⟩
      · refine .inl ⟨fun q => q1 (hr1.1 q), List.length_eq_zero_iff.1 ?_⟩
        rw [hln, q2]
        rfl
      · refine .inr (.inl ⟨hr1.2 q1, cs, t, fr, by rw [hsz]; exact q2, by rw [hm1]; exact q3, by rw [hln, hsz]; exact q4, fun y hy => ?_, fun i y t' e hy he => ?_⟩)
        · obtain ⟨i, hi⟩ := List.mem_iff_getElem?.1 hy
          obtain ⟨x, hx, hl, -⟩ := hrow i y hi
          rw [hl, hsz]
          exact q5 x (List.mem_of_getElem? hx)
        · obtain ⟨x, hx, -, hc⟩ := hrow i y hy
          obtain ⟨d, hd, hcell⟩ := hc t' e he
          obtain ⟨v, hv, hvr⟩ := q6 i x t' d hx hd
          refine ⟨v, by rw [hsz]; exact hv, ?_⟩
          rcases hcell with rfl | ⟨j, k1, k2, sz, lo, len, full, hj, rfl, rfl⟩
          · exact hvr.mono hm
          · cases hvr with
            | sl hlc hf hh =>
              refine .sl hlc hf ?_
              rcases hh with hh | ⟨a1, a2, cs', t', fr', a3, a4⟩
              · exact .inl hh
              · exact .inr ⟨(hrj j hj).2 a1, by rw [hμj j hj]; exact a2, cs', t', fr', by rw [hμj j hj]; exact a3, a4⟩
      · omega
  · obtain ⟨o, ho, q1, q2, -⟩ := hA k p h1
    obtain ⟨o', ho', z1, z2, -⟩ := hA k' p' h2
    exact hI.inj k k' o o' ho ho' (q1.1 r1) (z1.1 r2) (q2.symm.trans (e.trans z2))
  · rcases hn with hn | hn
    · exact .inl (hI.dr n hn)
    · exact .inr ⟨hn.1, hn.2.1⟩
  · rcases hn with hn | ⟨h1, h2, h3⟩
    · rw [hμ n (hI.dr n hn)]
      exact hI.lt n hn
    · have : K'.μ n = K.μ (f (n - st.gen)) := if_pos ⟨h1, h2⟩
      rw [this]
      exact hI.lt _ h3
  · obtain ⟨o, ho, -, -, q⟩ := hA k p hp
    exact q
  · obtain ⟨o, ho, q1, q2, -⟩ := hA k p hp
    rw [q2]
    exact hI.own k o ho (q1.1 hr)
  · rcases hn with hn | hn
    · have := hlt n hn
      show n < st.gen + c
      omega
    · exact hn.2
/-- All rows of a wheel under new names. -/
theorem le_wnames (tm : Env) (n g : Nat) (c : DV) (lb nm : Nat → Nat) (L : WL) (h96 : L.length = 96) (a1 a2 a3 a4 a5 : Option AObj) : Le ⟨tm, some ⟨n, 97, [c :: rowc lb nm 0 L]⟩ :: a1 :: a2 :: a3 :: a4 :: a5 :: rowh nm 0 L, g⟩
    ⟨tm, some ⟨n, 97, [c :: rowc lb (fun j => g + j) 0 L]⟩ :: a1 :: a2 :: a3 :: a4 :: a5 :: rowh (fun j => g + j) 0 L, g + 96⟩ := by
  refine le_names (st := ⟨tm, some ⟨n, 97, [c :: rowc lb nm 0 L]⟩ :: a1 :: a2 :: a3 :: a4 :: a5 :: rowh nm 0 L, g⟩) nm 96 (fun k p hp => ?_)
  match k, hp with
  | 0, hp =>
    refine ⟨_, rfl, .inr ?_⟩
    obtain rfl := Option.some.inj hp
    refine ⟨.inl rfl, by show 0 < 97; omega, rfl, rfl, fun i y hy => ?_⟩
    match i, hy with
    | 0, hy =>
      obtain rfl := Option.some.inj hy
      refine ⟨_, rfl, by simp [rowc_len], fun t e he => ?_⟩
      match t, he with
      | 0, he => exact ⟨c, rfl, .inl (Option.some.inj he).symm⟩
      | t + 1, he =>
        have ht : t < L.length := by
          have := (List.getElem?_eq_some_iff.1 he).1
          simpa [rowc_len] using this
        obtain ⟨l, hl⟩ : ∃ l, L[t]? = some l := ⟨_, List.getElem?_eq_getElem ht⟩
        have g1 := rowc_get (lb := lb) (nm := nm) L 0 t l hl
        have g2 := rowc_get (lb := lb) (nm := fun j => g + j) L 0 t l hl
        rw [Nat.zero_add] at g1 g2
        simp at he
        rw [he] at g2
        exact ⟨_, by simpa using g1, .inr ⟨t, _, _, _, _, _, _, by omega, rfl, Option.some.inj g2⟩⟩
    | i + 1, hy => simp at hy
  | 1, hp => exact ⟨p, hp, .inl rfl⟩
  | 2, hp => exact ⟨p, hp, .inl rfl⟩
  | 3, hp => exact ⟨p, hp, .inl rfl⟩
  | 4, hp => exact ⟨p, hp, .inl rfl⟩
  | 5, hp => exact ⟨p, hp, .inl rfl⟩
  | k + 6, hp =>
    have hp : lget (rowh (fun j => g + j) 0 L) k = some p := hp
    have hk : k < L.length := by
      have : ∀ (T : HL) (k : Nat) (o : AObj), lget T k = some o → k < T.length := fun T => by
        induction T with
        | nil => intro k o h; cases h
        | cons a r ih =>
          intro k o h
          cases k with
          | zero => simp
          | succ k => have := ih k o h; simp; omega
      have := this _ _ _ hp
      rwa [rowh_len] at this
    obtain ⟨l, hl⟩ : ∃ l, L[k]? = some l := ⟨_, List.getElem?_eq_getElem hk⟩
    have g1 := rowh_get (nm := nm) L 0 k l hl
    have g2 := rowh_get (nm := fun j => g + j) L 0 k l hl
    rw [Nat.zero_add] at g1 g2
    rw [hp] at g2
    obtain rfl := Option.some.inj g2
    exact ⟨_, g1, .inr ⟨.inr ⟨k, by omega, rfl, rfl⟩, by show 0 < 2; omega, rfl, rfl, fun i y hy => ⟨y, hy, rfl, fun t e he => ⟨e, he, .inl rfl⟩⟩⟩⟩
/-! Places: a wheel that is lent, six places ahead of its rows. -/
theorem le_shift6 (tm : Env) (b : Option AObj) (T : HL) (g : Nat) : Le ⟨tm, b :: T, g⟩ ⟨tm, b :: none :: none :: none :: none :: none :: T, g⟩ :=
  le_re (fun k => if k = 0 then 0 else k - 5) (fun k o h => by
    match k, h with
    | 0, h => exact h
    | 1, h | 2, h | 3, h | 4, h | 5, h => cases h
    | k + 6, h => exact h) (fun k k' o o' h1 h2 e => by
    have hk : ∀ k o, lget (b :: none :: none :: none :: none :: none :: T) k = some o → k = 0 ∨ 6 ≤ k := fun k o h => by
      match k, h with
      | 0, h => exact .inl rfl
      | 1, h | 2, h | 3, h | 4, h | 5, h => cases h
      | k + 6, h => exact .inr (by omega)
    have a1 := hk k o h1
    have a2 := hk k' o' h2
    split at e <;> split at e <;> omega)
theorem le_take6 {tm : Env} {g : Nat} {b a1 a2 a3 a4 : Option AObj} {T : HL} (i : Nat) {o : AObj} (h : lget T i = some o) : Le ⟨tm, b :: a1 :: a2 :: a3 :: a4 :: none :: T, g⟩ ⟨tm, b :: a1 :: a2 :: a3 :: a4 :: some o :: lset T i none, g⟩ :=
  le_place (st := ⟨tm, b :: a1 :: a2 :: a3 :: a4 :: none :: T, g⟩) (i + 6) 5 h (fun _ => rfl)
theorem le_give6 {tm : Env} {g : Nat} {b a1 a2 a3 a5 : Option AObj} {T : HL} (i : Nat) {o : AObj} (h : lget T i = none) : Le ⟨tm, b :: a1 :: a2 :: a3 :: some o :: a5 :: T, g⟩ ⟨tm, b :: none :: none :: a3 :: none :: a5 :: lset T i (some o), g⟩ :=
  (le_place (st := ⟨tm, b :: a1 :: a2 :: a3 :: some o :: a5 :: T, g⟩) 4 (i + 6) rfl (fun _ => h)).trans (le_hs (hs_cons (.inl rfl) (hs_cons (.inr rfl) (hs_cons (.inr rfl) (hs_refl _)))) (Nat.le_refl _))
/-- A call to which a wheel is lent, and that hands back one row more. -/
theorem runR_lend6 {P : Program} {F : List XOp → St → List Rec → Prop} {r : List XOp} {tm : Env} {b a1 a2 a3 a5 : Option AObj} {T : HL} {g : Nat} {dst : Option Sl} {tr : List Rec} {f : FuncId} {ds : List DV} {D : Nat → DV} {B N : Nat → Option AObj} {T1 : Nat → HL} (hT : T.length = 96)
    (h1 : MSpec P f ds (b :: T) 1 (fun n d H => d = D n ∧ H = B n :: (T1 n ++ [N n]))) (hl : (T1 g).length = 96)
    (h2 : F r ⟨putE tm dst (D g), B g :: a1 :: a2 :: a3 :: N g :: a5 :: T1 g, g + 1⟩ (⟨(0 :: List.range' 6 96) ++ [4], (0 :: List.range' 6 96) ++ [4]⟩ :: tr)) : runR P F r ⟨tm, b :: a1 :: a2 :: a3 :: none :: a5 :: T, g⟩ dst tr (.call f ds) := by
  refine .inr (.inr ⟨0 :: List.range' 6 96, [4], ds, 1, D, fun n => B n :: (T1 n ++ [N n]), fun _ _ _ h => h, by decide +kernel, by simp [hl], ?_, ?_⟩)
  · have e : lgets (b :: a1 :: a2 :: a3 :: none :: a5 :: T) (0 :: List.range' 6 96) = b :: T := by
      have h := lgets_tail [b, a1, a2, a3, none, a5] T
      rw [hT] at h
      show b :: lgets _ _ = _
      exact congrArg (b :: ·) h
    show MSpec P f ds (lgets (b :: a1 :: a2 :: a3 :: none :: a5 :: T) (0 :: List.range' 6 96)) 1 _
    rw [e]
    exact h1
  · have e : updL (b :: a1 :: a2 :: a3 :: none :: a5 :: T) (zipO ((0 :: List.range' 6 96) ++ [4]) (B g :: (T1 g ++ [N g]))) = B g :: a1 :: a2 :: a3 :: N g :: a5 :: T1 g := by
      have h := upd_over (T1 g) T [B g, a1, a2, a3, none, a5] (by rw [hT, hl])
      rw [hl] at h
      show updL (B g :: a1 :: a2 :: a3 :: none :: a5 :: T) (zipO (List.range' 6 96 ++ [4]) (T1 g ++ [N g])) = _
      rw [zipO_app _ _ _ _ (by rw [hl]; simp), updL_app]
      have h' : updL (B g :: a1 :: a2 :: a3 :: none :: a5 :: T) (zipO (List.range' 6 96) (T1 g)) = B g :: a1 :: a2 :: a3 :: none :: a5 :: T1 g := h
      rw [h']
      rfl
    show F r ⟨putE tm dst (D g), updL (b :: a1 :: a2 :: a3 :: none :: a5 :: T) (zipO ((0 :: List.range' 6 96) ++ [4]) (B g :: (T1 g ++ [N g]))), g + 1⟩ _
    rw [e]
    exact h2
theorem lgets_lend6 {b a1 a2 a3 a4 a5 : Option AObj} {T : HL} (hT : T.length = 96) : lgets (b :: a1 :: a2 :: a3 :: a4 :: a5 :: T) (0 :: List.range' 6 96 ++ [3]) = b :: (T ++ [a3]) := by
  have h := lgets_tail [b, a1, a2, a3, a4, a5] T
  rw [hT] at h
  rw [lgets_map] at h ⊢
  rw [List.cons_append, List.map_cons, List.map_append]
  exact congrArg (fun q => b :: (q ++ [a3])) h
/-! What a turn does. -/
/-- Behind all of its list. -/
def putL (τ : Int) (L : WL) (d : Du) : WL := L.set (listOf τ d.t).toNat ((L[(listOf τ d.t).toNat]?).getD [] ++ [d])
def stepL (τ : Int) (s : WL × List Du) (d : Du) : WL × List Du := if d.t = τ then (s.1, s.2 ++ [d]) else (putL τ s.1 d, s.2)
def lev (τ k : Nat) (s : WL × List Du) : WL × List Du := if τ % 16 ^ k ≠ 0 then s else ((s.1[16 * k + τ / 16 ^ k % 16]?).getD []).foldl (stepL τ) (s.1.set (16 * k + τ / 16 ^ k % 16) [], s.2)
def levs (τ : Nat) : Nat → WL × List Du → WL × List Du
  | 0, s => s
  | k + 1, s => levs τ k (lev τ k s)
/-- Nothing is too early, or too much. -/
def OkL (τ : Int) (B : Nat) (s : WL × List Du) : Prop := s.1.length = 96 ∧ (∀ l ∈ s.1, l.length ≤ B ∧ ∀ d ∈ l, τ ≤ d.t ∧ d.t ≤ 16777215) ∧ s.2.length ≤ B
theorem okl_out {τ : Int} {B : Nat} {L : WL} {out : List Du} (h : OkL τ B (L, out)) (d : Du) : OkL τ (B + 1) (L, out ++ [d]) :=
  ⟨h.1, fun l hl => ⟨Nat.le_succ_of_le (h.2.1 l hl).1, (h.2.1 l hl).2⟩, by have := h.2.2; simp at this ⊢; omega⟩
theorem okl_put {τ : Int} {B : Nat} {L : WL} {out : List Du} (h : OkL τ B (L, out)) {d : Du} (hd : τ ≤ d.t ∧ d.t ≤ 16777215) {i : Nat} {l : List Du} (hl : L[i]? = some l) : OkL τ (B + 1) (L.set i (l ++ [d]), out) := by
  refine ⟨by rw [List.length_set]; exact h.1, fun x hx => ?_, Nat.le_succ_of_le h.2.2⟩
  rcases List.mem_or_eq_of_mem_set hx with hx | rfl
  · exact ⟨Nat.le_succ_of_le (h.2.1 x hx).1, (h.2.1 x hx).2⟩
  · have hq := h.2.1 l (List.mem_of_getElem? hl)
    refine ⟨by have := hq.1; simp; omega, fun y hy => ?_⟩
    rcases List.mem_append.1 hy with hy | hy
    · exact hq.2 y hy
    · simp at hy
      rw [hy]
      exact hd
theorem okl_nil {τ : Int} {B : Nat} {L : WL} {out : List Du} (h : OkL τ B (L, out)) (i : Nat) : OkL τ B (L.set i [], out) := by
  refine ⟨by rw [List.length_set]; exact h.1, fun x hx => ?_, h.2.2⟩
  rcases List.mem_or_eq_of_mem_set hx with hx | rfl
  · exact h.2.1 x hx
  · exact ⟨Nat.zero_le _, fun d hd => by simp at hd⟩
theorem okl_mono {τ : Int} {B B' : Nat} {s : WL × List Du} (h : OkL τ B s) (hB : B ≤ B') : OkL τ B' s :=
  ⟨h.1, fun l hl => ⟨Nat.le_trans (h.2.1 l hl).1 hB, (h.2.1 l hl).2⟩, Nat.le_trans h.2.2 hB⟩
/-! Numbers of a turn. -/
theorem and_low (n k : Nat) (hk : k < 6) : bits .and .i64 (n : Int) ((16 ^ k - 1 : Nat) : Int) = ((n % 16 ^ k : Nat) : Int) := by
  have hp : (16 : Nat) ^ k ≤ 16 ^ 5 := Nat.pow_le_pow_right (by omega) (by omega)
  have hp0 : 0 < 16 ^ k := Nat.pow_pos (by decide)
  have h16 : (16 : Nat) ^ k = 2 ^ (4 * k) := by rw [show (16 : Nat) = 2 ^ 4 from rfl, ← Nat.pow_mul]
  have e : BitVec.ofInt 64 ((16 ^ k - 1 : Nat) : Int) = BitVec.ofNat 64 (16 ^ k - 1) := by simp
  show IntKind.i64.wrap ((BitVec.ofInt 64 (n : Int) &&& BitVec.ofInt 64 ((16 ^ k - 1 : Nat) : Int)).toNat : Int) = _
  have h5 : (16 : Nat) ^ 5 = 1048576 := rfl
  rw [e, BitVec.toNat_and, BitVec.toNat_ofNat, Nat.mod_eq_of_lt (a := 16 ^ k - 1) (by omega), h16, Nat.and_two_pow_sub_one_eq_mod, BitVec.toNat_ofInt, ← h16]
  have hlt := Nat.mod_lt n hp0
  have h2 : ((n : Int) % ((2 ^ 64 : Nat) : Int)).toNat = n % 2 ^ 64 := by omega
  have h3 : n % 2 ^ 64 % 16 ^ k = n % 16 ^ k := by
    refine Nat.mod_mod_of_dvd n ?_
    rw [h16]
    exact Nat.pow_dvd_pow 2 (by omega)
  rw [h2, h3, IntWalk.i64_in _ (by omega)]
theorem shl_one (k : Nat) (hk : k < 6) : IntKind.i64.wrap (1 * 2 ^ min (4 * (k : Nat) : Int).toNat IntKind.i64.bits) = ((16 ^ k : Nat) : Int) := by
  have e1 : min (4 * (k : Nat) : Int).toNat IntKind.i64.bits = 4 * k := by
    have : IntKind.i64.bits = 64 := rfl
    omega
  have e2 : (2 : Int) ^ (4 * k) = ((16 ^ k : Nat) : Int) := by
    rw [show (16 : Nat) = 2 ^ 4 from rfl, ← Nat.pow_mul]
    simp
  have hp : (16 : Nat) ^ k ≤ 16 ^ 5 := Nat.pow_le_pow_right (by omega) (by omega)
  have h5 : (16 : Nat) ^ 5 = 1048576 := rfl
  rw [e1, e2, Int.one_mul]
  clear e1 e2
  generalize (16 : Nat) ^ k = p at *
  rw [IntWalk.i64_in _ (by omega)]
theorem shr_dig (m k : Nat) (hk : k < 6) : ((m : Nat) : Int).fdiv (2 ^ min (4 * (k : Nat) : Int).toNat IntKind.i64.bits) = ((m / 16 ^ k : Nat) : Int) := by
  have e1 : min (4 * (k : Nat) : Int).toNat IntKind.i64.bits = 4 * k := by
    have : IntKind.i64.bits = 64 := rfl
    omega
  have hpp : 0 < 16 ^ k := Nat.pow_pos (by decide)
  have e2 : (2 : Int) ^ (4 * k) = ((16 ^ k : Nat) : Int) := by
    rw [show (16 : Nat) = 2 ^ 4 from rfl, ← Nat.pow_mul]
    simp
  rw [e1, e2, Int.fdiv_eq_ediv_of_nonneg _ (by omega)]
  rfl
end Go.Proofs.Ytecnjhmpipfldaa
