/-
  A symbolic walk over any program: deep values, the objects that a call owns, operations in short form; a region of operations in the order of its text or in whatever order is drawn; control, loops, calls; a function's contract out of its walk.
-/
import Derived.WalkKit
import Derived.ProofKit
import Derived.Orders
import Derived.Laws.Cells
import Derived.Laws.Entries
import Derived.Laws.CopyRow
import Derived.Deep.LoopGhost
import Derived.Laws.StructEq
import Derived.ChangeKeysEq
import Derived.Laws.Append
namespace Go.Proofs.Ytkpechddgjbfkaa
set_option linter.unusedVariables false
set_option linter.unusedSimpArgs false
/-!  A symbolic walk over any program, part 1: deep values (what is known of a value), the slots as a tree, objects that the call owns, and the relation to the model's values and worlds. -/

/-! Slots: a tree of radix eight. -/
inductive D8 | d0 | d1 | d2 | d3 | d4 | d5 | d6 | d7
deriving DecidableEq
def D8.nat : D8 → Nat | .d0 => 0 | .d1 => 1 | .d2 => 2 | .d3 => 3 | .d4 => 4 | .d5 => 5 | .d6 => 6 | .d7 => 7
inductive N8 (α : Type) where
  | nil
  | mk (a b c d e f g h : α)
def N8.get {α} (z : α) : N8 α → D8 → α
  | .nil, _ => z
  | .mk a _ _ _ _ _ _ _, .d0 => a
  | .mk _ b _ _ _ _ _ _, .d1 => b
  | .mk _ _ c _ _ _ _ _, .d2 => c
  | .mk _ _ _ d _ _ _ _, .d3 => d
  | .mk _ _ _ _ e _ _ _, .d4 => e
  | .mk _ _ _ _ _ f _ _, .d5 => f
  | .mk _ _ _ _ _ _ g _, .d6 => g
  | .mk _ _ _ _ _ _ _ h, .d7 => h
def N8.set {α} (z : α) : N8 α → D8 → α → N8 α
  | .nil, .d0, v => .mk v z z z z z z z
  | .nil, .d1, v => .mk z v z z z z z z
  | .nil, .d2, v => .mk z z v z z z z z
  | .nil, .d3, v => .mk z z z v z z z z
  | .nil, .d4, v => .mk z z z z v z z z
  | .nil, .d5, v => .mk z z z z z v z z
  | .nil, .d6, v => .mk z z z z z z v z
  | .nil, .d7, v => .mk z z z z z z z v
  | .mk _ b c d e f g h, .d0, v => .mk v b c d e f g h
  | .mk a _ c d e f g h, .d1, v => .mk a v c d e f g h
  | .mk a b _ d e f g h, .d2, v => .mk a b v d e f g h
  | .mk a b c _ e f g h, .d3, v => .mk a b c v e f g h
  | .mk a b c d _ f g h, .d4, v => .mk a b c d v f g h
  | .mk a b c d e _ g h, .d5, v => .mk a b c d e v g h
  | .mk a b c d e f _ h, .d6, v => .mk a b c d e f v h
  | .mk a b c d e f g _, .d7, v => .mk a b c d e f g v
theorem N8.get_set {α} (z : α) (n : N8 α) (i j : D8) (v : α) : (n.set z i v).get z j = if j = i then v else n.get z j := by
  cases n <;> cases i <;> cases j <;> rfl
structure Sl where
  (i j k : D8)
deriving DecidableEq
def Sl.nat (s : Sl) : Nat := 64 * s.i.nat + 8 * s.j.nat + s.k.nat
theorem D8.nat_lt (d : D8) : d.nat < 8 := by cases d <;> decide
theorem D8.nat_inj {a b : D8} (h : a.nat = b.nat) : a = b := by cases a <;> cases b <;> first | rfl | (revert h; decide)
theorem Sl.nat_inj {a b : Sl} (h : a.nat = b.nat) : a = b := by
  obtain ⟨a1, a2, a3⟩ := a
  obtain ⟨b1, b2, b3⟩ := b
  have := a1.nat_lt; have := a2.nat_lt; have := a3.nat_lt; have := b1.nat_lt; have := b2.nat_lt; have := b3.nat_lt
  simp only [Sl.nat] at h
  have e1 : a1 = b1 := D8.nat_inj (by omega)
  have e2 : a2 = b2 := D8.nat_inj (by omega)
  have e3 : a3 = b3 := D8.nat_inj (by omega)
  rw [e1, e2, e3]

/-- What is known of a value. -/
inductive DV where
  | any
  | v (x : Value)
  | agg (cs : List DV)
  | tup (cs : List DV)
  | ptr (k n sz i j : Nat)
  | rptr (x : List DV)
  | sl (k n sz lo len : Nat) (full : Bool)
  | snap (sz : Nat) (xs : List (List DV)) (clip : Bool)
  | fn (f : Fn) (first captured : List DV)
instance : Inhabited DV := ⟨.any⟩

abbrev Env := N8 (N8 (N8 DV))
def Env.get (e : Env) (s : Sl) : DV := N8.get .any (N8.get .nil (N8.get .nil e s.i) s.j) s.k
def Env.set (e : Env) (s : Sl) (v : DV) : Env := N8.set .nil e s.i (N8.set .nil (N8.get .nil e s.i) s.j (N8.set .any (N8.get .nil (N8.get .nil e s.i) s.j) s.k v))
theorem Env.get_set (e : Env) (s t : Sl) (v : DV) : (Env.set e s v).get t = if t = s then v else e.get t := by
  obtain ⟨s1, s2, s3⟩ := s
  obtain ⟨t1, t2, t3⟩ := t
  simp only [Env.get, Env.set, N8.get_set, Sl.mk.injEq]
  by_cases h1 : t1 = s1
  · subst h1
    simp only [if_true, true_and, N8.get_set]
    by_cases h2 : t2 = s2
    · subst h2
      simp only [if_true, true_and, N8.get_set]
    · simp only [h2, if_false, false_and]
  · simp only [h1, if_false, false_and]

/-- An object that the call may write: its name, the cells of an element, its elements. -/
structure AObj where
  (n sz : Nat) (xs : List (List DV))
abbrev HL := List (Option AObj)
def lget : HL → Nat → Option AObj
  | [], _ => none
  | x :: _, 0 => x
  | _ :: r, k + 1 => lget r k
def lset : HL → Nat → Option AObj → HL
  | [], 0, o => [o]
  | [], k + 1, o => none :: lset [] k o
  | _ :: r, 0, o => o :: r
  | x :: r, k + 1, o => x :: lset r k o
theorem lget_lset (o : Option AObj) : ∀ (H : HL) (k j : Nat), lget (lset H k o) j = if j = k then o else lget H j
  | [], 0, 0 => rfl
  | [], 0, j + 1 => by simp [lset, lget]
  | [], k + 1, 0 => by simp [lset, lget]
  | [], k + 1, j + 1 => by
    have := lget_lset o [] k j
    simp only [lset, lget] at this ⊢
    rw [this]
    simp only [Nat.add_right_cancel_iff]
  | x :: r, 0, 0 => rfl
  | x :: r, 0, j + 1 => by simp [lset, lget]
  | x :: r, k + 1, 0 => by simp [lset, lget]
  | x :: r, k + 1, j + 1 => by
    have := lget_lset o r k j
    simp only [lset, lget] at this ⊢
    rw [this]
    simp only [Nat.add_right_cancel_iff]
structure St where
  (tm : Env) (H : HL) (gen : Nat)

/-- Which names stand for blocks, for which, and which blocks may be written by this call or those that called it. -/
structure Kr where
  dom : Nat → Prop
  real : Nat → Prop
  μ : Nat → Nat
  M : Nat → Prop

inductive VRel (K : Kr) (w : World) : DV → Value → Prop
  | any (x : Value) : VRel K w .any x
  | v (x : Value) : VRel K w (.v x) x
  | agg {ds : List DV} {cs : Array Value} (hl : cs.size = ds.length) (h : ∀ (i : Nat) (d : DV) (c : Value), ds[i]? = some d → cs[i]? = some c → VRel K w d c) : VRel K w (.agg ds) (.agg cs)
  | tup {ds : List DV} {cs : Array Value} (hl : cs.size = ds.length) (h : ∀ (i : Nat) (d : DV) (c : Value), ds[i]? = some d → cs[i]? = some c → VRel K w d c) : VRel K w (.tup ds) (.tuple cs)
  | ptr {k n sz i j : Nat} (hr : K.real n) : VRel K w (.ptr k n sz i j) (.pointer (some ⟨K.μ n, i * sz + j, none⟩))
  | rptr {x : List DV} {ad : Addr} (f : Nat → Value) (hs : ad.spot = none) (hlt : ad.block < w.heap.size) (hM : ¬ K.M ad.block) (hc : ∀ (t : Nat) (d : DV), x[t]? = some d → w.cell? (ad.add t) = some (f t)) (h : ∀ (t : Nat) (d : DV), x[t]? = some d → VRel K w d (f t)) : VRel K w (.rptr x) (.pointer (some ad))
  | sl {k n sz lo len : Nat} {full : Bool} {A : Option Addr} {cap : Nat} (hlc : len ≤ cap) (hf : full = true → cap = len)
      (h : cap = 0 ∨ (K.real n ∧ A = some ⟨K.μ n, lo * sz, none⟩ ∧ ∃ cs t fr, w.heap[K.μ n]? = some (.cells cs t fr) ∧ (lo + cap) * sz ≤ cs.size ∧ (full = false → (lo + cap) * sz = cs.size))) : VRel K w (.sl k n sz lo len full) (.slice A len cap)
  | snap {sz : Nat} {xs : List (List DV)} {clip : Bool} {A : Option Addr} {len cap : Nat} (f : Nat → Nat → Value) (hl : xs.length = len) (hlc : len ≤ cap) (hc : clip = true → cap = len) (hs : ∀ x ∈ xs, x.length = sz)
      (ha : 0 < len → ∃ ad, A = some ad ∧ ad.spot = none ∧ ad.block < w.heap.size ∧ ¬ K.M ad.block)
      (hcell : ∀ (ad : Addr) (i : Nat) (x : List DV) (j : Nat) (d : DV), A = some ad → xs[i]? = some x → x[j]? = some d → w.cell? (ad.add (i * sz + j)) = some (f i j))
      (h : ∀ (i : Nat) (x : List DV) (j : Nat) (d : DV), xs[i]? = some x → x[j]? = some d → VRel K w d (f i j)) : VRel K w (.snap sz xs clip) (.slice A len cap)
  | fn {f : Fn} {first captured : List DV} {fi ca : Array Value} (h1 : fi.size = first.length) (h2 : ca.size = captured.length)
      (h3 : ∀ (i : Nat) (d : DV) (c : Value), first[i]? = some d → fi[i]? = some c → VRel K w d c) (h4 : ∀ (i : Nat) (d : DV) (c : Value), captured[i]? = some d → ca[i]? = some c → VRel K w d c) : VRel K w (.fn f first captured) (.func f fi ca)

/-- The world has gone on: outside of W nothing that was there has turned; no block has changed its size. -/
structure Ext (W : Nat → Prop) (w w' : World) : Prop where
  os : w'.os = w.os
  tape : w'.tape = w.tape
  output : w'.output = w.output
  size : w.heap.size ≤ w'.heap.size
  keep : ∀ g, g < w.heap.size → ¬ W g → w'.heap[g]? = w.heap[g]?
  shape : ∀ (g : Nat) (cs : Array Value) (t : TypeId) (fr : Nat × Nat), w.heap[g]? = some (.cells cs t fr) → ∃ cs' : Array Value, w'.heap[g]? = some (.cells cs' t fr) ∧ cs'.size = cs.size
theorem Ext.refl (W : Nat → Prop) (w : World) : Ext W w w := ⟨rfl, rfl, rfl, Nat.le_refl _, fun _ _ _ => rfl, fun g cs t fr h => ⟨cs, h, rfl⟩⟩
theorem Ext.trans {W : Nat → Prop} {a b c : World} (h : Ext W a b) (k : Ext W b c) : Ext W a c :=
  ⟨k.os.trans h.os, k.tape.trans h.tape, k.output.trans h.output, Nat.le_trans h.size k.size, fun g hg hW => (k.keep g (Nat.lt_of_lt_of_le hg h.size) hW).trans (h.keep g hg hW), fun g cs t fr hh => by
    obtain ⟨cs1, h1, e1⟩ := h.shape g cs t fr hh
    obtain ⟨cs2, h2, e2⟩ := k.shape g cs1 t fr h1
    exact ⟨cs2, h2, e2.trans e1⟩⟩
theorem Ext.weaken {W W' : Nat → Prop} {a b : World} (h : Ext W a b) (hW : ∀ g, g < a.heap.size → W g → W' g) : Ext W' a b :=
  ⟨h.os, h.tape, h.output, h.size, fun g hg hn => h.keep g hg (fun hw => hn (hW g hg hw)), h.shape⟩
theorem lt_of_heap {w : World} {g : Nat} {o : Obj} (h : w.heap[g]? = some o) : g < w.heap.size := by
  rcases Nat.lt_or_ge g w.heap.size with hlt | hge
  · exact hlt
  · rw [Array.getElem?_eq_none hge] at h; cases h
theorem Ext.cell {W : Nat → Prop} {w w' : World} (h : Ext W w w') {p : Addr} (hg : p.block < w.heap.size) (hW : ¬ W p.block) : w'.cell? p = w.cell? p :=
  World.cell?_of_block (h.keep _ hg hW)
/-- Draws, and other changes that touch no block. -/
theorem Ext.heap_eq {W : Nat → Prop} {w w' : World} (ho : w'.os = w.os) (ht : w'.tape = w.tape) (hp : w'.output = w.output) (hh : w'.heap = w.heap) : Ext W w w' :=
  ⟨ho, ht, hp, by rw [hh]; exact Nat.le_refl _, fun g _ _ => by rw [hh], fun g cs t fr h => ⟨cs, by rw [hh]; exact h, rfl⟩⟩

structure Mono (K : Kr) (w : World) (K' : Kr) (w' : World) : Prop where
  ext : Ext K.M w w'
  real : ∀ n, K.real n → K'.real n ∧ K'.μ n = K.μ n
  M : ∀ g, g < w.heap.size → K'.M g → K.M g
theorem Mono.refl (K : Kr) (w : World) : Mono K w K w := ⟨Ext.refl _ _, fun n h => ⟨h, rfl⟩, fun g _ h => h⟩
theorem Mono.trans {K1 K2 K3 : Kr} {a b c : World} (h : Mono K1 a K2 b) (k : Mono K2 b K3 c) : Mono K1 a K3 c where
  ext := by
    refine ⟨k.ext.os.trans h.ext.os, k.ext.tape.trans h.ext.tape, k.ext.output.trans h.ext.output, Nat.le_trans h.ext.size k.ext.size, fun g hg hW => ?_, fun g cs t fr hh => ?_⟩
    · exact (k.ext.keep g (Nat.lt_of_lt_of_le hg h.ext.size) (fun h2 => hW (h.M g hg h2))).trans (h.ext.keep g hg hW)
    · obtain ⟨cs1, h1, e1⟩ := h.ext.shape g cs t fr hh
      obtain ⟨cs2, h2, e2⟩ := k.ext.shape g cs1 t fr h1
      exact ⟨cs2, h2, e2.trans e1⟩
  real := fun n hn => ⟨(k.real n (h.real n hn).1).1, ((k.real n (h.real n hn).1).2).trans (h.real n hn).2⟩
  M := fun g hg hM => h.M g hg (k.M g (Nat.lt_of_lt_of_le hg h.ext.size) hM)

theorem VRel.mono {K K' : Kr} {w w' : World} (m : Mono K w K' w') : ∀ {d : DV} {x : Value}, VRel K w d x → VRel K' w' d x := by
  intro d x h
  induction h with
  | any x => exact .any x
  | v x => exact .v x
  | agg hl h ih => exact .agg hl ih
  | tup hl h ih => exact .tup hl ih
  | @ptr k n sz i j hr =>
    have := m.real n hr
    rw [← this.2]
    exact .ptr this.1
  | @rptr x ad f hs hlt hM hc h ih =>
    refine .rptr f hs (Nat.lt_of_lt_of_le hlt m.ext.size) (fun h2 => hM (m.M _ hlt h2)) (fun t d hd => ?_) ih
    rw [← hc t d hd]
    have hb : (ad.add t).block = ad.block := by unfold Addr.add; split <;> rfl
    exact m.ext.cell (by rw [hb]; exact hlt) (by rw [hb]; exact hM)
  | @sl k n sz lo len full A cap hlc hf h =>
    refine .sl hlc hf ?_
    rcases h with h | ⟨hr, hA, cs, t, fr, hh, hle, heq⟩
    · exact .inl h
    · have hm := m.real n hr
      obtain ⟨cs', h1, h2⟩ := m.ext.shape _ _ _ _ hh
      exact .inr ⟨hm.1, by rw [hm.2]; exact hA, cs', t, fr, by rw [hm.2]; exact h1, by rw [h2]; exact hle, fun q => by rw [h2]; exact heq q⟩
  | @snap sz xs clip A len cap f hl hlc hc hs ha hcell h ih =>
    refine .snap f hl hlc hc hs (fun h0 => ?_) (fun ad i x j d hA hx hd => ?_) ih
    · obtain ⟨ad, e, hsp, h1, h2⟩ := ha h0
      exact ⟨ad, e, hsp, Nat.lt_of_lt_of_le h1 m.ext.size, fun h3 => h2 (m.M _ h1 h3)⟩
    · rw [← hcell ad i x j d hA hx hd]
      obtain ⟨ad', e, hsp, h1, h2⟩ := ha (by rw [← hl]; exact Nat.lt_of_le_of_lt (Nat.zero_le i) (List.getElem?_eq_some_iff.1 hx).1)
      rw [hA] at e
      obtain rfl := Option.some.inj e
      have hb : (ad.add (i * sz + j)).block = ad.block := by unfold Addr.add; split <;> rfl
      exact m.ext.cell (by rw [hb]; exact h1) (by rw [hb]; exact h2)
  | fn h1 h2 h3 h4 ih1 ih2 => exact .fn h1 h2 ih1 ih2

/-- An object as it lies in the world; or it is not there yet (it has no elements, and its name stands for no block). -/
def ORel (K : Kr) (w : World) (o : AObj) : Prop :=
  (¬ K.real o.n ∧ o.xs = []) ∨
  (K.real o.n ∧ ∃ cs t, w.heap[K.μ o.n]? = some (.cells cs t (0, 0)) ∧ o.xs.length * o.sz ≤ cs.size ∧ (∀ x ∈ o.xs, x.length = o.sz) ∧
    ∀ (i : Nat) (x : List DV) (j : Nat) (d : DV), o.xs[i]? = some x → x[j]? = some d → ∃ c, cs[i * o.sz + j]? = some c ∧ VRel K w d c)

/-- The frame of a call: the world at its begin, the blocks that were lent to it, the names and blocks of those that called it, and the first name of its own. -/
structure Gm where
  w0 : World
  W0 : Nat → Prop
  K0 : Kr
  g0 : Nat
structure Base (Γ : Gm) (K : Kr) : Prop where
  dom : ∀ n, K.dom n → Γ.K0.dom n ∨ Γ.g0 ≤ n
  old : ∀ n, K.real n → n < Γ.g0 → Γ.K0.real n
  keep : ∀ n, Γ.K0.real n → K.real n ∧ K.μ n = Γ.K0.μ n
  M : ∀ g, g < Γ.w0.heap.size → (K.M g ↔ Γ.K0.M g)

structure Inv (Γ : Gm) (K : Kr) (H : Nat → Option AObj) (w : World) : Prop where
  ext : Ext Γ.W0 Γ.w0 w
  base : Base Γ K
  obj : ∀ k o, H k = some o → ORel K w o
  inj : ∀ k k' o o', H k = some o → H k' = some o' → K.real o.n → K.real o'.n → K.μ o.n = K.μ o'.n → k = k'
  dr : ∀ n, K.real n → K.dom n
  lt : ∀ n, K.real n → K.μ n < w.heap.size
  dobj : ∀ k o, H k = some o → K.dom o.n
  own : ∀ k o, H k = some o → K.real o.n → K.M (K.μ o.n) ∧ (Γ.w0.heap.size ≤ K.μ o.n ∨ Γ.W0 (K.μ o.n))

structure Rel (Γ : Gm) (N : Nat) (st : St) (K : Kr) (a : Act) (w : World) : Prop where
  inv : Inv Γ K (lget st.H) w
  fresh : ∀ n, K.dom n → n < st.gen
  g0 : Γ.g0 ≤ st.gen
  size : a.tmps.size = N
  defers : a.defers = []
  tm : ∀ s : Sl, VRel K w (st.tm.get s) (a.tmps.getD s.nat undef)

/-- An object keeps its relation while the world goes on, if its own block keeps its cells. -/
theorem ORel.mono {K K' : Kr} {w w' : World} (m : Mono K w K' w') {o : AObj} (h : ORel K w o) (hn : ¬ K.real o.n → ¬ K'.real o.n) (hb : K.real o.n → w'.heap[K.μ o.n]? = w.heap[K.μ o.n]?) : ORel K' w' o := by
  rcases h with ⟨h1, h2⟩ | ⟨h1, cs, t, h2, h3, h4, h5⟩
  · exact .inl ⟨hn h1, h2⟩
  · refine .inr ⟨(m.real _ h1).1, cs, t, by rw [(m.real _ h1).2, hb h1]; exact h2, h3, h4, fun i x j d hx hd => ?_⟩
    obtain ⟨c, hc, hv⟩ := h5 i x j d hx hd
    exact ⟨c, hc, hv.mono m⟩

/-!  A symbolic walk over any program, part 2: operations in short form, what each of them yields on deep values, and that the model's operations do so. -/

inductive XA where
  | t (s : Sl)
  | c (v : Value)
  | f (f : FuncId)
inductive XO where
  | move (x : XA)
  | pick (c a b : XA)
  | box (k n : Nat) (x : XA)
  | alloc (k : Nat) (zs : List Value)
  | build (zs : List Value) (parts : List (Nat × Nat × XA))
  | buildSlice (k len : Nat) (zs : List Value) (parts : List (Nat × XA))
  | load (ag : Bool) (n : Nat) (p : XA)
  | store (n : Nat) (p x : XA)
  | nilCheck (x : XA)
  | fieldAddr (off : Nat) (p : XA)
  | field (ag : Bool) (off n : Nat) (x : XA)
  | bin (op : BinOp) (x y : XA)
  | un (op : UnOp) (x : XA)
  | convInt (k : IntKind) (x : XA)
  | extract (i : Nat) (x : XA)
  | len (x : XA)
  | indexSl (sz : Nat) (x i : XA)
  | indexArr (sz n : Nat) (p i : XA)
  | append (k sz bytes : Nat) (x y : XA)
  | eqs (neg : Bool) (ks : List Nat) (x y : XA)
  | eqb (neg : Bool) (x y : XA)
  | minI (x y : XA)
  | maxI (x y : XA)
  | call (f : FuncId) (args : List XA)
structure XOp where
  (dst : Option Sl) (op : XO) (g : Option (Sl × Bool))

inductive Res where
  | ok (d : DV) (touch : List Nat) (wr : List (Nat × Option AObj)) (g : Nat)
  | ite (t : Bool) (x y : Res)
  | need (p : Prop) (x : Res)
  | alt (x y : Res)
  | call (f : FuncId) (args : List DV)
  | bad

def evT (tm : Env) : XA → DV
  | .t s => tm.get s
  | .c v => .v v
  | .f f => .fn (.func f) [] []
def cellsD : DV → List DV
  | .agg cs => cs
  | d => [d]
def oneV : Value → Bool
  | .agg _ | .tuple _ => false
  | _ => true
def oneD : DV → Bool
  | .v x => oneV x
  | .ptr .. | .rptr .. | .sl .. | .snap .. | .fn .. => true
  | .any | .agg _ | .tup _ => false
def andB : Bool → Bool → Bool
  | true, b => b
  | false, _ => false
def allOne : List DV → Bool
  | [] => true
  | d :: r => andB (oneD d) (allOne r)
def lenB : List DV → Nat → Bool
  | [], 0 => true
  | _ :: r, k + 1 => lenB r k
  | _, _ => false
def mapV : List Value → List DV
  | [] => []
  | x :: r => .v x :: mapV r
def dget : List DV → Nat → DV
  | [], _ => .any
  | x :: _, 0 => x
  | _ :: r, k + 1 => dget r k
def ddrop : List DV → Nat → List DV
  | l, 0 => l
  | [], _ + 1 => []
  | _ :: r, k + 1 => ddrop r k
def dtake : List DV → Nat → List DV
  | _, 0 => []
  | [], _ + 1 => []
  | x :: r, k + 1 => x :: dtake r k
/-- 'c' laid over the list from place j on. -/
def splice : List DV → Nat → List DV → List DV
  | x, _, [] => x
  | [], _, _ => []
  | _ :: r, 0, d :: c => d :: splice r 0 c
  | x :: r, j + 1, c => x :: splice r j c
def xget : List (List DV) → Nat → List DV
  | [], _ => []
  | x :: _, 0 => x
  | _ :: r, k + 1 => xget r k
def xset : List (List DV) → Nat → List DV → List (List DV)
  | [], _, _ => []
  | _ :: r, 0, y => y :: r
  | x :: r, k + 1, y => x :: xset r k y
/-- Is there an element number i? A literal list says so by itself. -/
def hasI (xs : List (List DV)) (i : Nat) : Prop := i < xs.length

def boolR (t : Bool) : Res := .ok (.v (.bool t)) [] [] 0
def intBin (op : BinOp) (k : IntKind) (a b : Int) : Res :=
  match op with
  | .add => .ok (.v (.int k (k.wrap (a + b)))) [] [] 0
  | .sub => .ok (.v (.int k (k.wrap (a - b)))) [] [] 0
  | .mul => .ok (.v (.int k (k.wrap (a * b)))) [] [] 0
  | .quo => .need (b ≠ 0) (.ok (.v (.int k (k.wrap (a.tdiv b)))) [] [] 0)
  | .rem => .need (b ≠ 0) (.ok (.v (.int k (a.tmod b))) [] [] 0)
  | .and => .ok (.v (.int k (bits .and k a b))) [] [] 0
  | .or => .ok (.v (.int k (bits .or k a b))) [] [] 0
  | .xor => .ok (.v (.int k (bits .xor k a b))) [] [] 0
  | .andNot => .ok (.v (.int k (bits .andNot k a b))) [] [] 0
  | .shl => .need (0 ≤ b) (.ok (.v (.int k (k.wrap (a * 2 ^ (min b.toNat k.bits))))) [] [] 0)
  | .shr => .need (0 ≤ b) (.ok (.v (.int k (a.fdiv (2 ^ (min b.toNat k.bits))))) [] [] 0)
  | .eql => boolR (decide (a = b))
  | .neq => boolR (!decide (a = b))
  | .lss => boolR (decide (a < b))
  | .leq => boolR (decide (a ≤ b))
  | .gtr => boolR (decide (b < a))
  | .geq => boolR (decide (b ≤ a))
def kindEq : IntKind → IntKind → Bool
  | .i8, .i8 | .i16, .i16 | .i32, .i32 | .i64, .i64 | .u8, .u8 | .u16, .u16 | .u32, .u32 | .u64, .u64 => true
  | _, _ => false
def shiftOp : BinOp → Bool
  | .shl | .shr => true
  | _ => false
def onlyIf : Bool → Res → Res
  | true, r => r
  | false, _ => .bad
def orB : Bool → Bool → Bool
  | true, _ => true
  | false, b => b
def binR (op : BinOp) : DV → DV → Res
  | .v (.int k a), .v (.int k' b) => onlyIf (orB (kindEq k k') (shiftOp op)) (intBin op k a b)
  | _, _ => .bad
def unR (op : UnOp) : DV → Res
  | .v (.bool b) => match op with
    | .not => boolR (!b)
    | _ => .bad
  | .v (.int k n) => match op with
    | .neg => .ok (.v (.int k (k.wrap (0 - n)))) [] [] 0
    | .xor => .ok (.v (.int k (bits .xor k (bif k.signed then -1 else k.max) n))) [] [] 0
    | _ => .bad
  | _ => .bad
def pickR : DV → DV → DV → Res
  | .v (.bool t), a, b => .ite t (.ok a [] [] 0) (.ok b [] [] 0)
  | _, _, _ => .bad
def boxR (k n gen : Nat) (x : DV) : Res :=
  .need (andB (allOne (cellsD x)) (lenB (cellsD x) n) = true) (.ok (.ptr k gen n 0 0) [k] [(k, some ⟨gen, n, [cellsD x]⟩)] 1)
def partOf (ag : Bool) (n : Nat) (x : List DV) : DV :=
  match ag with
  | true => .agg (dtake x n)
  | false => dget x 0
def loadO (ag : Bool) (k n nm sz i j : Nat) : Option AObj → Res
  | some o => .need (o.n = nm ∧ o.sz = sz) (.need (i < o.xs.length ∧ j + n ≤ o.sz) (.ok (partOf ag n (ddrop (xget o.xs i) j)) [k] [] 0))
  | none => .bad
def loadR (ag : Bool) (n : Nat) (H : HL) : DV → Res
  | .ptr k nm sz i j => loadO ag k n nm sz i j (lget H k)
  | .rptr x => .need (n ≤ x.length) (.ok (partOf ag n x) [] [] 0)
  | _ => .bad
def storeO (n k nm sz i j : Nat) (c : List DV) : Option AObj → Res
  | some o => .need (o.n = nm ∧ o.sz = sz) (.need (i < o.xs.length ∧ j + n ≤ o.sz ∧ andB (allOne c) (lenB c n) = true)
      (.ok (.v undef) [k] [(k, some ⟨o.n, o.sz, xset o.xs i (splice (xget o.xs i) j c)⟩)] 0))
  | none => .bad
def storeR (n : Nat) (H : HL) (x : DV) : DV → Res
  | .ptr k nm sz i j => storeO n k nm sz i j (cellsD x) (lget H k)
  | _ => .bad
def nilR : DV → Res
  | .ptr k n sz i j => .ok (.ptr k n sz i j) [] [] 0
  | .rptr x => .ok (.rptr x) [] [] 0
  | _ => .bad
def fieldAR (off : Nat) : DV → Res
  | .ptr k n sz i j => .ok (.ptr k n sz i (j + off)) [] [] 0
  | .rptr x => .ok (.rptr (ddrop x off)) [] [] 0
  | _ => .bad
def fieldR (ag : Bool) (off n : Nat) : DV → Res
  | .agg cs => .need (off + n ≤ cs.length) (.ok (partOf ag n (ddrop cs off)) [] [] 0)
  | _ => .bad
def convR (k : IntKind) : DV → Res
  | .v (.int _ n) => .ok (.v (.int k (k.wrap n))) [] [] 0
  | _ => .bad
def extR (i : Nat) : DV → Res
  | .tup cs => .need (i < cs.length) (.ok (dget cs i) [] [] 0)
  | .v (.tuple vs) => .need (i < vs.size) (.ok (.v (vs.getD i undef)) [] [] 0)
  | _ => .bad
def lenR : DV → Res
  | .sl _ _ _ _ len _ => .ok (.v (.int .i64 (len : Nat))) [] [] 0
  | .snap _ xs _ => .ok (.v (.int .i64 (xs.length : Nat))) [] [] 0
  | .v (.slice _ n _) => .ok (.v (.int .i64 (n : Nat))) [] [] 0
  | _ => .bad
def indexSlR (sz : Nat) : DV → DV → Res
  | .sl k n sz' lo len _, .v (.int _ i) => .need (sz' = sz) (.need (0 ≤ i ∧ i < len) (.ok (.ptr k n sz (lo + i.toNat) 0) [] [] 0))
  | .snap sz' xs _, .v (.int _ i) => .need (sz' = sz) (.need (0 ≤ i ∧ i < xs.length) (.ok (.rptr (xget xs i.toNat)) [] [] 0))
  | _, _ => .bad
def indexArrR (sz n : Nat) : DV → DV → Res
  | .ptr k nm s i j, .v (.int _ q) => .need (0 ≤ q ∧ q < n) (.ok (.ptr k nm s i (j + q.toNat * sz)) [] [] 0)
  | .rptr x, .v (.int _ q) => .need (0 ≤ q ∧ q < n) (.ok (.rptr (ddrop x (q.toNat * sz))) [] [] 0)
  | _, _ => .bad
def evs (tm : Env) : List XA → List DV
  | [] => []
  | x :: r => evT tm x :: evs tm r
def partsD (tm : Env) : List (Nat × Nat × XA) → List DV → List DV
  | [], c => c
  | (off, _, x) :: r, c => partsD tm r (splice c off (cellsD (evT tm x)))
def partsOk (tm : Env) (total : Nat) : List (Nat × Nat × XA) → Bool
  | [] => true
  | (off, n, x) :: r => andB (andB (allOne (cellsD (evT tm x))) (lenB (cellsD (evT tm x)) n)) (andB (decide (off + n ≤ total)) (partsOk tm total r))
def partsE (tm : Env) : List (Nat × XA) → List (List DV) → List (List DV)
  | [], c => c
  | (i, x) :: r, c => partsE tm r (xset c i (cellsD (evT tm x)))
def partsEOk (tm : Env) (len n : Nat) : List (Nat × XA) → Bool
  | [] => true
  | (i, x) :: r => andB (andB (allOne (cellsD (evT tm x))) (lenB (cellsD (evT tm x)) n)) (andB (decide (i < len)) (partsEOk tm len n r))
def repl (x : List DV) : Nat → List (List DV)
  | 0 => []
  | k + 1 => x :: repl x k

/-- The elements of a slice: what they are, where they were looked up, and what must hold. -/
inductive ER where
  | ok (ys : List (List DV)) (touch : List Nat) (p : Prop)
  | bad
def xdrop : List (List DV) → Nat → List (List DV)
  | l, 0 => l
  | [], _ + 1 => []
  | _ :: r, k + 1 => xdrop r k
def xtake : List (List DV) → Nat → List (List DV)
  | _, 0 => []
  | [], _ + 1 => []
  | x :: r, k + 1 => x :: xtake r k
def elemsO (sz k n sz' lo m : Nat) : Option AObj → ER
  | some o => .ok (xtake (xdrop o.xs lo) m) [k] (o.n = n ∧ o.sz = sz' ∧ sz' = sz ∧ lo + m ≤ o.xs.length)
  | none => .bad
def elemsR (sz : Nat) (H : HL) : DV → ER
  | .snap sz' ys _ => .ok ys [] (sz' = sz)
  | .sl k n sz' lo m _ => elemsO sz k n sz' lo m (lget H k)
  | .v (.slice none 0 _) => .ok [] [] True
  | _ => .bad
def allOnes : List (List DV) → Bool
  | [] => true
  | x :: r => andB (allOne x) (allOnes r)
def appN : List Nat → List Nat → List Nat
  | [], l => l
  | x :: r, l => x :: appN r l
def room (n bytes : Nat) : Prop := n ≤ maxLen ∧ n * bytes ≤ 140737488355328
/-- Onto a whole row of the call's own. -/
def appOwn (k sz bytes gen kx n sz' lo len : Nat) (H : HL) (ys : List (List DV)) (ty : List Nat) : Option AObj → Res
  | some o => .need (o.n = n ∧ o.sz = sz' ∧ sz' = sz ∧ lo = 0 ∧ len = o.xs.length) (.need (allOnes ys = true ∧ room (o.xs.length + ys.length) bytes)
      (.ok (.sl k gen sz 0 (o.xs.length + ys.length) false) (kx :: k :: ty) [(kx, none), (k, some ⟨gen, sz, o.xs ++ ys⟩)] 1))
  | none => .bad
/-- Onto a slice without room. -/
def appNew (k sz bytes gen : Nat) (x : DV) (ys : List (List DV)) (ty : List Nat) : ER → Res
  | .ok xs tx p => .need p (.alt
      (.need ((0 < ys.length ∨ xs.length = 0) ∧ allOnes xs = true ∧ allOnes ys = true ∧ room (xs.length + ys.length) bytes) (.ok (.sl k gen sz 0 (xs.length + ys.length) false) (k :: appN tx ty) [(k, some ⟨gen, sz, xs ++ ys⟩)] 1))
      (.need (ys.length = 0) (.ok x ty [] 0)))
  | .bad => .bad
def appY (k sz bytes gen : Nat) (H : HL) (x : DV) : ER → Res
  | .ok ys ty p => .need p (match x with
    | .sl kx n sz' lo len false => appOwn k sz bytes gen kx n sz' lo len H ys ty (lget H kx)
    | .sl kx n sz' lo len true => appNew k sz bytes gen (.sl kx n sz' lo len true) ys ty (elemsR sz H (.sl kx n sz' lo len true))
    | .snap sz' xs true => appNew k sz bytes gen (.snap sz' xs true) ys ty (elemsR sz H (.snap sz' xs true))
    | .v (.slice none 0 0) => appNew k sz bytes gen (.v (.slice none 0 0)) ys ty (.ok [] [] True)
    | _ => .bad)
  | .bad => .bad
/-- Equality, cell by cell; the kinds: 0 an integer, 1 a bool, 2 a string. -/
def cellEq : Nat → DV → DV → Option Bool
  | 0, .v (.int k a), .v (.int k' b) => match kindEq k k' with
    | true => some (decide (a = b))
    | false => none
  | 1, .v (.bool a), .v (.bool b) => some (a == b)
  | 2, .v (.string a), .v (.string b) => some (decide (a = b))
  | _, _, _ => none
def consO : Option Bool → Option (List Bool) → Option (List Bool)
  | some b, some l => some (b :: l)
  | _, _ => none
def cmpAll : List Nat → List DV → List DV → Option (List Bool)
  | [], [], [] => some []
  | q :: ks, a :: r, b :: s => consO (cellEq q a b) (cmpAll ks r s)
  | _, _, _ => none
def allB : List Bool → Bool
  | [] => true
  | [b] => b
  | b :: r => b && allB r
def negB : Bool → Bool → Bool
  | true, b => !b
  | false, b => b
def eqsO (neg : Bool) : Option (List Bool) → Res
  | some bs => boolR (negB neg (allB bs))
  | none => .bad
def eqsR (neg : Bool) (ks : List Nat) : DV → DV → Res
  | .agg x, .agg y => eqsO neg (cmpAll ks x y)
  | _, _ => .bad
def eqbR (neg : Bool) : DV → DV → Res
  | .v (.bool a), .v (.bool b) => boolR (negB neg (a == b))
  | _, _ => .bad
def minR (mx : Bool) : DV → DV → Res
  | .v (.int k a), .v (.int k' b) => onlyIf (kindEq k k') (.ok (.v (.int k (bif mx then max a b else min a b))) [] [] 0)
  | _, _ => .bad

def ex1 (st : St) : XO → Res
  | .move x => .ok (evT st.tm x) [] [] 0
  | .pick c a b => pickR (evT st.tm c) (evT st.tm a) (evT st.tm b)
  | .box k n x => boxR k n st.gen (evT st.tm x)
  | .alloc k zs => .ok (.ptr k st.gen zs.length 0 0) [k] [(k, some ⟨st.gen, zs.length, [mapV zs]⟩)] 1
  | .build zs parts => .need (partsOk st.tm zs.length parts = true) (.ok (.agg (partsD st.tm parts (mapV zs))) [] [] 0)
  | .buildSlice k len zs parts => .need (partsEOk st.tm len zs.length parts = true)
      (.ok (.sl k st.gen zs.length 0 len true) [k] [(k, some ⟨st.gen, zs.length, partsE st.tm parts (repl (mapV zs) len)⟩)] 1)
  | .load ag n p => loadR ag n st.H (evT st.tm p)
  | .store n p x => storeR n st.H (evT st.tm x) (evT st.tm p)
  | .nilCheck x => nilR (evT st.tm x)
  | .fieldAddr off p => fieldAR off (evT st.tm p)
  | .field ag off n x => fieldR ag off n (evT st.tm x)
  | .bin op x y => binR op (evT st.tm x) (evT st.tm y)
  | .un op x => unR op (evT st.tm x)
  | .convInt k x => convR k (evT st.tm x)
  | .extract i x => extR i (evT st.tm x)
  | .len x => lenR (evT st.tm x)
  | .indexSl sz x i => indexSlR sz (evT st.tm x) (evT st.tm i)
  | .indexArr sz n p i => indexArrR sz n (evT st.tm p) (evT st.tm i)
  | .append k sz bytes x y => appY k sz bytes st.gen st.H (evT st.tm x) (elemsR sz st.H (evT st.tm y))
  | .eqs neg ks x y => eqsR neg ks (evT st.tm x) (evT st.tm y)
  | .eqb neg x y => eqbR neg (evT st.tm x) (evT st.tm y)
  | .minI x y => minR false (evT st.tm x) (evT st.tm y)
  | .maxI x y => minR true (evT st.tm x) (evT st.tm y)
  | .call f args => .call f (evs st.tm args)

/-- All leaves of a result, under what leads there. -/
def Res.all (φ : DV → List Nat → List (Nat × Option AObj) → Nat → Prop) (ψ : FuncId → List DV → Prop) : Res → Prop
  | .ok d t w g => φ d t w g
  | .ite t x y => (t = true → x.all φ ψ) ∧ (t = false → y.all φ ψ)
  | .need p x => p → x.all φ ψ
  | .alt x y => x.all φ ψ ∧ y.all φ ψ
  | .call f args => ψ f args
  | .bad => True

/-! The model's operations and the short ones: which stand for which. -/
def eqV : Value → Value → Bool
  | .bool a, .bool b => a == b
  | .int k n, .int k' n' => kindEq k k' && decide (n = n')
  | .string a, .string b => a.data.toList == b.data.toList
  | .pointer none, .pointer none => true
  | .slice none a b, .slice none c d => decide (a = c) && decide (b = d)
  | .map none, .map none => true
  | .nilFunc, .nilFunc => true
  | .nilIface, .nilIface => true
  | _, _ => false
theorem kindEq_eq {a b : IntKind} (h : kindEq a b = true) : a = b := by cases a <;> cases b <;> first | rfl | (simp [kindEq] at h)
theorem eqV_eq : ∀ {a b : Value}, eqV a b = true → a = b := by
  intro a b h
  unfold eqV at h
  split at h
  · simp at h; rw [h]
  · simp at h; rw [kindEq_eq h.1, h.2]
  · rename_i a b
    have h2 : a.data.toList = b.data.toList := by simpa using h
    have : a.data = b.data := Array.ext' h2
    cases a; cases b; simp at this; rw [this]
  · rfl
  · simp at h; rw [h.1, h.2]
  · rfl
  · rfl
  · rfl
  · cases h
def eqVs : List Value → List Value → Bool
  | [], [] => true
  | a :: r, b :: s => eqV a b && eqVs r s
  | _, _ => false
theorem eqVs_eq : ∀ {a b : List Value}, eqVs a b = true → a = b
  | [], [], _ => rfl
  | a :: r, b :: s, h => by
    simp only [eqVs, Bool.and_eq_true] at h
    rw [eqV_eq h.1, eqVs_eq h.2]
  | [], _ :: _, h => by simp [eqVs] at h
  | _ :: _, [], h => by simp [eqVs] at h
def okA : Operand → XA → Bool
  | .tmp t, .t s => decide (t = s.nat)
  | .const v, .c u => eqV v u
  | .func f, .f g => decide (f = g)
  | _, _ => false
theorem okA_rel {K : Kr} {w : World} {tm : Env} {a : Act} (h : ∀ s : Sl, VRel K w (tm.get s) (a.tmps.getD s.nat undef)) {o : Operand} {x : XA} (ho : okA o x = true) : VRel K w (evT tm x) (a.eval o) := by
  unfold okA at ho
  split at ho
  · have e := of_decide_eq_true ho
    subst e
    exact h _
  · rw [eqV_eq ho]; exact .v _
  · have e := of_decide_eq_true ho
    subst e
    exact .fn rfl rfl (fun i d c h => by simp at h) (fun i d c h => by simp at h)
  · cases ho
def aggB : TypeDesc → Bool
  | .struct _ | .array _ _ => true
  | _ => false
def tySz (P : Program) (t : TypeId) (n : Nat) : Bool := match P.info? t with | some i => decide (i.size = n) | none => false
def tyAg (P : Program) (t : TypeId) (ag : Bool) : Bool := match P.underlying t with | some d => aggB d == ag | none => false
def tyZero (P : Program) (t : TypeId) (zs : List Value) : Bool := match P.info? t with | some i => (match i.zero with | some z => eqVs z.cells.toList zs | none => false) && decide (i.size = zs.length) | none => false
def okArgs : List Operand → List XA → Bool
  | [], [] => true
  | a :: r, x :: s => okA a x && okArgs r s
  | _, _ => false
def okParts (fs : List (Nat × Nat)) : List (Nat × Operand) → List (Nat × Nat × XA) → Bool
  | [], [] => true
  | (i, a) :: r, (off, n, x) :: s => (match fs[i]? with | some (o, z) => decide (o = off) && decide (z = n) | none => false) && okA a x && okParts fs r s
  | _, _ => false
def okEParts : List (Nat × Operand) → List (Nat × XA) → Bool
  | [], [] => true
  | (i, a) :: r, (j, x) :: s => decide (i = j) && okA a x && okEParts r s
  | _, _ => false
def places (P : Program) (t : TypeId) : Option (List (Nat × Nat)) :=
  match P.underlying t with
  | some (.struct fs) => some (fs.toList.map fun f => (f.offset, P.cellsOf f.type))
  | some (.array n e) => some ((List.range n).map fun i => (i * P.cellsOf e, P.cellsOf e))
  | _ => none
/-- The kinds of the cells of a type of which == looks at every cell: integers, strings, bools, structs and arrays of them. -/
def leafT (P : Program) : Nat → TypeId → Option (List Nat)
  | 0, _ => none
  | d + 1, t => match P.underlying t with
    | some (.int _) => some [0]
    | some .bool => some [1]
    | some .string => some [2]
    | some (.struct fs) => if P.stoodInHeld t then none else leafFs P (leafT P d) fs.toList 0
    | some (.array n e) => match P.info? e with
      | some _ => (match leafT P d e with
        | some l => if l.length = P.cellsOf e then some (List.replicate n l).flatten else none
        | none => none)
      | none => none
    | _ => none
where leafFs (P : Program) (f : TypeId → Option (List Nat)) : List Field → Nat → Option (List Nat)
  | [], _ => some []
  | q :: r, o => if q.offset = o ∧ ¬ q.name = "_" then (match f q.type, leafFs P f r (o + P.cellsOf q.type) with
    | some l, some m => if l.length = P.cellsOf q.type then some (l ++ m) else none
    | _, _ => none) else none
def eqOp (neg : Bool) : BinOp → Bool
  | .eql => !neg
  | .neq => neg
  | _ => false
def okO (P : Program) (op : Op) (x : XO) : Bool :=
  match x with
  | .move b => match op with | .move a | .assign a => okA a b | _ => false
  | .pick c a b => match op with | .pick c' a' b' => okA c' c && okA a' a && okA b' b | _ => false
  | .box k n b => match op with | .box t a => okA a b && tySz P t n | _ => false
  | .alloc k zs => match op with | .alloc t => tyZero P t zs | _ => false
  | .build zs parts => match op with | .build t ps => tyZero P t zs && (match places P t with | some fs => okParts fs ps.toList parts | none => false) && (match P.underlying t with | some (.struct fs) => fs.toList.all (fun f => (P.info? f.type).isSome) | some (.array _ e) => (P.info? e).isSome | _ => false) | _ => false
  | .buildSlice k len zs parts => match op with | .buildSlice t n ps => decide (n = len) && (match P.underlying t with | some (.slice e) => tyZero P e zs && decide (0 < zs.length) && decide (len * zs.length ≤ 2 ^ 24) | _ => false) && okEParts ps.toList parts | _ => false
  | .load ag n p => match op with | .load t a => okA a p && tySz P t n && tyAg P t ag && (ag || decide (n = 1)) | _ => false
  | .store n p b => match op with | .store t q a => okA q p && okA a b && tySz P t n | _ => false
  | .nilCheck b => match op with | .nilCheck a => okA a b | _ => false
  | .fieldAddr off p => match op with | .fieldAddr t a i => okA a p && (match P.underlying t with | some (.struct fs) => (match fs[i]? with | some f => decide (f.offset = off) && tySz P f.type (P.cellsOf f.type) && decide (0 < P.cellsOf f.type) | none => false) | _ => false) | _ => false
  | .field ag off n b => match op with | .field t a i => okA a b && (match P.underlying t with | some (.struct fs) => (match fs[i]? with | some f => decide (f.offset = off) && tySz P f.type n && tyAg P f.type ag && (ag || decide (n = 1)) | none => false) | _ => false) | _ => false
  | .bin o b c => match op with | .binOp o' t a d t' => decide (o = o') && okA a b && okA d c | _ => false
  | .un o b => match op with | .unOp o' t a => decide (o = o') && okA a b | _ => false
  | .convInt k b => match op with | .convert s d a => okA a b && (match P.underlying s with | some _ => true | none => false) && (match P.underlying d with | some (.int k') => kindEq k k' | _ => false) | _ => false
  | .extract i b => match op with | .extract a j => okA a b && decide (i = j) | _ => false
  | .len b => match op with | .call c => (match c.callee with | .builtin .len => true | _ => false) && (match c.args.toList, c.argTypes.toList with | [a], [t] => okA a b && (match P.underlying t with | some (.slice _) => true | _ => false) | _, _ => false) | _ => false
  | .indexSl sz b i => match op with | .indexAddr t a q => okA a b && okA q i && (match P.underlying t with | some (.slice e) => tySz P e sz | _ => false) | _ => false
  | .indexArr sz n b i => match op with | .indexAddr t a q => okA a b && okA q i && (match P.underlying t with | some (.array m e) => tySz P e sz && decide (m = n) && decide (1 < m) | _ => false) | _ => false
  | .append k sz bytes b d => match op with | .call c => (match c.callee with | .builtin .append => true | _ => false) && (match c.args.toList, c.argTypes.toList with | [a, e], [t, t'] => okA a b && okA e d && (match P.underlying t with | some (.slice el) => tySz P el sz && decide (0 < sz) && (match P.info? el with | some i => decide (i.bytes = bytes) && (match i.zero with | some z => decide (z.cells.size = sz) | none => false) | none => false) | _ => false) && (match P.underlying t' with | some (.slice _) => true | _ => false) | _, _ => false) | _ => false
  | .eqs neg ks b d => match op with | .binOp o' t a e t' => eqOp neg o' && okA a b && okA e d && decide (leafT P 20 t = some ks) && tyAg P t true && !(P.eqGuardType P.depth t) | _ => false
  | .eqb neg b d => match op with | .binOp o' t a e t' => eqOp neg o' && okA a b && okA e d && (match P.underlying t with | some .bool => true | _ => false) | _ => false
  | .minI b d => match op with | .call c => (match c.callee with | .builtin .min => true | _ => false) && (match c.args.toList, c.argTypes.toList with | [a, e], [t, t'] => okA a b && okA e d | _, _ => false) | _ => false
  | .maxI b d => match op with | .call c => (match c.callee with | .builtin .max => true | _ => false) && (match c.args.toList, c.argTypes.toList with | [a, e], [t, t'] => okA a b && okA e d | _, _ => false) | _ => false
  | .call f args => match op with | .call c => (match c.callee with | .value (.func g) => decide (f = g) | _ => false) && okArgs c.args.toList args && (match P.funcs[f]? with | some fn => fn.body.isSome && !(fn.name == "runtime.NumGoroutine") | none => false) | _ => false

/-!  A symbolic walk over any program, part 3: every short operation does what its result says, in whatever frame and world the things that it looks at are as they were. -/

def XA.reads : XA → List Sl
  | .t s => [s]
  | _ => []
def XO.reads : XO → List Sl
  | .move x | .box _ _ x | .load _ _ x | .nilCheck x | .fieldAddr _ x | .field _ _ _ x | .un _ x | .convInt _ x | .extract _ x | .len x => x.reads
  | .pick c a b => c.reads ++ a.reads ++ b.reads
  | .alloc .. => []
  | .build _ ps => ps.flatMap (·.2.2.reads)
  | .buildSlice _ _ _ ps => ps.flatMap (·.2.reads)
  | .append _ _ _ p x | .eqs _ _ p x | .eqb _ p x | .minI p x | .maxI p x => p.reads ++ x.reads
  | .store _ p x | .bin _ p x | .indexSl _ p x | .indexArr _ _ p x => p.reads ++ x.reads
  | .call _ as => as.flatMap XA.reads
def updF (H : Nat → Option AObj) : List (Nat × Option AObj) → Nat → Option AObj
  | [] => H
  | (k, o) :: r => updF (fun j => if j = k then o else H j) r

def Stp (P : Program) (o : Oper) (rs : List Sl) (tm : Env) (H : HL) (gen : Nat) (d : DV) (touch : List Nat) (wr : List (Nat × Option AObj)) (g : Nat) : Prop :=
  ∀ (Γ : Gm) (K : Kr) (H' : Nat → Option AObj) (a : Act) (w : World) (Q : Exit → Act → World → Prop) (next : Act → World → Prop),
    Inv Γ K H' w → (∀ k ∈ touch, H' k = lget H k) → (∀ s ∈ rs, VRel K w (tm.get s) (a.tmps.getD s.nat undef)) → (∀ n, gen ≤ n → n < gen + g → ¬ K.dom n) → Γ.g0 ≤ gen →
    (∀ (K' : Kr) (w' : World) (v : Value), Mono K w K' w' → Inv Γ K' (updF H' wr) w' → VRel K' w' d v → (∀ n, K'.dom n → K.dom n ∨ (gen ≤ n ∧ n < gen + g)) → next (a.put o.dst v) w') →
    o.wp P a w next Q

theorem wp_value {P : Program} {o : Oper} {a : Act} {w w' : World} {v : Value} {next : Act → World → Prop} {Q : Exit → Act → World → Prop} (h : (execOp a.eval o).run P w = .ok (.value v) w') (hn : next (a.put o.dst v) w') : o.wp P a w next Q := by
  unfold Oper.wp; rw [h]; exact hn
theorem wp_skipv {P : Program} {o : Oper} {a : Act} {w w' : World} {next : Act → World → Prop} {Q : Exit → Act → World → Prop} (h : (execOp a.eval o).run P w = .ok .skip w') (hn : next (a.put o.dst undef) w') : o.wp P a w next Q := by
  unfold Oper.wp; rw [h]; exact hn

section
variable {P : Program} {o : Oper} {rs : List Sl} {tm : Env} {H : HL} {gen : Nat} {d : DV}
/-- An operation that reads alone. -/
theorem Stp.read {touch : List Nat}
    (h : ∀ (Γ : Gm) (K : Kr) (H' : Nat → Option AObj) (a : Act) (w : World), Inv Γ K H' w → (∀ k ∈ touch, H' k = lget H k) → (∀ s ∈ rs, VRel K w (tm.get s) (a.tmps.getD s.nat undef)) → ∃ v, (execOp a.eval o).run P w = .ok (.value v) w ∧ VRel K w d v) :
    Stp P o rs tm H gen d touch [] 0 := by
  intro Γ K H' a w Q next hI ht hr hf hg0 hn
  obtain ⟨v, h1, h2⟩ := h Γ K H' a w hI ht hr
  exact wp_value h1 (hn K w v (Mono.refl K w) hI h2 (fun n h => .inl h))
theorem Stp.pure (h : ∀ (K : Kr) (a : Act) (w : World), (∀ s ∈ rs, VRel K w (tm.get s) (a.tmps.getD s.nat undef)) → ∃ v, (execOp a.eval o).run P w = .ok (.value v) w ∧ VRel K w d v) :
    Stp P o rs tm H gen d [] [] 0 := Stp.read fun Γ K H' a w _ _ hr => h K a w hr
end

theorem okA_rel' {K : Kr} {w : World} {tm : Env} {a : Act} {o : Operand} {x : XA} (h : ∀ s ∈ x.reads, VRel K w (tm.get s) (a.tmps.getD s.nat undef)) (ho : okA o x = true) : VRel K w (evT tm x) (a.eval o) := by
  unfold okA at ho
  split at ho
  · have e := of_decide_eq_true ho
    subst e
    exact h _ (by simp [XA.reads])
  · rw [eqV_eq ho]; exact .v _
  · have e := of_decide_eq_true ho
    subst e
    exact .fn rfl rfl (fun i d c h => by simp at h) (fun i d c h => by simp at h)
  · cases ho
theorem reads_l {a b : List Sl} {p : Sl → Prop} (h : ∀ s ∈ a ++ b, p s) : ∀ s ∈ a, p s := fun s hs => h s (List.mem_append.2 (.inl hs))
theorem reads_r {a b : List Sl} {p : Sl → Prop} (h : ∀ s ∈ a ++ b, p s) : ∀ s ∈ b, p s := fun s hs => h s (List.mem_append.2 (.inr hs))

theorem vrel_v {K : Kr} {w : World} {x y : Value} (h : VRel K w (.v x) y) : y = x := by cases h; rfl
theorem vrel_one {K : Kr} {w : World} {d : DV} {x : Value} (h : VRel K w d x) (ho : oneD d = true) : x.oneCell' = true := by
  cases h with
  | any x => simp [oneD] at ho
  | v x => cases x <;> first | rfl | (simp [oneD, oneV] at ho)
  | agg hl h => simp [oneD] at ho
  | tup hl h => simp [oneD] at ho
  | ptr hr => rfl
  | rptr f h1 h2 h3 h4 h5 => rfl
  | sl h1 h2 h3 => rfl
  | snap f h1 h2 h3 h4 h5 h6 h7 => rfl
  | fn h1 h2 h3 h4 => rfl
theorem andB_eq {a b : Bool} : andB a b = true ↔ a = true ∧ b = true := by cases a <;> simp [andB]
theorem allOne_mem : ∀ {l : List DV}, allOne l = true → ∀ d ∈ l, oneD d = true
  | [], _, d, h => by simp at h
  | x :: r, hh, d, h => by
    simp only [allOne, andB_eq] at hh
    rcases List.mem_cons.1 h with rfl | h
    · exact hh.1
    · exact allOne_mem hh.2 d h
theorem lenB_eq : ∀ {l : List DV} {n : Nat}, lenB l n = true → l.length = n
  | [], 0, _ => rfl
  | _ :: r, k + 1, h => by simp only [lenB] at h; simp [lenB_eq h]
  | [], k + 1, h => by simp [lenB] at h
  | _ :: _, 0, h => by simp [lenB] at h
theorem mapV_length : ∀ (l : List Value), (mapV l).length = l.length
  | [] => rfl
  | _ :: r => by simp [mapV, mapV_length r]
theorem mapV_get : ∀ (l : List Value) (i : Nat), (mapV l)[i]? = (l[i]?).map DV.v
  | [], i => by simp [mapV]
  | x :: r, 0 => by simp [mapV]
  | x :: r, i + 1 => by simp [mapV, mapV_get r i]
/-- The cells of a value. -/
theorem cells_rel {K : Kr} {w : World} {d : DV} {x : Value} (h : VRel K w d x) (ho : allOne (cellsD d) = true) :
    x.cells.size = (cellsD d).length ∧ (∀ (i : Nat) (e : DV) (c : Value), (cellsD d)[i]? = some e → x.cells[i]? = some c → VRel K w e c) ∧ ∀ c ∈ x.cells.toList, c.oneCell' = true := by
  have hone := allOne_mem ho
  have base : (∀ cs, d ≠ .agg cs) → x.cells.size = (cellsD d).length ∧ (∀ (i : Nat) (e : DV) (c : Value), (cellsD d)[i]? = some e → x.cells[i]? = some c → VRel K w e c) ∧ ∀ c ∈ x.cells.toList, c.oneCell' = true := by
    intro hd
    have e : cellsD d = [d] := by cases d <;> first | rfl | (exact absurd rfl (hd _))
    rw [e] at hone ⊢
    have h1 := vrel_one h (hone d (by simp))
    have hx : x.cells = #[x] := by cases x <;> first | rfl | (simp [Value.oneCell'] at h1)
    rw [hx]
    refine ⟨rfl, fun i e c he hc => ?_, fun c hc => by simp at hc; rw [hc]; exact h1⟩
    cases i with
    | zero => simp at he hc; rw [← he, ← hc]; exact h
    | succ i => simp at he
  cases h with
  | @agg ds cs hl hh =>
    refine ⟨hl, hh, fun c hc => ?_⟩
    obtain ⟨i, hi, e⟩ := List.mem_iff_getElem.1 hc
    have hi' : i < cs.size := by simpa [Value.cells] using hi
    have h1 : (Value.agg cs).cells[i]? = some c := by simp only [Value.cells]; rw [Array.getElem?_eq_getElem hi', ← e]; simp [Value.cells]
    have h2 : i < ds.length := by rw [← hl]; exact hi'
    exact vrel_one (hh i _ c (List.getElem?_eq_getElem h2) h1) (hone _ (List.getElem_mem h2))
  | any x => exact base (fun cs e => by cases e)
  | v x => exact base (fun cs e => by cases e)
  | tup hl h => exact base (fun cs e => by cases e)
  | ptr hr => exact base (fun cs e => by cases e)
  | rptr f h1 h2 h3 h4 h5 => exact base (fun cs e => by cases e)
  | sl h1 h2 h3 => exact base (fun cs e => by cases e)
  | snap f h1 h2 h3 h4 h5 h6 h7 => exact base (fun cs e => by cases e)
  | fn h1 h2 h3 h4 => exact base (fun cs e => by cases e)

theorem tySz_info {P : Program} {t : TypeId} {n : Nat} (h : tySz P t n = true) : ∃ i, P.info? t = some i ∧ i.size = n := by
  unfold tySz at h
  split at h
  · rename_i i hi; exact ⟨i, hi, of_decide_eq_true h⟩
  · cases h
theorem run_sizeOf' {P : Program} {t : TypeId} {i : TypeInfo} (h : P.info? t = some i) (w : World) : (sizeOf t).run P w = .ok i.size w := by
  simp [sizeOf, typeInfo, h]
theorem run_isAgg' {P : Program} {t : TypeId} {ag : Bool} (h : tyAg P t ag = true) (w : World) : (isAgg t).run P w = .ok ag w := by
  unfold tyAg at h
  split at h
  · rename_i d hd
    have e : aggB d = ag := by simpa using h
    subst e
    simp only [isAgg, Sem.run_bind, run_underlying hd, Result.andThen_ok]
    cases d <;> rfl
  · cases h

/-! Objects: laying a new one, writing one. -/
theorem updF_nil (H : Nat → Option AObj) : updF H [] = H := rfl
theorem updF_one (H : Nat → Option AObj) (k : Nat) (o : Option AObj) : updF H [(k, o)] = fun j => if j = k then o else H j := rfl
theorem ext_alloc {W : Nat → Prop} (w : World) (ob : Obj) : Ext W w (w.alloc ob) :=
  ⟨rfl, rfl, rfl, by simp, fun g hg _ => RowKit.Below.heap_alloc w ob g hg, fun g cs t fr h => ⟨cs, (RowKit.Below.heap_alloc w ob g (lt_of_heap h)).trans h, rfl⟩⟩
theorem heap_new (w : World) (ob : Obj) : (w.alloc ob).heap[w.heap.size]? = some ob := by
  show (w.heap.push ob)[w.heap.size]? = _
  rw [Array.getElem?_push, if_pos rfl]
/-- The names and blocks after a new block for the name n. -/
def Kr.add (K : Kr) (n b : Nat) : Kr := ⟨fun m => K.dom m ∨ m = n, fun m => K.real m ∨ m = n, fun m => if m = n then b else K.μ m, fun g => K.M g ∨ g = b⟩
theorem mono_alloc {K : Kr} {w : World} {n : Nat} (ob : Obj) (hn : ¬ K.real n) : Mono K w (K.add n w.heap.size) (w.alloc ob) :=
  ⟨ext_alloc w ob, fun m hm => ⟨.inl hm, by
    simp only [Kr.add]
    rw [if_neg]
    rintro rfl
    exact hn hm⟩, fun g hg h => by
    rcases h with h | h
    · exact h
    · omega⟩
theorem ext_trans_new {Γ : Gm} {K : Kr} {H : Nat → Option AObj} {w w' : World} (hI : Inv Γ K H w) (h : Ext (fun _ => False) w w') : Ext Γ.W0 Γ.w0 w' :=
  hI.ext.trans (h.weaken fun g _ hf => hf.elim)
theorem inv_add {Γ : Gm} {K : Kr} {H : Nat → Option AObj} {w : World} (hI : Inv Γ K H w) {n sz k : Nat} {xs : List (List DV)} {cs : Array Value} {t : TypeId} (hn : ¬ K.dom n) (hg0 : Γ.g0 ≤ n)
    (hsz : xs.length * sz ≤ cs.size) (hlen : ∀ x ∈ xs, x.length = sz)
    (hrel : ∀ (i : Nat) (x : List DV) (j : Nat) (d : DV), xs[i]? = some x → x[j]? = some d → ∃ c, cs[i * sz + j]? = some c ∧ VRel K w d c) :
    Inv Γ (K.add n w.heap.size) (fun j => if j = k then some ⟨n, sz, xs⟩ else H j) (w.alloc (.cells cs t)) := by
  have hn' : ¬ K.real n := fun h => hn (hI.dr n h)
  have hm := mono_alloc (K := K) (w := w) (n := n) (.cells cs t) hn'
  have hnew : (w.alloc (.cells cs t)).heap[w.heap.size]? = some (.cells cs t (0, 0)) := heap_new w _
  have hblk : ∀ k o, H k = some o → K.real o.n → K.μ o.n < w.heap.size := by
    intro k o ho hr
    rcases hI.obj k o ho with ⟨h1, _⟩ | ⟨_, cs', t', h2, _⟩
    · exact absurd hr h1
    · exact lt_of_heap h2
  have hne : ∀ k o, H k = some o → o.n ≠ n := fun k o ho e => hn (e ▸ hI.dobj k o ho)
  have hμ : ∀ k o, H k = some o → (K.add n w.heap.size).μ o.n = K.μ o.n := fun k o ho => if_neg (hne k o ho)
  have hr' : ∀ k o, H k = some o → (K.add n w.heap.size).real o.n → K.real o.n := fun k o ho h => h.elim id (fun e => absurd e (hne k o ho))
  have hbase : Base Γ (K.add n w.heap.size) := by
    refine ⟨fun m h => ?_, fun m h hlt => ?_, fun m h => ?_, fun g hg => ?_⟩
    · rcases h with h | h
      · exact hI.base.dom m h
      · exact .inr (by omega)
    · rcases h with h | h
      · exact hI.base.old m h hlt
      · omega
    · obtain ⟨h1, h2⟩ := hI.base.keep m h
      refine ⟨.inl h1, ?_⟩
      rw [← h2]
      show (if m = n then w.heap.size else K.μ m) = K.μ m
      rw [if_neg]
      rintro rfl
      exact hn' h1
    · rw [← hI.base.M g hg]
      refine ⟨fun h => h.elim id (fun e => ?_), .inl⟩
      have := hI.ext.size
      omega
  refine ⟨ext_trans_new hI (ext_alloc w _), hbase, fun k' o' ho => ?_, fun k1 k2 o1 o2 h1 h2 r1 r2 he => ?_, fun m h => ?_, fun m h => ?_, fun k' o' ho => ?_, fun k' o' ho hr => ?_⟩
  · by_cases hk : k' = k
    · rw [if_pos hk] at ho
      obtain rfl := Option.some.inj ho
      refine .inr ⟨.inr rfl, cs, t, ?_, hsz, hlen, fun i x j d hx hd => ?_⟩
      · simp only [Kr.add, if_true]; exact hnew
      · obtain ⟨c, hc, hv⟩ := hrel i x j d hx hd
        exact ⟨c, hc, hv.mono hm⟩
    · rw [if_neg hk] at ho
      exact (hI.obj k' o' ho).mono hm (fun h h2 => h (hr' _ _ ho h2)) (fun hr => RowKit.Below.heap_alloc w _ _ (hblk k' o' ho hr))
  · by_cases e1 : k1 = k <;> by_cases e2 : k2 = k
    · rw [e1, e2]
    · rw [if_pos e1] at h1
      rw [if_neg e2] at h2
      obtain rfl := Option.some.inj h1
      rw [hμ _ _ h2] at he
      have hlt := hblk _ _ h2 (hr' _ _ h2 r2)
      simp only [Kr.add, if_true] at he
      omega
    · rw [if_neg e1] at h1
      rw [if_pos e2] at h2
      obtain rfl := Option.some.inj h2
      rw [hμ _ _ h1] at he
      have hlt := hblk _ _ h1 (hr' _ _ h1 r1)
      simp only [Kr.add, if_true] at he
      omega
    · rw [if_neg e1] at h1
      rw [if_neg e2] at h2
      rw [hμ _ _ h1, hμ _ _ h2] at he
      exact hI.inj k1 k2 o1 o2 h1 h2 (hr' _ _ h1 r1) (hr' _ _ h2 r2) he
  · exact h.elim (fun h => .inl (hI.dr m h)) .inr
  · have hs : (w.alloc (.cells cs t)).heap.size = w.heap.size + 1 := by simp
    rw [hs]
    show (if m = n then w.heap.size else K.μ m) < _
    by_cases e : m = n
    · rw [if_pos e]; omega
    · rw [if_neg e]
      have := hI.lt m (h.resolve_right e)
      omega
  · by_cases hk : k' = k
    · rw [if_pos hk] at ho
      obtain rfl := Option.some.inj ho
      exact .inr rfl
    · rw [if_neg hk] at ho
      exact .inl (hI.dobj k' o' ho)
  · by_cases hk : k' = k
    · rw [if_pos hk] at ho
      obtain rfl := Option.some.inj ho
      refine ⟨.inr (if_pos rfl), .inl ?_⟩
      simp only [Kr.add, if_true]
      exact hI.ext.size
    · rw [if_neg hk] at ho
      rw [hμ _ _ ho]
      obtain ⟨h1, h2⟩ := hI.own k' o' ho (hr' _ _ ho hr)
      exact ⟨.inl h1, h2⟩

/-- Writing cells of an object. -/
theorem setRow_ext {W : Nat → Prop} {w : World} {g : Nat} {cs cs' : Array Value} {t : TypeId} {fr : Nat × Nat} (h : w.heap[g]? = some (.cells cs t fr)) (hs : cs'.size = cs.size) (hW : W g) : Ext W w (w.setRow g cs') := by
  have hsize : (w.setRow g cs').heap.size = w.heap.size := by simp [World.setRow]
  have hother : ∀ k, k ≠ g → (w.setRow g cs').heap[k]? = w.heap[k]? := by
    intro k hk
    simp only [World.setRow, Array.getElem?_modify]
    rw [if_neg (fun e => hk e.symm)]
  refine ⟨rfl, rfl, rfl, by rw [hsize]; exact Nat.le_refl _, fun k hk hn => hother k (fun e => hn (e ▸ hW)), fun k c t' fr' hh => ?_⟩
  by_cases hk : k = g
  · subst hk
    rw [h] at hh
    obtain ⟨rfl, rfl, rfl⟩ := hh
    exact ⟨cs', setRow_heap w k _ _ _ _ h, hs⟩
  · exact ⟨c, by rw [hother k hk]; exact hh, rfl⟩
theorem setRow_other {w : World} {g k : Nat} {cs' : Array Value} (hk : k ≠ g) : (w.setRow g cs').heap[k]? = w.heap[k]? := by
  simp only [World.setRow, Array.getElem?_modify]
  rw [if_neg (fun e => hk e.symm)]
theorem inv_write {Γ : Gm} {K : Kr} {H : Nat → Option AObj} {w : World} (hI : Inv Γ K H w) {k : Nat} {o : AObj} (ho : H k = some o) (hr : K.real o.n) {cs cs' : Array Value} {t : TypeId} (hc : w.heap[K.μ o.n]? = some (.cells cs t (0, 0)))
    (hs : cs'.size = cs.size) {xs : List (List DV)} (hsz : xs.length * o.sz ≤ cs.size) (hlen : ∀ x ∈ xs, x.length = o.sz)
    (hrel : ∀ (i : Nat) (x : List DV) (j : Nat) (d : DV), xs[i]? = some x → x[j]? = some d → ∃ c, cs'[i * o.sz + j]? = some c ∧ VRel K w d c) :
    Mono K w K (w.setRow (K.μ o.n) cs') ∧ Inv Γ K (fun j => if j = k then some ⟨o.n, o.sz, xs⟩ else H j) (w.setRow (K.μ o.n) cs') := by
  have hown := hI.own k o ho hr
  have hM : Mono K w K (w.setRow (K.μ o.n) cs') := ⟨setRow_ext hc hs hown.1, fun n h => ⟨h, rfl⟩, fun g _ h => h⟩
  have hne : ∀ k' o', k' ≠ k → H k' = some o' → K.real o'.n → K.μ o'.n ≠ K.μ o.n := fun k' o' hk h' hr' e => hk (hI.inj k' k o' o h' ho hr' hr e)
  refine ⟨hM, ⟨hM.ext.os.trans hI.ext.os, hM.ext.tape.trans hI.ext.tape, hM.ext.output.trans hI.ext.output, Nat.le_trans hI.ext.size hM.ext.size, fun g hg hW => ?_, fun g c t' fr hh => ?_⟩, hI.base, fun k' o' h' => ?_, fun k1 k2 o1 o2 h1 h2 r1 r2 he => ?_, hI.dr, fun m h => Nat.lt_of_lt_of_le (hI.lt m h) hM.ext.size, fun k' o' h' => ?_, fun k' o' h' h2 => ?_⟩
  · rw [setRow_other (fun e => ?_), hI.ext.keep g hg hW]
    subst e
    rcases hown.2 with h | h
    · omega
    · exact hW h
  · obtain ⟨c1, h1, e1⟩ := hI.ext.shape g c t' fr hh
    obtain ⟨c2, h2, e2⟩ := hM.ext.shape g c1 t' fr h1
    exact ⟨c2, h2, e2.trans e1⟩
  · by_cases hk : k' = k
    · rw [if_pos hk] at h'
      obtain rfl := Option.some.inj h'
      refine .inr ⟨hr, cs', t, setRow_heap w _ _ _ _ _ hc, by rw [hs]; exact hsz, hlen, fun i x j d hx hd => ?_⟩
      obtain ⟨c, h3, h4⟩ := hrel i x j d hx hd
      exact ⟨c, h3, h4.mono hM⟩
    · rw [if_neg hk] at h'
      exact (hI.obj k' o' h').mono hM id (fun hr' => setRow_other (hne k' o' hk h' hr'))
  · have key : ∀ j oj, (if j = k then some (⟨o.n, o.sz, xs⟩ : AObj) else H j) = some oj → ∃ o2, H j = some o2 ∧ o2.n = oj.n := by
      intro j oj h
      by_cases hj : j = k
      · rw [if_pos hj] at h
        obtain rfl := Option.some.inj h
        exact ⟨o, hj ▸ ho, rfl⟩
      · rw [if_neg hj] at h
        exact ⟨oj, h, rfl⟩
    obtain ⟨p1, q1, e1⟩ := key _ _ h1
    obtain ⟨p2, q2, e2⟩ := key _ _ h2
    rw [← e1] at r1 he
    rw [← e2] at r2 he
    exact hI.inj k1 k2 p1 p2 q1 q2 r1 r2 he
  · by_cases hk : k' = k
    · rw [if_pos hk] at h'
      obtain rfl := Option.some.inj h'
      exact hI.dobj k o ho
    · rw [if_neg hk] at h'
      exact hI.dobj k' o' h'
  · by_cases hk : k' = k
    · rw [if_pos hk] at h'
      obtain rfl := Option.some.inj h'
      exact hown
    · rw [if_neg hk] at h'
      exact hI.own k' o' h' h2

/-! The list words. -/
theorem dget_get : ∀ (l : List DV) (i : Nat), dget l i = (l[i]?).getD .any
  | [], i => rfl
  | x :: r, 0 => rfl
  | x :: r, i + 1 => by simp [dget, dget_get r i]
theorem ddrop_eq : ∀ (l : List DV) (i : Nat), ddrop l i = l.drop i
  | l, 0 => by cases l <;> rfl
  | [], i + 1 => by simp [ddrop]
  | x :: r, i + 1 => by simp [ddrop, ddrop_eq r i]
theorem dtake_eq : ∀ (l : List DV) (i : Nat), dtake l i = l.take i
  | l, 0 => by cases l <;> simp [dtake]
  | [], i + 1 => by simp [dtake]
  | x :: r, i + 1 => by simp [dtake, dtake_eq r i]
theorem xget_get : ∀ (l : List (List DV)) (i : Nat), xget l i = (l[i]?).getD []
  | [], i => rfl
  | x :: r, 0 => rfl
  | x :: r, i + 1 => by simp [xget, xget_get r i]
theorem xset_get : ∀ (l : List (List DV)) (i j : Nat) (y : List DV), (xset l i y)[j]? = if j = i then (if i < l.length then some y else none) else l[j]?
  | [], i, j, y => by simp [xset]
  | x :: r, 0, 0, y => by simp [xset]
  | x :: r, 0, j + 1, y => by simp [xset]
  | x :: r, i + 1, 0, y => by simp [xset]
  | x :: r, i + 1, j + 1, y => by simp [xset, xset_get r i j y]
theorem xset_length : ∀ (l : List (List DV)) (i : Nat) (y : List DV), (xset l i y).length = l.length
  | [], i, y => rfl
  | x :: r, 0, y => rfl
  | x :: r, i + 1, y => by simp [xset, xset_length r i y]
theorem splice_length : ∀ (x : List DV) (j : Nat) (c : List DV), (splice x j c).length = x.length
  | [], j, [] => by simp [splice]
  | [], j, d :: c => by simp [splice]
  | x :: r, 0, [] => by simp [splice]
  | x :: r, j + 1, [] => by simp [splice]
  | x :: r, 0, d :: c => by simp [splice, splice_length r 0 c]
  | x :: r, j + 1, d :: c => by simp [splice, splice_length r j (d :: c)]
theorem splice_get : ∀ (x : List DV) (j : Nat) (c : List DV) (i : Nat), i < x.length → (splice x j c)[i]? = if j ≤ i ∧ i < j + c.length then c[i - j]? else x[i]?
  | [], j, c, i, h => by simp at h
  | x :: r, j, [], i, h => by
    have : splice (x :: r) j [] = x :: r := by cases j <;> simp [splice]
    rw [this, if_neg (by simp only [List.length_nil, Nat.add_zero]; omega)]
  | x :: r, 0, d :: c, 0, h => by simp [splice]
  | x :: r, 0, d :: c, i + 1, h => by
    have := splice_get r 0 c i (by simpa using h)
    simp only [splice, List.getElem?_cons_succ, this, List.length_cons, Nat.zero_add, Nat.zero_le, true_and, Nat.sub_zero]
    by_cases hc : i < c.length
    · rw [if_pos hc, if_pos (by omega)]
    · rw [if_neg hc, if_neg (by omega)]
  | x :: r, j + 1, d :: c, 0, h => by simp [splice]
  | x :: r, j + 1, d :: c, i + 1, h => by
    have := splice_get r j (d :: c) i (by simpa using h)
    simp only [splice, List.getElem?_cons_succ, this]
    by_cases hc : j ≤ i ∧ i < j + (d :: c).length
    · rw [if_pos hc, if_pos (by omega)]
      congr 1
      omega
    · rw [if_neg hc, if_neg (by omega)]

/-!  A symbolic walk over any program, part 4: the operations, one by one. -/

section
variable {P : Program} {o : Oper} {tm : Env} {H : HL} {gen : Nat}

theorem addr_add (g a j : Nat) : (⟨g, a, none⟩ : Addr).add j = ⟨g, a + j, none⟩ := by unfold Addr.add; split <;> simp_all
theorem stp_move {x : XA} {y : Operand} (hop : o.op = .move y ∨ o.op = .assign y) (ho : okA y x = true) : Stp P o x.reads tm H gen (evT tm x) [] [] 0 :=
  Stp.pure fun K a w hr => ⟨a.eval y, by rcases hop with h | h <;> simp [execOp, h], okA_rel' hr ho⟩
theorem stp_pick {c a b : XA} {c' a' b' : Operand} (hop : o.op = .pick c' a' b') (h1 : okA c' c = true) (h2 : okA a' a = true) (h3 : okA b' b = true) :
    (pickR (evT tm c) (evT tm a) (evT tm b)).all (fun d t wr g => Stp P o (c.reads ++ a.reads ++ b.reads) tm H gen d t wr g) (fun _ _ => False) := by
  unfold pickR
  split
  · rename_i t e _ _ hc
    refine ⟨fun ht => Stp.pure fun K ac w hr => ?_, fun ht => Stp.pure fun K ac w hr => ?_⟩
    all_goals
      have r1 := okA_rel' (reads_l (reads_l hr)) h1
      rw [hc] at r1
      have e1 := vrel_v r1
    · exact ⟨ac.eval a', by simp [execOp, hop, e1, asBool, ht], okA_rel' (reads_r (reads_l hr)) h2⟩
    · exact ⟨ac.eval b', by simp [execOp, hop, e1, asBool, ht], okA_rel' (reads_r hr) h3⟩
  · exact trivial
theorem cells_get {K : Kr} {w : World} {x : Value} {ds : List DV} (h1 : x.cells.size = ds.length) (h2 : ∀ (i : Nat) (e : DV) (c : Value), ds[i]? = some e → x.cells[i]? = some c → VRel K w e c) :
    ∀ (i : Nat) (y : List DV) (j : Nat) (d : DV), [ds][i]? = some y → y[j]? = some d → ∃ c, x.cells[i * ds.length + j]? = some c ∧ VRel K w d c := by
  intro i y j d hy hd
  cases i with
  | succ i => simp at hy
  | zero =>
    simp at hy
    subst hy
    have hj : j < x.cells.size := by rw [h1]; exact (List.getElem?_eq_some_iff.1 hd).1
    refine ⟨x.cells[j], by rw [Nat.zero_mul, Nat.zero_add]; exact Array.getElem?_eq_getElem hj, h2 j d _ hd (Array.getElem?_eq_getElem hj)⟩
theorem stp_new {rs : List Sl} {k n : Nat} {ds : List DV}
    (h : ∀ (K : Kr) (a : Act) (w : World), (∀ s ∈ rs, VRel K w (tm.get s) (a.tmps.getD s.nat undef)) → ∃ x t, (execOp a.eval o).run P w = .ok (.value (.pointer (some ⟨w.heap.size, 0, none⟩))) (w.alloc (.cells (Value.cells x) t)) ∧
      x.cells.size = ds.length ∧ (∀ (i : Nat) (e : DV) (c : Value), ds[i]? = some e → x.cells[i]? = some c → VRel K w e c)) (hn : ds.length = n) :
    Stp P o rs tm H gen (.ptr k gen n 0 0) [k] [(k, some ⟨gen, n, [ds]⟩)] 1 := by
  intro Γ K H' a w Q next hI ht hr hf hg0 hnext
  obtain ⟨x, t, h1, h2, h3⟩ := h K a w hr
  have hg : ¬ K.dom gen := hf gen (Nat.le_refl _) (by omega)
  refine wp_value h1 (hnext (K.add gen w.heap.size) _ _ (mono_alloc _ (fun h => hg (hI.dr _ h))) ?_ ?_ ?_)
  · rw [updF_one]
    refine inv_add hI hg hg0 (by simp [h2, hn]) (by simp [hn]) ?_
    rw [← hn]
    exact cells_get h2 h3
  · have : VRel (K.add gen w.heap.size) (w.alloc (.cells (Value.cells x) t)) (.ptr k gen n 0 0) (.pointer (some ⟨(K.add gen w.heap.size).μ gen, 0 * n + 0, none⟩)) := .ptr (.inr rfl)
    simpa [Kr.add] using this
  · intro m hm
    rcases hm with h | h
    · exact .inl h
    · exact .inr (by omega)
theorem stp_box {k n : Nat} {x : XA} {t : TypeId} {y : Operand} (hop : o.op = .box t y) (ho : okA y x = true) (hs : tySz P t n = true) :
    (boxR k n gen (evT tm x)).all (fun d t wr g => Stp P o x.reads tm H gen d t wr g) (fun _ _ => False) := by
  unfold boxR
  intro hc
  rw [andB_eq] at hc
  have hl := lenB_eq hc.2
  refine stp_new (fun K a w hr => ?_) hl
  obtain ⟨h1, h2, h3⟩ := cells_rel (okA_rel' hr ho) hc.1
  exact ⟨a.eval y, t, by simp [execOp, hop, Instr.box, newVar, newRow], h1, h2⟩
theorem tyZero_info {t : TypeId} {zs : List Value} (h : tyZero P t zs = true) : ∃ i z, P.info? t = some i ∧ i.zero = some z ∧ z.cells.toList = zs ∧ i.size = zs.length := by
  unfold tyZero at h
  split at h
  · rename_i i hi
    simp only [Bool.and_eq_true, decide_eq_true_eq] at h
    split at h
    · rename_i z hz; exact ⟨i, z, hi, hz, eqVs_eq h.1, h.2⟩
    · simp at h
  · cases h
theorem stp_alloc {k : Nat} {zs : List Value} {t : TypeId} (hop : o.op = .alloc t) (hz : tyZero P t zs = true) :
    Stp P o [] tm H gen (.ptr k gen zs.length 0 0) [k] [(k, some ⟨gen, zs.length, [mapV zs]⟩)] 1 := by
  obtain ⟨i, z, h1, h2, h3, h4⟩ := tyZero_info hz
  refine stp_new (fun K a w hr => ⟨z, t, ?_, ?_, ?_⟩) (mapV_length zs)
  · simp [execOp, hop, Instr.alloc, zeroValue, typeInfo, h1, h2, newVar, newRow]
  · rw [mapV_length, ← h3]; simp
  · intro j e c he hc
    rw [mapV_get, ← h3] at he
    have hc' : z.cells.toList[j]? = some c := by rw [Array.getElem?_toList]; exact hc
    rw [hc'] at he
    simp at he
    rw [← he]
    exact .v c
/-- A load of n cells that stand there. -/
theorem run_load_part {w : World} {K : Kr} {ag : Bool} {n : Nat} {t : TypeId} {ad : Addr} {ds : List DV} (hsz : tySz P t n = true) (hag : tyAg P t ag = true) (h1 : ag = true ∨ n = 1) (hl : n ≤ ds.length)
    (hc : ∀ (j : Nat) (d : DV), j < n → ds[j]? = some d → ∃ c, w.cell? (ad.add j) = some c ∧ VRel K w d c) :
    ∃ v, (loadVar t ad).run P w = .ok v w ∧ VRel K w (partOf ag n ds) v := by
  obtain ⟨i, hi, hn⟩ := tySz_info hsz
  have hcell : ∀ j, j < n → ∃ c, w.cell? (ad.add j) = some c ∧ VRel K w (ds[j]?.getD .any) c := by
    intro j hj
    have hj' : j < ds.length := by omega
    obtain ⟨c, h1, h2⟩ := hc j ds[j] hj (List.getElem?_eq_getElem hj')
    exact ⟨c, h1, by rw [List.getElem?_eq_getElem hj']; exact h2⟩
  cases ag with
  | true =>
    let f : Nat → Value := fun j => (w.cell? (ad.add j)).getD undef
    have hf : ∀ j, j < n → w.cell? (ad.add j) = some (f j) := by
      intro j hj
      obtain ⟨c, h1, _⟩ := hcell j hj
      simp only [f, h1, Option.getD_some]
    have hld := run_loadCells (P := P) w ad n f hf
    refine ⟨.agg ((List.range n).map f).toArray, ?_, ?_⟩
    · simp only [loadVar, Sem.run_bind, run_isAgg' hag, run_sizeOf' hi, Result.andThen_ok, if_true, hn, hld, Sem.run_pure]
    · refine .agg (by simp [dtake_eq]; omega) (fun j d c hd hcj => ?_)
      rw [dtake_eq] at hd
      have hj : j < n := by
        have := (List.getElem?_eq_some_iff.1 hd).1
        simp at this
        omega
      obtain ⟨c', h2, h3⟩ := hcell j hj
      have e1 : ds[j]? = some d := by rw [List.getElem?_take_of_lt hj] at hd; exact hd
      rw [e1] at h3
      have e2 : c = c' := by
        have : (((List.range n).map f).toArray)[j]? = some (f j) := by simp [hj]
        rw [this] at hcj
        have h4 := hf j hj
        rw [h2] at h4
        exact (Option.some.inj hcj).symm.trans (Option.some.inj h4).symm
      rw [e2]
      exact h3
  | false =>
    have hn1 : n = 1 := by rcases h1 with h | h <;> simp_all
    obtain ⟨c, h2, h3⟩ := hcell 0 (by omega)
    refine ⟨c, ?_, ?_⟩
    · have : ad.add 0 = ad := by simp [Addr.add]
      rw [this] at h2
      simp only [loadVar, Sem.run_bind, run_isAgg' hag, Result.andThen_ok]
      simp [run_load, h2]
    · show VRel K w (dget ds 0) c
      rw [dget_get]
      exact h3
theorem stp_load {ag : Bool} {n : Nat} {p : XA} {t : TypeId} {y : Operand} (hop : o.op = .load t y) (ho : okA y p = true) (hsz : tySz P t n = true) (hag : tyAg P t ag = true) (h1 : ag = true ∨ n = 1) :
    (loadR ag n H (evT tm p)).all (fun d t wr g => Stp P o p.reads tm H gen d t wr g) (fun _ _ => False) := by
  unfold loadR
  split
  · rename_i k nm sz i j hp
    unfold loadO
    split
    · rename_i ob hob
      intro hnm hbd
      refine Stp.read fun Γ K H' a w hI ht hr => ?_
      have r1 := okA_rel' hr ho
      rw [hp] at r1
      have hH := ht k (by simp)
      rw [hob] at hH
      generalize hy : a.eval y = yv at r1
      cases r1 with
      | ptr hreal =>
        rcases hI.obj k ob hH with ⟨h2, _⟩ | ⟨h2, cs, tt, h3, h4, h5, h6⟩
        · exact absurd (hnm.1 ▸ hreal) h2
        · obtain ⟨x, hx⟩ : ∃ x, ob.xs[i]? = some x := ⟨_, List.getElem?_eq_getElem hbd.1⟩
          have hxl : x.length = ob.sz := h5 x (List.mem_of_getElem? hx)
          have hxg : xget ob.xs i = x := by rw [xget_get, hx]; rfl
          rw [hxg, ddrop_eq]
          obtain ⟨v, e1, e2⟩ := run_load_part (P := P) (ad := ⟨K.μ nm, i * sz + j, none⟩) (w := w) (K := K) hsz hag h1 (ds := x.drop j) (by rw [List.length_drop]; omega) (fun q d hq hd => by
            rw [List.getElem?_drop] at hd
            obtain ⟨c, h7, h8⟩ := h6 i x (j + q) d hx hd
            refine ⟨c, ?_, h8⟩
            rw [addr_add, cell_of_row w _ _ cs tt (0, 0) (by rw [← hnm.1]; exact h3), ← h7, hnm.2, Nat.add_assoc])
          exact ⟨v, by simp [execOp, hop, hy, Instr.loadAt, Instr.sureAddr, e1], e2⟩
    · exact trivial
  · rename_i x hp
    intro hn
    refine Stp.pure fun K a w hr => ?_
    have r1 := okA_rel' hr ho
    rw [hp] at r1
    generalize hy : a.eval y = yv at r1
    cases r1 with
    | rptr f hs hlt hM hc h =>
      obtain ⟨v, e1, e2⟩ := run_load_part (P := P) hsz hag h1 hn (fun j d hj hd => ⟨_, hc j d hd, h j d hd⟩)
      exact ⟨v, by simp [execOp, hop, hy, Instr.loadAt, Instr.sureAddr, e1], e2⟩
  · exact trivial

theorem getElem?_splice_arr {cs : Array Value} {x : List Value} {at_ : Nat} (h : at_ + x.length ≤ cs.size) (q : Nat) :
    ((cs.toList.take at_ ++ x ++ cs.toList.drop (at_ + x.length)).toArray)[q]? = if at_ ≤ q ∧ q < at_ + x.length then x[q - at_]? else cs[q]? := by
  have hl : (cs.toList.take at_).length = at_ := by simp; omega
  rw [List.getElem?_toArray]
  by_cases h1 : q < at_
  · rw [if_neg (by omega), List.append_assoc, List.getElem?_append_left (by omega), List.getElem?_take_of_lt h1, Array.getElem?_toList]
  · by_cases h2 : q < at_ + x.length
    · rw [if_pos (by omega), List.append_assoc, List.getElem?_append_right (by omega), hl, List.getElem?_append_left (by omega)]
    · rw [if_neg (by omega), List.getElem?_append_right (by simp; omega)]
      simp only [List.length_append, hl, List.getElem?_drop, Array.getElem?_toList]
      congr 1
      omega
theorem stp_store {n : Nat} {p x : XA} {t : TypeId} {q y : Operand} (hop : o.op = .store t q y) (h1 : okA q p = true) (h2 : okA y x = true) (hsz : tySz P t n = true) :
    (storeR n H (evT tm x) (evT tm p)).all (fun d t wr g => Stp P o (p.reads ++ x.reads) tm H gen d t wr g) (fun _ _ => False) := by
  unfold storeR
  split
  · rename_i k nm sz i j hp
    unfold storeO
    split
    · rename_i ob hob
      intro hnm hbd
      obtain ⟨hi, hj, hcc⟩ := hbd
      rw [andB_eq] at hcc
      have hcl := lenB_eq hcc.2
      intro Γ K H' a w Q next hI ht hr hf hg0 hnext
      have r1 := okA_rel' (reads_l hr) h1
      have r2 := okA_rel' (reads_r hr) h2
      rw [hp] at r1
      have hH := ht k (by simp)
      rw [hob] at hH
      obtain ⟨c1, c2, c3⟩ := cells_rel r2 hcc.1
      generalize hy : a.eval q = yv at r1
      obtain ⟨inf, hinf, hn⟩ := tySz_info hsz
      cases r1 with
      | ptr hreal =>
        rcases hI.obj k ob hH with ⟨h2, _⟩ | ⟨h2, cs, tt, h3, h4, h5, h6⟩
        · exact absurd (hnm.1 ▸ hreal) h2
        · obtain ⟨xo, hx⟩ : ∃ x, ob.xs[i]? = some x := ⟨_, List.getElem?_eq_getElem hi⟩
          have hxl : xo.length = ob.sz := h5 xo (List.mem_of_getElem? hx)
          have hxg : xget ob.xs i = xo := by rw [xget_get, hx]; rfl
          have hle : i * sz + j + (a.eval y).cells.toList.length ≤ cs.size := by
            have : (i + 1) * ob.sz ≤ ob.xs.length * ob.sz := Nat.mul_le_mul_right _ hi
            rw [Nat.add_mul, Nat.one_mul, hnm.2] at this
            have e : (a.eval y).cells.toList.length = n := by simp [c1, hcl]
            rw [hnm.2] at h4
            rw [e, ]
            rw [hnm.2] at hj
            omega
          have hst := run_storeCells_at P (K.μ nm) (i * sz + j) tt (a.eval y).cells.toList 0 cs w (by rw [← hnm.1]; exact h3) (by simpa using hle) c3
          simp only [Nat.add_zero] at hst
          have hrun : (execOp a.eval o).run P w = .ok .skip (w.setRow (K.μ nm) (cs.toList.take (i * sz + j) ++ (a.eval y).cells.toList ++ cs.toList.drop (i * sz + j + (a.eval y).cells.toList.length)).toArray) := by
            simp only [execOp, hop, hy, Instr.storeAt, Instr.sureAddr, storeVar, Sem.run_bind, Sem.run_pure, Result.andThen_ok, run_sizeOf' hinf]
            rw [if_neg (by rw [c1, hcl, hn]; simp)]
            rw [hst]
            rfl
          have hsize : (cs.toList.take (i * sz + j) ++ (a.eval y).cells.toList ++ cs.toList.drop (i * sz + j + (a.eval y).cells.toList.length)).toArray.size = cs.size := by
            simp only [List.size_toArray, List.length_append, List.length_take, List.length_drop, Array.length_toList] at hle ⊢
            omega
          have hw := inv_write hI hH h2 h3 hsize (xs := xset ob.xs i (splice (xget ob.xs i) j (cellsD (evT tm x)))) (by rw [xset_length]; exact h4) (by
            intro x' hx'
            obtain ⟨q', hq'⟩ := List.mem_iff_getElem?.1 hx'
            rw [xset_get] at hq'
            by_cases hqi : q' = i
            · rw [if_pos hqi, if_pos hi] at hq'
              obtain rfl := Option.some.inj hq'
              rw [splice_length, hxg, hxl]
            · rw [if_neg hqi] at hq'
              exact h5 x' (List.mem_of_getElem? hq')) (by
            intro i' x' j' d' hx' hd'
            rw [getElem?_splice_arr hle]
            have ec : (a.eval y).cells.toList.length = (cellsD (evT tm x)).length := by simp [c1]
            rw [ec, hcl]
            rw [xset_get] at hx'
            have hj' : j' < ob.sz := by
              by_cases hii : i' = i
              · rw [if_pos hii, if_pos hi] at hx'
                obtain rfl := Option.some.inj hx'
                have := (List.getElem?_eq_some_iff.1 hd').1
                rw [splice_length, hxg, hxl] at this
                exact this
              · rw [if_neg hii] at hx'
                have := (List.getElem?_eq_some_iff.1 hd').1
                rw [h5 x' (List.mem_of_getElem? hx')] at this
                exact this
            by_cases hii : i' = i
            · rw [if_pos hii, if_pos hi] at hx'
              obtain rfl := Option.some.inj hx'
              rw [hxg, splice_get _ _ _ _ (by rw [hxl]; exact hj'), hcl] at hd'
              subst hii
              by_cases hin : j ≤ j' ∧ j' < j + n
              · rw [if_pos hin] at hd'
                rw [if_pos (by rw [hnm.2]; omega)]
                have e : i' * ob.sz + j' - (i' * sz + j) = j' - j := by rw [hnm.2]; omega
                rw [e]
                have hlt : j' - j < (a.eval y).cells.size := by rw [c1, hcl]; omega
                refine ⟨(a.eval y).cells[j' - j], ?_, c2 _ _ _ hd' (Array.getElem?_eq_getElem hlt)⟩
                rw [Array.getElem?_toList]
                exact Array.getElem?_eq_getElem hlt
              · rw [if_neg hin] at hd'
                rw [if_neg (by rw [hnm.2]; omega)]
                exact h6 i' xo j' d' hx hd'
            · rw [if_neg hii] at hx'
              have hfar : ¬ (i * sz + j ≤ i' * ob.sz + j' ∧ i' * ob.sz + j' < i * sz + j + n) := by
                rw [hnm.2] at hj' hj ⊢
                rcases Nat.lt_or_ge i' i with hlt | hge
                · have : (i' + 1) * sz ≤ i * sz := Nat.mul_le_mul_right _ hlt
                  rw [Nat.add_mul, Nat.one_mul] at this
                  omega
                · have : (i + 1) * sz ≤ i' * sz := Nat.mul_le_mul_right _ (by omega)
                  rw [Nat.add_mul, Nat.one_mul] at this
                  omega
              rw [if_neg hfar]
              exact h6 i' x' j' d' hx' hd')
          rw [hnm.1] at hw
          refine wp_skipv hrun (hnext K _ undef hw.1 ?_ (.v undef) (fun n h => .inl h))
          rw [updF_one, hnm.1]
          exact hw.2
    · exact trivial
  · exact trivial
theorem stp_nil {x : XA} {y : Operand} (hop : o.op = .nilCheck y) (ho : okA y x = true) :
    (nilR (evT tm x)).all (fun d t wr g => Stp P o x.reads tm H gen d t wr g) (fun _ _ => False) := by
  unfold nilR
  split
  all_goals first
    | exact trivial
    | (rename_i hx
       refine Stp.pure fun K a w hr => ?_
       have r1 := okA_rel' hr ho
       rw [hx] at r1
       generalize hy : a.eval y = yv at r1
       have r2 := r1
       cases r1
       exact ⟨_, by simp [execOp, hop, hy], r2⟩)
theorem stp_field {off : Nat} {p : XA} {t : TypeId} {y : Operand} {i : Nat} {fs : Array Field} {f : Field} (hop : o.op = .fieldAddr t y i) (ho : okA y p = true) (hu : P.underlying t = some (.struct fs)) (hf : fs[i]? = some f) (hoff : f.offset = off)
    (hs : tySz P f.type (P.cellsOf f.type) = true) (hpos : 0 < P.cellsOf f.type) :
    (fieldAR off (evT tm p)).all (fun d t wr g => Stp P o p.reads tm H gen d t wr g) (fun _ _ => False) := by
  obtain ⟨inf, hinf, hn⟩ := tySz_info hs
  have hrun : ∀ (a : Act) (w : World) (ad : Addr), a.eval y = .pointer (some ad) → (execOp a.eval o).run P w = .ok (.value (.pointer (some (ad.add off)))) w := by
    intro a w ad hy
    simp only [execOp, hop, hy, Instr.fieldAt, Instr.sureAddr, fieldPlace, Sem.run_bind, Sem.run_pure, Result.andThen_ok, run_underlying hu, hf, run_sizeOf' hinf]
    rw [if_neg (by omega)]
    simp [hoff]
  unfold fieldAR
  split
  · rename_i k n sz i' j hx
    refine Stp.pure fun K a w hr => ?_
    have r1 := okA_rel' hr ho
    rw [hx] at r1
    generalize hy : a.eval y = yv at r1
    cases r1 with
    | ptr hreal =>
      refine ⟨_, hrun a w _ hy, ?_⟩
      rw [addr_add, Nat.add_assoc]
      exact .ptr hreal
  · rename_i x hx
    refine Stp.pure fun K a w hr => ?_
    have r1 := okA_rel' hr ho
    rw [hx] at r1
    generalize hy : a.eval y = yv at r1
    cases r1 with
    | @rptr _ ad f hs hlt hM hc h =>
      refine ⟨_, hrun a w _ hy, ?_⟩
      rw [ddrop_eq]
      have hb : (ad.add off).block = ad.block := by unfold Addr.add; split <;> rfl
      have hsp : (ad.add off).spot = none := by unfold Addr.add; split <;> simp_all
      have haa : ∀ j, (ad.add off).add j = ad.add (off + j) := by
        intro j
        unfold Addr.add
        by_cases h1 : off = 0 <;> by_cases h2 : j = 0 <;> simp [h1, h2, Nat.add_assoc]
      exact .rptr (fun j => f (off + j)) hsp (by rw [hb]; exact hlt) (by rw [hb]; exact hM) (fun j d hd => by rw [haa]; exact hc _ d (by rw [← hd, List.getElem?_drop])) (fun j d hd => h _ d (by rw [← hd, List.getElem?_drop]))
  · exact trivial
end

/-!  A symbolic walk over any program, part 5: the other operations, and all of them in one theorem. -/

section
variable {P : Program} {o : Oper} {tm : Env} {H : HL} {gen : Nat}

/-- A part of an aggregate. -/
theorem run_part' {K : Kr} {w : World} {ag : Bool} {n off : Nat} {t : TypeId} {cs : Array Value} {ds : List DV} (hsz : tySz P t n = true) (hag : tyAg P t ag = true) (h1 : ag = true ∨ n = 1) (hl : off + n ≤ ds.length)
    (hs : cs.size = ds.length) (h : ∀ (i : Nat) (d : DV) (c : Value), ds[i]? = some d → cs[i]? = some c → VRel K w d c) :
    ∃ v, (part t cs off).run P w = .ok v w ∧ VRel K w (partOf ag n (ddrop ds off)) v := by
  obtain ⟨i, hi, hn⟩ := tySz_info hsz
  rw [ddrop_eq]
  cases ag with
  | true =>
    refine ⟨.agg (cs.extract off (off + n)), ?_, ?_⟩
    · simp only [part, Sem.run_bind, run_isAgg' hag, run_sizeOf' hi, Result.andThen_ok, if_true, hn, Sem.run_pure]
    · refine .agg (by simp [dtake_eq]; omega) (fun j d c hd hc => ?_)
      rw [dtake_eq] at hd
      have hj : j < n := by
        have := (List.getElem?_eq_some_iff.1 hd).1
        simp at this
        omega
      rw [List.getElem?_take_of_lt hj, List.getElem?_drop] at hd
      rw [Array.getElem?_extract, if_pos (by omega)] at hc
      exact h _ d c hd hc
  | false =>
    have hn1 : n = 1 := by rcases h1 with h | h <;> simp_all
    have hlt : off < cs.size := by omega
    refine ⟨cs[off], ?_, ?_⟩
    · simp only [part, Sem.run_bind, run_isAgg' hag, Result.andThen_ok, Array.getElem?_eq_getElem hlt]
      simp
    · show VRel K w (dget (ds.drop off) 0) _
      rw [dget_get, List.getElem?_drop, Nat.add_zero, List.getElem?_eq_getElem (by omega)]
      exact h off _ _ (List.getElem?_eq_getElem (by omega)) (Array.getElem?_eq_getElem hlt)
theorem stp_fieldv {ag : Bool} {off n : Nat} {x : XA} {t : TypeId} {y : Operand} {i : Nat} {fs : Array Field} {f : Field} (hop : o.op = .field t y i) (ho : okA y x = true) (hu : P.underlying t = some (.struct fs)) (hf : fs[i]? = some f) (hoff : f.offset = off)
    (hsz : tySz P f.type n = true) (hag : tyAg P f.type ag = true) (h1 : ag = true ∨ n = 1) :
    (fieldR ag off n (evT tm x)).all (fun d t wr g => Stp P o x.reads tm H gen d t wr g) (fun _ _ => False) := by
  unfold fieldR
  split
  · rename_i cs hx
    intro hl
    refine Stp.pure fun K a w hr => ?_
    have r1 := okA_rel' hr ho
    rw [hx] at r1
    generalize hy : a.eval y = yv at r1
    cases r1 with
    | @agg _ c hs h =>
      obtain ⟨v, e1, e2⟩ := run_part' (P := P) hsz hag h1 hl hs h
      refine ⟨v, ?_, e2⟩
      simp only [execOp, hop, hy, Instr.field, Sem.run_bind, run_underlying hu, Result.andThen_ok, hf, asAgg, Sem.run_pure, hoff, e1]
  · exact trivial

theorem stp_intBin {x y : XA} {op : BinOp} {t t' : TypeId} {p q : Operand} (hop : o.op = .binOp op t p q t') (h1 : okA p x = true) (h2 : okA q y = true) {k k' : IntKind} {a b : Int} (hx : evT tm x = .v (.int k a)) (hy : evT tm y = .v (.int k' b))
    (hk : orB (kindEq k k') (shiftOp op) = true) : (intBin op k a b).all (fun d t wr g => Stp P o (x.reads ++ y.reads) tm H gen d t wr g) (fun _ _ => False) := by
  have key : ∀ v : Value, (∀ w : World, (binOp op t (.int k a) (.int k' b)).run P w = .ok v w) → Stp P o (x.reads ++ y.reads) tm H gen (.v v) [] [] 0 := by
    intro v hv
    refine Stp.pure fun K ac w hr => ⟨v, ?_, .v v⟩
    have r1 := okA_rel' (reads_l hr) h1
    have r2 := okA_rel' (reads_r hr) h2
    rw [hx] at r1
    rw [hy] at r2
    have e1 := vrel_v r1
    have e2 := vrel_v r2
    have hg : ∀ w, (eqGuard op t p q (.int k a) (.int k' b)).run P w = .ok () w := by
      intro w
      unfold eqGuard
      split <;> rfl
    simp only [execOp, hop, e1, e2, Sem.run_bind, hg, Result.andThen_ok, hv, Sem.run_pure]
  by_cases hs : shiftOp op = true
  · cases op <;> first | (simp [shiftOp] at hs; done) | skip
    all_goals
      intro hb
      refine key _ fun w => ?_
      simp only [binOp, Op.shift]
      rw [if_neg (by omega)]
      rfl
  · have hkk : k = k' := by
      apply kindEq_eq
      have e : shiftOp op = false := by simpa using hs
      rw [e] at hk
      cases hq : kindEq k k' with
      | true => rfl
      | false => rw [hq] at hk; cases hk
    subst hkk
    cases op <;> first | (simp [shiftOp] at hs; done) | skip
    all_goals first
      | (refine key _ fun w => ?_
         simp only [binOp, ne_eq, not_true_eq_false, if_false, Op.intArith, Op.intBits, Op.intCmp, Sem.run_pure]
         done)
      | (refine key _ fun w => ?_
         simp only [binOp, ne_eq, not_true_eq_false, if_false, Op.intArith, Op.intBits, Op.intCmp, Sem.run_pure, bits]
         done)
      | (intro hb
         refine key _ fun w => ?_
         simp only [binOp, ne_eq, not_true_eq_false, if_false, Op.intDiv]
         rw [if_neg hb]
         rfl)
      | (refine key _ fun w => ?_
         simp only [binOp, ne_eq, not_true_eq_false, if_false, Op.intCmp, Sem.run_pure]
         first | done | congr 2)
theorem stp_bin {op : BinOp} {x y : XA} {t t' : TypeId} {p q : Operand} (hop : o.op = .binOp op t p q t') (h1 : okA p x = true) (h2 : okA q y = true) :
    (binR op (evT tm x) (evT tm y)).all (fun d t wr g => Stp P o (x.reads ++ y.reads) tm H gen d t wr g) (fun _ _ => False) := by
  unfold binR
  split
  · rename_i k a k' b hx hy
    unfold onlyIf
    split
    · rename_i hk
      exact stp_intBin hop h1 h2 hx hy hk
    · exact trivial
  · exact trivial
theorem stp_un {op : UnOp} {x : XA} {t : TypeId} {p : Operand} (hop : o.op = .unOp op t p) (h1 : okA p x = true) :
    (unR op (evT tm x)).all (fun d t wr g => Stp P o x.reads tm H gen d t wr g) (fun _ _ => False) := by
  unfold unR
  split
  · rename_i b hx
    split
    · refine Stp.pure fun K a w hr => ?_
      have r1 := okA_rel' hr h1
      rw [hx] at r1
      have e1 := vrel_v r1
      exact ⟨.bool (!b), by simp [execOp, hop, e1, Op.unary], .v _⟩
    · exact trivial
  · rename_i k n hx
    split
    · refine Stp.pure fun K a w hr => ?_
      have r1 := okA_rel' hr h1
      rw [hx] at r1
      have e1 := vrel_v r1
      exact ⟨_, by simp only [execOp, hop, e1, Op.unary, Op.intArith, Sem.run_bind, Sem.run_pure, Result.andThen_ok], .v _⟩
    · refine Stp.pure fun K a w hr => ?_
      have r1 := okA_rel' hr h1
      rw [hx] at r1
      have e1 := vrel_v r1
      refine ⟨.int k (bits .xor k (bif k.signed then -1 else k.max) n), ?_, .v _⟩
      have e : (bif k.signed then (-1 : Int) else k.max) = (if k.signed then -1 else k.max) := by cases k.signed <;> rfl
      simp only [execOp, hop, e1, Op.unary, intBits_xor, Sem.run_bind, Sem.run_pure, Result.andThen_ok, e]
    · exact trivial
  · exact trivial
theorem stp_conv {k k' : IntKind} {x : XA} {s d : TypeId} {p : Operand} (hop : o.op = .convert s d p) (h1 : okA p x = true) {ds : TypeDesc} (hs : P.underlying s = some ds) (hd : P.underlying d = some (.int k')) (hk : kindEq k k' = true) :
    (convR k (evT tm x)).all (fun d t wr g => Stp P o x.reads tm H gen d t wr g) (fun _ _ => False) := by
  unfold convR
  split
  · rename_i k0 n hx
    refine Stp.pure fun K a w hr => ?_
    have r1 := okA_rel' hr h1
    rw [hx] at r1
    have e1 := vrel_v r1
    refine ⟨_, ?_, .v _⟩
    rw [kindEq_eq hk]
    simp [execOp, hop, e1, convert, run_underlying hs, run_underlying hd, Conv.intToInt]
  · exact trivial
theorem stp_ext {i : Nat} {x : XA} {p : Operand} (hop : o.op = .extract p i) (h1 : okA p x = true) :
    (extR i (evT tm x)).all (fun d t wr g => Stp P o x.reads tm H gen d t wr g) (fun _ _ => False) := by
  unfold extR
  split
  · rename_i cs hx
    intro hl
    refine Stp.pure fun K a w hr => ?_
    have r1 := okA_rel' hr h1
    rw [hx] at r1
    generalize hy : a.eval p = yv at r1
    cases r1 with
    | @tup _ c hs h =>
      have hlt : i < c.size := by omega
      refine ⟨c[i], by simp [execOp, hop, hy, Instr.extract, Array.getElem?_eq_getElem hlt], ?_⟩
      rw [dget_get, List.getElem?_eq_getElem hl]
      exact h i _ _ (List.getElem?_eq_getElem hl) (Array.getElem?_eq_getElem hlt)
  · rename_i vs hx
    intro hl
    refine Stp.pure fun K a w hr => ?_
    have r1 := okA_rel' hr h1
    rw [hx] at r1
    have e1 := vrel_v r1
    refine ⟨vs.getD i undef, ?_, .v _⟩
    simp [execOp, hop, e1, Instr.extract, Array.getElem?_eq_getElem hl, Array.getD, hl]
  · exact trivial
theorem stp_len {x : XA} {p : Operand} {t e : TypeId} {c : Call} (hop : o.op = .call c) (hc : c.callee = .builtin .len) (ha : c.args = #[p]) (hat : c.argTypes = #[t]) (h1 : okA p x = true) (hu : P.underlying t = some (.slice e)) :
    (lenR (evT tm x)).all (fun d t wr g => Stp P o x.reads tm H gen d t wr g) (fun _ _ => False) := by
  have hrun : ∀ (a : Act) (w : World) (A : Option Addr) (n cp : Nat), a.eval p = .slice A n cp → (execOp a.eval o).run P w = .ok (.value (.int .i64 n)) w := by
    intro a w A n cp hy
    simp [execOp, hop, resolve, hc, ha, hat, hy, invoke, builtin, Builtin.len_, run_underlying hu, goInt]
  unfold lenR
  split
  · rename_i hx
    refine Stp.pure fun K a w hr => ?_
    have r1 := okA_rel' hr h1
    rw [hx] at r1
    generalize hy : a.eval p = yv at r1
    cases r1 with
    | sl hlc hf h => exact ⟨_, hrun a w _ _ _ hy, .v _⟩
  · rename_i hx
    refine Stp.pure fun K a w hr => ?_
    have r1 := okA_rel' hr h1
    rw [hx] at r1
    generalize hy : a.eval p = yv at r1
    cases r1 with
    | snap f hl hlc hc hs ha hcell h => exact ⟨_, hrun a w _ _ _ hy, by rw [hl]; exact .v _⟩
  · rename_i hx
    refine Stp.pure fun K a w hr => ?_
    have r1 := okA_rel' hr h1
    rw [hx] at r1
    exact ⟨_, hrun a w _ _ _ (vrel_v r1), .v _⟩
  · exact trivial
theorem add_add (ad : Addr) (i j : Nat) : (ad.add i).add j = ad.add (i + j) := by
  unfold Addr.add
  by_cases h1 : i = 0 <;> by_cases h2 : j = 0 <;> simp [h1, h2, Nat.add_assoc]
theorem stp_indexSl {sz : Nat} {x i : XA} {p q : Operand} {t e : TypeId} (hop : o.op = .indexAddr t p q) (h1 : okA p x = true) (h2 : okA q i = true) (hu : P.underlying t = some (.slice e)) (hsz : tySz P e sz = true) :
    (indexSlR sz (evT tm x) (evT tm i)).all (fun d t wr g => Stp P o (x.reads ++ i.reads) tm H gen d t wr g) (fun _ _ => False) := by
  obtain ⟨inf, hinf, hn⟩ := tySz_info hsz
  have hrun : ∀ (a : Act) (w : World) (ad : Addr) (n cp : Nat) (k : IntKind) (m : Int), a.eval p = .slice (some ad) n cp → a.eval q = .int k m → 0 ≤ m → m < n → (execOp a.eval o).run P w = .ok (.value (.pointer (some (ad.add (m.toNat * sz))))) w := by
    intro a w ad n cp k m e1 e2 e3 e4
    simp only [execOp, hop, e1, e2, Instr.indexAt, asIntOf, Sem.run_bind, Sem.run_pure, Result.andThen_ok, run_underlying hu]
    rw [if_pos ⟨e3, e4⟩]
    simp [run_sizeOf' hinf, hn]
  unfold indexSlR
  split
  · rename_i k n sz' lo len full kk m hx hi
    intro hss hbd
    subst hss
    refine Stp.pure fun K a w hr => ?_
    have r1 := okA_rel' (reads_l hr) h1
    have r2 := okA_rel' (reads_r hr) h2
    rw [hx] at r1
    rw [hi] at r2
    have e2 := vrel_v r2
    generalize hy : a.eval p = yv at r1
    cases r1 with
    | sl hlc hf h =>
      rcases h with h | ⟨hreal, hA, _⟩
      · omega
      · subst hA
        refine ⟨_, hrun a w _ _ _ _ _ hy e2 hbd.1 hbd.2, ?_⟩
        rw [addr_add, show lo * sz' + m.toNat * sz' = (lo + m.toNat) * sz' + 0 by rw [Nat.add_mul]; rfl]
        exact .ptr hreal
  · rename_i sz' xs clip kk m hx hi
    intro hss hbd
    subst hss
    refine Stp.pure fun K a w hr => ?_
    have r1 := okA_rel' (reads_l hr) h1
    have r2 := okA_rel' (reads_r hr) h2
    rw [hx] at r1
    rw [hi] at r2
    have e2 := vrel_v r2
    generalize hy : a.eval p = yv at r1
    cases r1 with
    | snap f hl hlc hc hs ha hcell h =>
      obtain ⟨ad, rfl, hsp, hlt, hM⟩ := ha (by omega)
      have hi' : m.toNat < xs.length := by omega
      refine ⟨_, hrun a w _ _ _ _ _ hy e2 hbd.1 (by omega), ?_⟩
      have hxg : xs[m.toNat]? = some (xget xs m.toNat) := by rw [xget_get, List.getElem?_eq_getElem hi']; rfl
      have hb : (ad.add (m.toNat * sz')).block = ad.block := by unfold Addr.add; split <;> rfl
      have hsp' : (ad.add (m.toNat * sz')).spot = none := by unfold Addr.add; split <;> simp_all
      refine .rptr (fun j => f m.toNat j) hsp' (by rw [hb]; exact hlt) (by rw [hb]; exact hM) (fun j d hd => ?_) (fun j d hd => h _ _ j d hxg hd)
      rw [add_add]
      exact hcell ad _ _ j d rfl hxg hd
  · exact trivial

theorem stp_indexArr {sz n m : Nat} {x i : XA} {p q : Operand} {t e : TypeId} (hop : o.op = .indexAddr t p q) (h1 : okA p x = true) (h2 : okA q i = true) (hu : P.underlying t = some (.array m e)) (hsz : tySz P e sz = true) (hm : m = n) :
    (indexArrR sz n (evT tm x) (evT tm i)).all (fun d t wr g => Stp P o (x.reads ++ i.reads) tm H gen d t wr g) (fun _ _ => False) := by
  obtain ⟨inf, hinf, hn⟩ := tySz_info hsz
  subst hm
  have hrun : ∀ (a : Act) (w : World) (ad : Addr) (k : IntKind) (v : Int), a.eval p = .pointer (some ad) → a.eval q = .int k v → 0 ≤ v → v < m → (execOp a.eval o).run P w = .ok (.value (.pointer (some (ad.add (v.toNat * sz))))) w := by
    intro a w ad k v e1 e2 e3 e4
    simp only [execOp, hop, e1, e2, Instr.indexAt, Instr.sureAddr, asIntOf, Sem.run_bind, Sem.run_pure, Result.andThen_ok, run_underlying hu]
    rw [if_pos ⟨e3, e4⟩]
    simp [run_sizeOf' hinf, hn]
  unfold indexArrR
  split
  · rename_i k nm s i' j kk v hx hi
    intro hbd
    refine Stp.pure fun K a w hr => ?_
    have r1 := okA_rel' (reads_l hr) h1
    have r2 := okA_rel' (reads_r hr) h2
    rw [hx] at r1
    rw [hi] at r2
    have e2 := vrel_v r2
    generalize hy : a.eval p = yv at r1
    cases r1 with
    | ptr hreal =>
      refine ⟨_, hrun a w _ _ _ hy e2 hbd.1 hbd.2, ?_⟩
      rw [addr_add, Nat.add_assoc]
      exact .ptr hreal
  · rename_i xx kk v hx hi
    intro hbd
    refine Stp.pure fun K a w hr => ?_
    have r1 := okA_rel' (reads_l hr) h1
    have r2 := okA_rel' (reads_r hr) h2
    rw [hx] at r1
    rw [hi] at r2
    have e2 := vrel_v r2
    generalize hy : a.eval p = yv at r1
    cases r1 with
    | @rptr _ ad f hs hlt hM hc h =>
      refine ⟨_, hrun a w _ _ _ hy e2 hbd.1 hbd.2, ?_⟩
      rw [ddrop_eq]
      have hb : (ad.add (v.toNat * sz)).block = ad.block := by unfold Addr.add; split <;> rfl
      have hsp : (ad.add (v.toNat * sz)).spot = none := by unfold Addr.add; split <;> simp_all
      exact .rptr (fun j => f (v.toNat * sz + j)) hsp (by rw [hb]; exact hlt) (by rw [hb]; exact hM) (fun j d hd => by rw [add_add]; exact hc _ d (by rw [← hd, List.getElem?_drop])) (fun j d hd => h _ d (by rw [← hd, List.getElem?_drop]))
  · exact trivial

/-! Aggregates and slices that are written out. -/
theorem foldl_cells (off : Nat) : ∀ (l : List Value) (k : Nat) (cs : Array Value), (l.zipIdx k).foldl (fun cs (p : Value × Nat) => cs.setIfInBounds (off + p.2) p.1) cs =
    (l.zipIdx k).foldl (fun cs (p : Value × Nat) => cs.setIfInBounds (off + p.2) p.1) cs := fun _ _ _ => rfl
theorem foldl_set_get (off : Nat) : ∀ (l : List Value) (k : Nat) (cs : Array Value) (i : Nat), off + k + l.length ≤ cs.size →
    ((l.zipIdx k).foldl (fun cs (p : Value × Nat) => cs.setIfInBounds (off + p.2) p.1) cs)[i]? = if off + k ≤ i ∧ i < off + k + l.length then l[i - (off + k)]? else cs[i]?
  | [], k, cs, i, h => by
    simp only [List.zipIdx_nil, List.foldl_nil, List.length_nil, Nat.add_zero]
    rw [if_neg (by omega)]
  | v :: r, k, cs, i, h => by
    simp only [List.length_cons] at h
    simp only [List.zipIdx_cons, List.foldl_cons, List.length_cons]
    rw [foldl_set_get off r (k + 1) _ i (by simp; omega)]
    by_cases h1 : i = off + k
    · subst h1
      have hlt : off + k < cs.size := by omega
      rw [if_neg (by omega), if_pos (by omega), Nat.sub_self]
      simp [hlt]
    · rw [Array.getElem?_setIfInBounds_ne (by omega)]
      by_cases h2 : off + (k + 1) ≤ i ∧ i < off + (k + 1) + r.length
      · rw [if_pos h2, if_pos (by omega), show i - (off + k) = i - (off + (k + 1)) + 1 by omega]
        simp
      · rw [if_neg h2, if_neg (by omega)]
theorem fill_one {cs : Array Value} {v : Value} {off : Nat} (h : off + v.cells.size ≤ cs.size) (i : Nat) :
    (v.cells.zipIdx.foldl (fun cs (p : Value × Nat) => cs.setIfInBounds (off + p.2) p.1) cs)[i]? = if off ≤ i ∧ i < off + v.cells.size then v.cells[i - off]? else cs[i]? := by
  have e : v.cells.zipIdx.foldl (fun cs (p : Value × Nat) => cs.setIfInBounds (off + p.2) p.1) cs = (v.cells.toList.zipIdx 0).foldl (fun cs (p : Value × Nat) => cs.setIfInBounds (off + p.2) p.1) cs := by
    rw [← Array.foldl_toList]
    congr 1
    simp [Array.toList_zipIdx]
  rw [e, foldl_set_get off _ 0 cs i (by simpa using h)]
  simp
theorem fill_size : ∀ (l : List (Value × Nat)) (off : Nat) (cs : Array Value), (l.foldl (fun cs (p : Value × Nat) => cs.setIfInBounds (off + p.2) p.1) cs).size = cs.size
  | [], _, _ => rfl
  | x :: r, off, cs => by simp only [List.foldl_cons]; rw [fill_size r off]; simp
end

/-!  A symbolic walk over any program, part 6: aggregates that are written out; calls; all operations in one theorem. -/

section
variable {P : Program} {o : Oper} {tm : Env} {H : HL} {gen : Nat}

theorem run_listMapM {α β : Type} {f : α → Sem β} {g : α → β} {w : World} : ∀ (l : List α), (∀ x ∈ l, (f x).run P w = .ok (g x) w) → (l.mapM f).run P w = .ok (l.map g) w
  | [], _ => by simp [List.mapM_nil]
  | x :: r, h => by
    have h1 := h x (by simp)
    have h2 := run_listMapM r (fun y hy => h y (by simp [hy]))
    simp [List.mapM_cons, h1, h2]
theorem run_arrMapM {α β : Type} {f : α → Sem β} {g : α → β} {w : World} (a : Array α) (h : ∀ x ∈ a.toList, (f x).run P w = .ok (g x) w) : (a.mapM f).run P w = .ok (a.toList.map g).toArray w := by
  rw [Array.mapM_eq_mapM_toList]
  have := run_listMapM (P := P) (w := w) a.toList h
  simp [this]

theorem run_zeroValue' {t : TypeId} {i : TypeInfo} {z : Value} (h1 : P.info? t = some i) (h2 : i.zero = some z) (w : World) : (zeroValue t).run P w = .ok z w := by simp [zeroValue, typeInfo, h1, h2]
/-- Cells in which each part is laid over what was there. -/
def CellsRel (K : Kr) (w : World) (ds : List DV) (cs : Array Value) : Prop := cs.size = ds.length ∧ ∀ (i : Nat) (d : DV) (c : Value), ds[i]? = some d → cs[i]? = some c → VRel K w d c
theorem fill_step {K : Kr} {w : World} {ds ps : List DV} {cs : Array Value} {v : Value} {off : Nat} (h : CellsRel K w ds cs) (hv : CellsRel K w ps v.cells) (hb : off + ps.length ≤ ds.length) :
    CellsRel K w (splice ds off ps) (v.cells.zipIdx.foldl (fun cs (p : Value × Nat) => cs.setIfInBounds (off + p.2) p.1) cs) := by
  have hsz : (v.cells.zipIdx.foldl (fun cs (p : Value × Nat) => cs.setIfInBounds (off + p.2) p.1) cs).size = cs.size := by
    rw [← Array.foldl_toList]; exact fill_size _ off cs
  refine ⟨by rw [hsz, splice_length]; exact h.1, fun i d c hd hc => ?_⟩
  have hi : i < ds.length := by have := (List.getElem?_eq_some_iff.1 hd).1; rwa [splice_length] at this
  rw [splice_get _ _ _ _ hi] at hd
  rw [fill_one (by rw [hv.1, h.1]; exact hb), hv.1] at hc
  by_cases hin : off ≤ i ∧ i < off + ps.length
  · rw [if_pos hin] at hd hc
    exact hv.2 _ d c hd hc
  · rw [if_neg hin] at hd hc
    exact h.2 i d c hd hc
theorem fill_rel {K : Kr} {a : Act} {w : World} {fs : List (Nat × Nat)} {place : Nat → Option (Nat × Nat)} (hp : ∀ i p, fs[i]? = some p → place i = some p) : ∀ {ps : List (Nat × Operand)} {parts : List (Nat × Nat × XA)} {ds : List DV} {cs : Array Value},
    okParts fs ps parts = true → partsOk tm ds.length parts = true → (∀ s ∈ parts.flatMap (·.2.2.reads), VRel K w (tm.get s) (a.tmps.getD s.nat undef)) → CellsRel K w ds cs →
    ∃ cs', Instr.fill place cs (ps.map fun p => (p.1, a.eval p.2)) = some cs' ∧ CellsRel K w (partsD tm parts ds) cs'
  | [], [], ds, cs, _, _, _, h => ⟨cs, rfl, h⟩
  | [], _ :: _, _, _, h, _, _, _ => by simp [okParts] at h
  | _ :: _, [], _, _, h, _, _, _ => by simp [okParts] at h
  | (i, x) :: ps, (off, n, y) :: parts, ds, cs, h, hk, hr, hc => by
    simp only [okParts, Bool.and_eq_true] at h
    simp only [partsOk, andB_eq, decide_eq_true_eq] at hk
    obtain ⟨⟨h1, h2⟩, h3⟩ := h
    obtain ⟨⟨k1, k2⟩, k3, k4⟩ := hk
    split at h1
    · rename_i o' z' hfi
      simp only [Bool.and_eq_true, decide_eq_true_eq] at h1
      obtain ⟨rfl, rfl⟩ := h1
      have rv : VRel K w (evT tm y) (a.eval x) := okA_rel' (fun s hs => hr s (List.mem_flatMap.2 ⟨_, List.mem_cons_self, hs⟩)) h2
      obtain ⟨c1, c2, c3⟩ := cells_rel rv k1
      have hl := lenB_eq k2
      have hstep := fill_step (off := o') (v := a.eval x) hc ⟨c1, c2⟩ (by rw [hl]; exact k3)
      obtain ⟨cs', e1, e2⟩ := fill_rel hp (ps := ps) (parts := parts) h3 (by rw [splice_length]; exact k4) (fun s hs => hr s (by
        obtain ⟨q, hq, hs'⟩ := List.mem_flatMap.1 hs
        exact List.mem_flatMap.2 ⟨q, List.mem_cons_of_mem _ hq, hs'⟩)) hstep
      refine ⟨cs', ?_, e2⟩
      simp only [List.map_cons, Instr.fill, hp _ _ hfi]
      have hcond : ¬ ((a.eval x).cells.size ≠ z' ∨ o' + (a.eval x).cells.size > cs.size) := by
        rintro (h | h)
        · exact h (by rw [c1, hl])
        · rw [c1, hl, hc.1] at h
          omega
      rw [if_neg (by simpa using hcond)]
      exact e1
    · cases h1
theorem zero_rel {K : Kr} {w : World} {z : Value} : CellsRel K w (mapV z.cells.toList) z.cells := by
  refine ⟨by rw [mapV_length]; simp, fun i d c hd hc => ?_⟩
  rw [mapV_get] at hd
  have : z.cells.toList[i]? = some c := by rw [Array.getElem?_toList]; exact hc
  rw [this] at hd
  simp at hd
  rw [← hd]
  exact .v c
theorem stp_build {zs : List Value} {parts : List (Nat × Nat × XA)} {t : TypeId} {ps : Array (Nat × Operand)} (hop : o.op = .build t ps) (hz : tyZero P t zs = true) {fs : List (Nat × Nat)} (hpl : places P t = some fs) (hok : okParts fs ps.toList parts = true)
    (hinf : (match P.underlying t with | some (.struct fs) => fs.toList.all (fun f => (P.info? f.type).isSome) | some (.array _ e) => (P.info? e).isSome | _ => false) = true) (hk : partsOk tm zs.length parts = true) :
    Stp P o (parts.flatMap (·.2.2.reads)) tm H gen (.agg (partsD tm parts (mapV zs))) [] [] 0 := by
  obtain ⟨i, z, h1, h2, h3, h4⟩ := tyZero_info hz
  refine Stp.pure fun K a w hr => ?_
  have hcell : ∀ t' i', P.info? t' = some i' → P.cellsOf t' = i'.size := fun t' i' h => by simp [Program.cellsOf, h]
  unfold places at hpl
  split at hpl
  · rename_i fsA hu
    obtain rfl := Option.some.inj hpl
    rw [hu] at hinf
    have hmap := run_arrMapM (P := P) (w := w) (f := fun (f : Field) => do pure (f.offset, ← sizeOf f.type)) (g := fun f => (f.offset, P.cellsOf f.type)) fsA (fun f hf => by
      have hs := List.all_eq_true.1 hinf f hf
      obtain ⟨i', hi'⟩ := Option.isSome_iff_exists.1 hs
      simp [run_sizeOf' hi', hcell _ _ hi'])
    obtain ⟨cs', e1, e2⟩ := fill_rel (tm := tm) (K := K) (a := a) (w := w) (place := fun i => (fsA.toList.map fun f => (f.offset, P.cellsOf f.type)).toArray[i]?) (fun i p hp => by simpa using hp) hok (ds := mapV zs) (cs := z.cells) (by rw [mapV_length]; exact hk) hr (by rw [← h3]; exact zero_rel)
    refine ⟨.agg cs', ?_, .agg e2.1 e2.2⟩
    have e0 : (Array.map (fun (x : Nat × Operand) => (x.1, a.eval x.2)) ps).toList = ps.toList.map fun p => (p.1, a.eval p.2) := by simp
    simp only [execOp, hop, Instr.build, Sem.run_bind, run_zeroValue' h1 h2, Result.andThen_ok, Sem.run_pure, run_underlying hu, hmap, e0]
    rw [e1]
    rfl
  · rename_i n e hu
    obtain rfl := Option.some.inj hpl
    rw [hu] at hinf
    obtain ⟨i', hi'⟩ := Option.isSome_iff_exists.1 hinf
    have hce := hcell _ _ hi'
    obtain ⟨cs', e1, e2⟩ := fill_rel (tm := tm) (K := K) (a := a) (w := w) (place := fun i => some (i * i'.size, i'.size)) (fun i p hp => by
      rw [hce] at hp
      rw [List.getElem?_map] at hp
      by_cases hq : i < n
      · rw [List.getElem?_range hq] at hp
        exact hp
      · rw [List.getElem?_eq_none (by simpa using hq)] at hp
        cases hp) hok (ds := mapV zs) (cs := z.cells) (by rw [mapV_length]; exact hk) hr (by rw [← h3]; exact zero_rel)
    refine ⟨.agg cs', ?_, .agg e2.1 e2.2⟩
    have e0 : (Array.map (fun (x : Nat × Operand) => (x.1, a.eval x.2)) ps).toList = ps.toList.map fun p => (p.1, a.eval p.2) := by simp
    simp only [execOp, hop, Instr.build, Sem.run_bind, run_zeroValue' h1 h2, Result.andThen_ok, Sem.run_pure, run_underlying hu, run_sizeOf' hi', e0]
    rw [e1]
    rfl
  · cases hpl

/-! A slice that is written out. -/
theorem repl_get (x : List DV) : ∀ (k i : Nat), (repl x k)[i]? = if i < k then some x else none
  | 0, i => by simp [repl]
  | k + 1, 0 => by simp [repl]
  | k + 1, i + 1 => by simp [repl, repl_get x k i]
theorem repl_length (x : List DV) : ∀ k, (repl x k).length = k
  | 0 => rfl
  | k + 1 => by simp [repl, repl_length x k]
/-- Elements laid in a row of cells. -/
def RowRel (K : Kr) (w : World) (sz : Nat) (xs : List (List DV)) (cs : Array Value) : Prop :=
  cs.size = xs.length * sz ∧ (∀ x ∈ xs, x.length = sz) ∧ ∀ (i : Nat) (x : List DV) (j : Nat) (d : DV), xs[i]? = some x → x[j]? = some d → ∃ c, cs[i * sz + j]? = some c ∧ VRel K w d c
theorem row_step {K : Kr} {w : World} {sz i : Nat} {xs : List (List DV)} {ps : List DV} {cs : Array Value} {v : Value} (h : RowRel K w sz xs cs) (hv : CellsRel K w ps v.cells) (hi : i < xs.length) (hps : ps.length = sz) :
    RowRel K w sz (xset xs i ps) (v.cells.zipIdx.foldl (fun cs (p : Value × Nat) => cs.setIfInBounds (i * sz + p.2) p.1) cs) := by
  have hle : i * sz + v.cells.size ≤ cs.size := by
    rw [hv.1, hps, h.1]
    have : (i + 1) * sz ≤ xs.length * sz := Nat.mul_le_mul_right _ hi
    rw [Nat.add_mul, Nat.one_mul] at this
    exact this
  have hsz : (v.cells.zipIdx.foldl (fun cs (p : Value × Nat) => cs.setIfInBounds (i * sz + p.2) p.1) cs).size = cs.size := by
    rw [← Array.foldl_toList]; exact fill_size _ _ cs
  refine ⟨by rw [hsz, xset_length]; exact h.1, fun x hx => ?_, fun i' x j d hx hd => ?_⟩
  · obtain ⟨q, hq⟩ := List.mem_iff_getElem?.1 hx
    rw [xset_get] at hq
    by_cases e : q = i
    · rw [if_pos e, if_pos hi] at hq
      obtain rfl := Option.some.inj hq
      exact hps
    · rw [if_neg e] at hq
      exact h.2.1 x (List.mem_of_getElem? hq)
  · rw [fill_one hle, hv.1, hps]
    rw [xset_get] at hx
    by_cases e : i' = i
    · rw [if_pos e, if_pos hi] at hx
      obtain rfl := Option.some.inj hx
      subst e
      have hj : j < ps.length := (List.getElem?_eq_some_iff.1 hd).1
      rw [if_pos (by omega), show i' * sz + j - i' * sz = j by omega]
      have hj' : j < v.cells.size := by rw [hv.1]; exact hj
      exact ⟨_, Array.getElem?_eq_getElem hj', hv.2 j d _ hd (Array.getElem?_eq_getElem hj')⟩
    · rw [if_neg e] at hx
      have hj : j < sz := by rw [← h.2.1 x (List.mem_of_getElem? hx)]; exact (List.getElem?_eq_some_iff.1 hd).1
      rw [if_neg]
      · exact h.2.2 i' x j d hx hd
      · rcases Nat.lt_or_ge i' i with hlt | hge
        · have : (i' + 1) * sz ≤ i * sz := Nat.mul_le_mul_right _ hlt
          rw [Nat.add_mul, Nat.one_mul] at this
          omega
        · have : (i + 1) * sz ≤ i' * sz := Nat.mul_le_mul_right _ (by omega)
          rw [Nat.add_mul, Nat.one_mul] at this
          omega
theorem row_fill {K : Kr} {a : Act} {w : World} {sz len : Nat} : ∀ {ps : List (Nat × Operand)} {parts : List (Nat × XA)} {xs : List (List DV)} {cs : Array Value},
    okEParts ps parts = true → partsEOk tm len sz parts = true → (∀ s ∈ parts.flatMap (·.2.reads), VRel K w (tm.get s) (a.tmps.getD s.nat undef)) → xs.length = len → RowRel K w sz xs cs →
    ∃ cs', Instr.fill (fun i => some (i * sz, sz)) cs (ps.map fun p => (p.1, a.eval p.2)) = some cs' ∧ RowRel K w sz (partsE tm parts xs) cs' ∧ (partsE tm parts xs).length = len
  | [], [], xs, cs, _, _, _, hl, h => ⟨cs, rfl, h, hl⟩
  | [], _ :: _, _, _, h, _, _, _, _ => by simp [okEParts] at h
  | _ :: _, [], _, _, h, _, _, _, _ => by simp [okEParts] at h
  | (i, x) :: ps, (j, y) :: parts, xs, cs, h, hk, hr, hlen, hc => by
    simp only [okEParts, Bool.and_eq_true, decide_eq_true_eq] at h
    simp only [partsEOk, andB_eq, decide_eq_true_eq] at hk
    obtain ⟨⟨h1, h2⟩, h3⟩ := h
    obtain ⟨⟨k1, k2⟩, k3, k4⟩ := hk
    subst h1
    have rv : VRel K w (evT tm y) (a.eval x) := okA_rel' (fun s hs => hr s (List.mem_flatMap.2 ⟨_, List.mem_cons_self, hs⟩)) h2
    obtain ⟨c1, c2, c3⟩ := cells_rel rv k1
    have hl := lenB_eq k2
    have hstep := row_step (v := a.eval x) hc ⟨c1, c2⟩ (by rw [hlen]; exact k3) hl
    obtain ⟨cs', e1, e2, e3⟩ := row_fill (ps := ps) (parts := parts) h3 k4 (fun s hs => hr s (by
      obtain ⟨q, hq, hs'⟩ := List.mem_flatMap.1 hs
      exact List.mem_flatMap.2 ⟨q, List.mem_cons_of_mem _ hq, hs'⟩)) (by rw [xset_length]; exact hlen) hstep
    refine ⟨cs', ?_, e2, e3⟩
    simp only [List.map_cons, Instr.fill]
    have hcond : ¬ ((a.eval x).cells.size ≠ sz ∨ i * sz + (a.eval x).cells.size > cs.size) := by
      rintro (h | h)
      · exact h (by rw [c1, hl])
      · rw [c1, hl, hc.1, hlen] at h
        have : (i + 1) * sz ≤ len * sz := Nat.mul_le_mul_right _ k3
        rw [Nat.add_mul, Nat.one_mul] at this
        omega
    rw [if_neg (by simpa using hcond)]
    exact e1
theorem stp_buildSlice {k len n : Nat} {zs : List Value} {parts : List (Nat × XA)} {t e : TypeId} {ps : Array (Nat × Operand)} (hop : o.op = .buildSlice t n ps) (hn : n = len) (hu : P.underlying t = some (.slice e)) (hz : tyZero P e zs = true) (hpos : 0 < zs.length) (hmax : len * zs.length ≤ 2 ^ 24)
    (hok : okEParts ps.toList parts = true) (hk : partsEOk tm len zs.length parts = true) :
    Stp P o (parts.flatMap (·.2.reads)) tm H gen (.sl k gen zs.length 0 len true) [k] [(k, some ⟨gen, zs.length, partsE tm parts (repl (mapV zs) len)⟩)] 1 := by
  obtain ⟨i, z, h1, h2, h3, h4⟩ := tyZero_info hz
  subst hn
  intro Γ K H' a w Q next hI ht hr hf hg0 hnext
  have hzs : z.cells.size = zs.length := by rw [← h3]; simp
  have hrow : RowRel K w zs.length (repl (mapV zs) n) ((Array.range (n * zs.length)).map (z.cells[· % z.cells.size]!)) := by
    refine ⟨by simp [repl_length], fun x hx => ?_, fun i' x j d hx hd => ?_⟩
    · obtain ⟨q, hq⟩ := List.mem_iff_getElem?.1 hx
      rw [repl_get] at hq
      split at hq
      · obtain rfl := Option.some.inj hq; exact mapV_length zs
      · cases hq
    · rw [repl_get] at hx
      split at hx
      · rename_i hi
        obtain rfl := Option.some.inj hx
        have hj : j < zs.length := by rw [← mapV_length zs]; exact (List.getElem?_eq_some_iff.1 hd).1
        have hlt : i' * zs.length + j < n * zs.length := by
          have : (i' + 1) * zs.length ≤ n * zs.length := Nat.mul_le_mul_right _ hi
          rw [Nat.add_mul, Nat.one_mul] at this
          omega
        have hmod : (i' * zs.length + j) % zs.length = j := by rw [Nat.add_comm, Nat.add_mul_mod_self_right]; exact Nat.mod_eq_of_lt hj
        rw [mapV_get, ← h3, Array.getElem?_toList, Array.getElem?_eq_getElem (by rw [hzs]; exact hj)] at hd
        simp at hd
        refine ⟨z.cells[j]'(by rw [hzs]; exact hj), ?_, by rw [← hd]; exact .v _⟩
        have hlt' : j < z.cells.size := by rw [hzs]; exact hj
        simp [hlt, hzs, hmod, hlt']
        exact getElem!_pos z.cells j hlt'
      · cases hx
  obtain ⟨cs', e1, e2, e3⟩ := row_fill (tm := tm) (K := K) (a := a) (w := w) hok hk hr (repl_length _ _) hrow
  have hg : ¬ K.dom gen := hf gen (Nat.le_refl _) (by omega)
  have e0 : (Array.map (fun (x : Nat × Operand) => (x.1, a.eval x.2)) ps).toList = ps.toList.map fun p => (p.1, a.eval p.2) := by simp
  have hrun : (execOp a.eval o).run P w = .ok (.value (.slice (some ⟨w.heap.size, 0, none⟩) n n)) (w.alloc (.cells cs' e)) := by
    simp only [execOp, hop, Instr.buildSlice, Sem.run_bind, run_underlying hu, run_sizeOf' h1, h4, Result.andThen_ok]
    rw [if_neg (by omega)]
    by_cases h0 : n * zs.length = 0
    · have hs0 : (Array.range (n * zs.length)).map (fun x => (#[] : Array Value)[x % (#[] : Array Value).size]!) = (Array.range (n * zs.length)).map (z.cells[· % z.cells.size]!) := by rw [h0]; simp
      rw [if_pos h0]
      simp only [Sem.run_bind, Sem.run_pure, Result.andThen_ok, hs0, e0]
      rw [e1]
      rfl
    · rw [if_neg h0]
      simp only [Sem.run_bind, run_zeroValue' h1 h2, Sem.run_pure, Result.andThen_ok, e0]
      rw [e1]
      rfl
  refine wp_value hrun (hnext (K.add gen w.heap.size) _ _ (mono_alloc _ (fun h => hg (hI.dr _ h))) ?_ ?_ ?_)
  · rw [updF_one]
    exact inv_add hI hg hg0 (by rw [e2.1]; exact Nat.le_refl _) e2.2.1 e2.2.2
  · refine .sl (Nat.le_refl _) (fun _ => rfl) (.inr ⟨.inr rfl, ?_, cs', e, (0, 0), ?_, ?_, fun h => by cases h⟩)
    · simp [Kr.add]
    · simp only [Kr.add, if_true]; exact heap_new w _
    · rw [e2.1, e3]; simp
  · intro m hm
    rcases hm with h | h
    · exact .inl h
    · exact .inr (by omega)

/-! Equality of aggregates. -/
def eqc : Nat → Value → Value → Option Bool
  | 0, .int k a, .int k' b => match kindEq k k' with
    | true => some (decide (a = b))
    | false => none
  | 1, .bool a, .bool b => some (a == b)
  | 2, .string a, .string b => some (decide (a = b))
  | _, _, _ => none
theorem bytes_eq (a b : ByteArray) : (a.toList == b.toList) = decide (a = b) := by
  rw [← beq_toListBytes]
  obtain ⟨⟨x⟩⟩ := a
  obtain ⟨⟨y⟩⟩ := b
  show ((⟨x⟩ : Array UInt8) == ⟨y⟩) = _
  by_cases h : x = y
  · subst h
    simp
  · have h2 : ¬ ((⟨⟨x⟩⟩ : ByteArray) = ⟨⟨y⟩⟩) := fun e => h (by injection e with e; injection e)
    rw [decide_eq_false h2]
    simp [h]
/-- Cells from a place on, of these kinds, in both. -/
def Cmp (ks : List Nat) (xs ys : Array Value) (off : Nat) : Prop := ∀ (i q : Nat), ks[i]? = some q → ∃ c c' b, xs[off + i]? = some c ∧ ys[off + i]? = some c' ∧ eqc q c c' = some b
def AllEq (ks : List Nat) (xs ys : Array Value) (off : Nat) : Prop := ∀ (i q : Nat) (c c' : Value), ks[i]? = some q → xs[off + i]? = some c → ys[off + i]? = some c' → eqc q c c' = some true
def EqAt (P : Program) (w : World) (D : Nat) (t : TypeId) (ks : List Nat) : Prop := ∀ (xs ys : Array Value) (off : Nat), Cmp ks xs ys off →
  ∃ a b r, (part t xs off).run P w = .ok a w ∧ (part t ys off).run P w = .ok b w ∧ (Op.equalIn D t a b).run P w = .ok r w ∧ (r = true ↔ AllEq ks xs ys off)
theorem cmp_l {ks l : List Nat} {xs ys : Array Value} {off : Nat} (h : Cmp (ks ++ l) xs ys off) : Cmp ks xs ys off := fun i q hq => h i q (by rw [List.getElem?_append_left (List.getElem?_eq_some_iff.1 hq).1]; exact hq)
theorem cmp_r {ks l : List Nat} {xs ys : Array Value} {off : Nat} (h : Cmp (ks ++ l) xs ys off) : Cmp l xs ys (off + ks.length) := fun i q hq => by
  have := h (ks.length + i) q (by rw [List.getElem?_append_right (by omega)]; simpa using hq)
  simpa [Nat.add_assoc] using this
theorem allEq_app {ks l : List Nat} {xs ys : Array Value} {off : Nat} : AllEq (ks ++ l) xs ys off ↔ AllEq ks xs ys off ∧ AllEq l xs ys (off + ks.length) := by
  constructor
  · intro h
    refine ⟨fun i q c c' hq => h i q c c' (by rw [List.getElem?_append_left (List.getElem?_eq_some_iff.1 hq).1]; exact hq), fun i q c c' hq h1 h2 => h (ks.length + i) q c c' (by rw [List.getElem?_append_right (by omega)]; simpa using hq) (by simpa [Nat.add_assoc] using h1) (by simpa [Nat.add_assoc] using h2)⟩
  · rintro ⟨h1, h2⟩ i q c c' hq hx hy
    by_cases hi : i < ks.length
    · exact h1 i q c c' (by rw [List.getElem?_append_left hi] at hq; exact hq) hx hy
    · rw [List.getElem?_append_right (by omega)] at hq
      exact h2 (i - ks.length) q c c' hq (by rw [← hx]; congr 1; omega) (by rw [← hy]; congr 1; omega)
theorem part_scalar {w : World} {t : TypeId} (hag : (isAgg t).run P w = .ok false w) {cs : Array Value} {off : Nat} {c : Value} (h : cs[off]? = some c) : (part t cs off).run P w = .ok c w := by
  simp only [part, Sem.run_bind, hag, Result.andThen_ok, h]
  rfl
theorem isAgg_of {w : World} {t : TypeId} {d : TypeDesc} (h : P.underlying t = some d) : (isAgg t).run P w = .ok (aggB d) w := by
  simp only [isAgg, Sem.run_bind, run_underlying h, Result.andThen_ok]
  cases d <;> rfl
theorem cmp_shift {ks : List Nat} {xs ys : Array Value} {off s o : Nat} (h : Cmp ks xs ys (off + o)) (hs : o + ks.length ≤ s) : Cmp ks (xs.extract off (off + s)) (ys.extract off (off + s)) o ∧ (AllEq ks (xs.extract off (off + s)) (ys.extract off (off + s)) o ↔ AllEq ks xs ys (off + o)) := by
  have key : ∀ (zs : Array Value) (i : Nat) (q : Nat), ks[i]? = some q → (zs.extract off (off + s))[o + i]? = zs[off + o + i]? := by
    intro zs i q hq
    have hi := (List.getElem?_eq_some_iff.1 hq).1
    rw [Array.getElem?_extract]
    by_cases hz : off + o + i < zs.size
    · rw [if_pos (by omega)]
      congr 1
      omega
    · rw [Array.getElem?_eq_none (show zs.size ≤ off + o + i by omega)]
      split
      · exact Array.getElem?_eq_none (by omega)
      · rfl
  refine ⟨fun i q hq => ?_, fun hA i q c c' hq h1 h2 => hA i q c c' hq (by rw [key xs i q hq]; exact h1) (by rw [key ys i q hq]; exact h2), fun hA i q c c' hq h1 h2 => hA i q c c' hq (by rw [← key xs i q hq]; exact h1) (by rw [← key ys i q hq]; exact h2)⟩
  obtain ⟨c, c', b, h1, h2, h3⟩ := h i q hq
  exact ⟨c, c', b, (key xs i q hq).trans h1, (key ys i q hq).trans h2, h3⟩
theorem eq_fields {w : World} {D : Nat} {f : TypeId → Option (List Nat)} (hf : ∀ t l, f t = some l → l.length = P.cellsOf t → EqAt P w D t l) (xs ys : Array Value) : ∀ (fs : List Field) (o : Nat) (ks : List Nat), leafT.leafFs P f fs o = some ks → Cmp ks xs ys o →
    ∃ r, (Op.eqFields D xs ys fs).run P w = .ok r w ∧ (r = true ↔ AllEq ks xs ys o)
  | [], o, ks, h, _ => by
    simp only [leafT.leafFs, Option.some.injEq] at h
    subst h
    exact ⟨true, rfl, fun _ i q c c' hq => by simp at hq, fun _ => rfl⟩
  | q :: fs, o, ks, h, hc => by
    simp only [leafT.leafFs] at h
    split at h
    · rename_i hq
      obtain ⟨hoff, hnm⟩ := hq
      split at h
      · rename_i l m h1 h2
        split at h
        · rename_i hlen
          obtain rfl := Option.some.inj h
          obtain ⟨a, b, r, e1, e2, e3, e4⟩ := hf q.type l h1 hlen xs ys o (cmp_l hc)
          obtain ⟨r2, e5, e6⟩ := eq_fields hf xs ys fs _ m h2 (by rw [← hlen]; exact cmp_r hc)
          rw [← hlen] at e6
          simp only [Op.eqFields, ne_eq, hnm, not_false_eq_true, if_true, Sem.run_bind, hoff, e1, e2, e3, Result.andThen_ok]
          cases r with
          | false => exact ⟨false, rfl, (fun hh => by cases hh), (fun hh => by rw [allEq_app] at hh; exact absurd (e4.2 hh.1) (by simp))⟩
          | true =>
            refine ⟨r2, by simpa using e5, ?_⟩
            rw [e6, allEq_app]
            exact ⟨fun hh => ⟨e4.1 rfl, hh⟩, fun hh => hh.2⟩
        · cases h
      · cases h
    · cases h
theorem eq_items {w : World} {D : Nat} {e : TypeId} {l : List Nat} (he : EqAt P w D e l) (hl : l.length = P.cellsOf e) (xs ys : Array Value) : ∀ (m k : Nat), Cmp (List.replicate m l).flatten xs ys (k * P.cellsOf e) →
    ∃ r, (Op.eqItems D e (P.cellsOf e) xs ys (List.range' k m)).run P w = .ok r w ∧ (r = true ↔ AllEq (List.replicate m l).flatten xs ys (k * P.cellsOf e))
  | 0, k, _ => ⟨true, rfl, fun _ i q c c' hq => by simp at hq, fun _ => rfl⟩
  | m + 1, k, hc => by
    have hs : (List.replicate (m + 1) l).flatten = l ++ (List.replicate m l).flatten := by simp [List.replicate_succ]
    rw [hs] at hc ⊢
    obtain ⟨a, b, r, e1, e2, e3, e4⟩ := he xs ys (k * P.cellsOf e) (cmp_l hc)
    have hk : k * P.cellsOf e + l.length = (k + 1) * P.cellsOf e := by rw [hl, Nat.add_mul, Nat.one_mul]
    have hc2 := cmp_r hc
    rw [hk] at hc2
    obtain ⟨r2, e5, e6⟩ := eq_items he hl xs ys m (k + 1) hc2
    rw [← hk] at e6
    simp only [List.range'_succ, Op.eqItems, Sem.run_bind, e1, e2, e3, Result.andThen_ok]
    cases r with
    | false => exact ⟨false, rfl, (fun hh => by cases hh), (fun hh => by rw [allEq_app] at hh; exact absurd (e4.2 hh.1) (by simp))⟩
    | true =>
      refine ⟨r2, by simpa using e5, ?_⟩
      rw [e6, allEq_app]
      exact ⟨fun hh => ⟨e4.1 rfl, hh⟩, fun hh => hh.2⟩
theorem eq_at {w : World} : ∀ (d : Nat) (t : TypeId) (ks : List Nat) (D : Nat), leafT P d t = some ks → ks.length = P.cellsOf t → d ≤ D → EqAt P w D t ks
  | 0, t, ks, D, h, _, _ => by simp [leafT] at h
  | d + 1, t, ks, D, h, hlen, hD => by
    obtain ⟨D, rfl⟩ : ∃ D', D = D' + 1 := ⟨D - 1, by omega⟩
    intro xs ys off hc
    simp only [leafT] at h
    split at h
    · rename_i k hu
      obtain rfl := Option.some.inj h
      obtain ⟨c, c', b, h1, h2, h3⟩ := hc 0 0 rfl
      have hag := isAgg_of (P := P) (w := w) hu
      simp only [Nat.add_zero] at h1 h2
      refine ⟨c, c', b, part_scalar hag h1, part_scalar hag h2, ?_, ?_⟩
      · cases c with
        | int k1 a1 =>
          cases c' with
          | int k2 b1 =>
            simp only [eqc] at h3
            split at h3
            · rename_i hk
              rw [kindEq_eq hk, run_equalIn_int w D t k2 k a1 b1 hu]
              obtain rfl := Option.some.inj h3
              congr 1
            · cases h3
          | _ => simp [eqc] at h3
        | _ => simp [eqc] at h3
      · refine ⟨fun hb i q c1 c2 hq g1 g2 => ?_, fun hA => ?_⟩
        · cases i with
          | zero =>
            simp at hq
            subst hq
            rw [Nat.add_zero, h1] at g1
            rw [Nat.add_zero, h2] at g2
            obtain rfl := Option.some.inj g1
            obtain rfl := Option.some.inj g2
            rw [h3, hb]
          | succ i => simp at hq
        · have := hA 0 0 c c' rfl h1 h2
          rw [h3] at this
          exact Option.some.inj this
    · rename_i hu
      obtain rfl := Option.some.inj h
      obtain ⟨c, c', b, h1, h2, h3⟩ := hc 0 1 rfl
      have hag := isAgg_of (P := P) (w := w) hu
      simp only [Nat.add_zero] at h1 h2
      refine ⟨c, c', b, part_scalar hag h1, part_scalar hag h2, ?_, ?_⟩
      · cases c with
        | bool a1 =>
          cases c' with
          | bool b1 =>
            simp only [eqc] at h3
            rw [run_equalIn_bool' w D t a1 b1 hu]
            rw [Option.some.inj h3]
          | _ => simp [eqc] at h3
        | _ => simp [eqc] at h3
      · refine ⟨fun hb i q c1 c2 hq g1 g2 => ?_, fun hA => ?_⟩
        · cases i with
          | zero =>
            simp at hq
            subst hq
            rw [Nat.add_zero, h1] at g1
            rw [Nat.add_zero, h2] at g2
            obtain rfl := Option.some.inj g1
            obtain rfl := Option.some.inj g2
            rw [h3, hb]
          | succ i => simp at hq
        · have := hA 0 1 c c' rfl h1 h2
          rw [h3] at this
          exact Option.some.inj this
    · rename_i hu
      obtain rfl := Option.some.inj h
      obtain ⟨c, c', b, h1, h2, h3⟩ := hc 0 2 rfl
      have hag := isAgg_of (P := P) (w := w) hu
      simp only [Nat.add_zero] at h1 h2
      refine ⟨c, c', b, part_scalar hag h1, part_scalar hag h2, ?_, ?_⟩
      · cases c with
        | string a1 =>
          cases c' with
          | string b1 =>
            simp only [eqc] at h3
            rw [run_equalIn_string w D t a1 b1 hu, bytes_eq]
            rw [Option.some.inj h3]
          | _ => simp [eqc] at h3
        | _ => simp [eqc] at h3
      · refine ⟨fun hb i q c1 c2 hq g1 g2 => ?_, fun hA => ?_⟩
        · cases i with
          | zero =>
            simp at hq
            subst hq
            rw [Nat.add_zero, h1] at g1
            rw [Nat.add_zero, h2] at g2
            obtain rfl := Option.some.inj g1
            obtain rfl := Option.some.inj g2
            rw [h3, hb]
          | succ i => simp at hq
        · have := hA 0 2 c c' rfl h1 h2
          rw [h3] at this
          exact Option.some.inj this
    · rename_i fs hu
      split at h
      · cases h
      · rename_i hst
        have hst' : P.stoodInHeld t = false := by simpa using hst
        have hfo : P.fieldsOf t = fs := by simp [Program.fieldsOf, hu]
        have hu' : P.underlying t = some (.struct (P.fieldsOf t)) := by rw [hfo]; exact hu
        have hag := isAgg_of (P := P) (w := w) hu
        have hc' := cmp_shift (s := ks.length) (o := 0) hc (by omega)
        obtain ⟨r, e1, e2⟩ := eq_fields (w := w) (D := D) (fun t' l h1 h2 => eq_at d t' l D h1 h2 (by omega)) _ _ fs.toList 0 ks h hc'.1
        obtain ⟨inf, hinf⟩ : ∃ inf, P.info? t = some inf := by
          cases hq : P.info? t with
          | some inf => exact ⟨inf, rfl⟩
          | none => simp [Program.underlying, hq] at hu
        have hsz : inf.size = ks.length := by rw [hlen]; simp [Program.cellsOf, hinf]
        refine ⟨.agg (xs.extract off (off + ks.length)), .agg (ys.extract off (off + ks.length)), r, ?_, ?_, ?_, e2.trans hc'.2⟩
        · simp only [part, Sem.run_bind, hag, aggB, Result.andThen_ok, if_true, run_sizeOf' hinf, hsz, Sem.run_pure]
        · simp only [part, Sem.run_bind, hag, aggB, Result.andThen_ok, if_true, run_sizeOf' hinf, hsz, Sem.run_pure]
        · rw [run_equalIn_struct w D t _ _ hu' hst', hfo]
          exact e1
    · rename_i n e hu
      split at h
      · rename_i ie hie
        cases hq : leafT P d e with
        | none => rw [hq] at h; cases h
        | some l =>
          rw [hq] at h
          dsimp only at h
          split at h
          · rename_i hle
            obtain rfl := Option.some.inj h
            have hag := isAgg_of (P := P) (w := w) hu
            obtain ⟨inf, hinf⟩ : ∃ inf, P.info? t = some inf := by
              cases hq : P.info? t with
              | some inf => exact ⟨inf, rfl⟩
              | none => simp [Program.underlying, hq] at hu
            have hsz : inf.size = ((List.replicate n l).flatten).length := by rw [hlen]; simp [Program.cellsOf, hinf]
            have hc' := cmp_shift (s := ((List.replicate n l).flatten).length) (o := 0) hc (by omega)
            obtain ⟨r, e1, e2⟩ := eq_items (w := w) (D := D) (eq_at d e l D hq hle (by omega)) hle (xs.extract off (off + ((List.replicate n l).flatten).length)) (ys.extract off (off + ((List.replicate n l).flatten).length)) n 0 (by rw [Nat.zero_mul]; exact hc'.1)
            rw [Nat.zero_mul] at e2
            refine ⟨.agg (xs.extract off (off + ((List.replicate n l).flatten).length)), .agg (ys.extract off (off + ((List.replicate n l).flatten).length)), r, ?_, ?_, ?_, e2.trans hc'.2⟩
            · simp only [part, Sem.run_bind, hag, aggB, Result.andThen_ok, if_true, run_sizeOf' hinf, hsz, Sem.run_pure]
            · simp only [part, Sem.run_bind, hag, aggB, Result.andThen_ok, if_true, run_sizeOf' hinf, hsz, Sem.run_pure]
            · rw [run_equalIn_array w D _ _ hu hie, List.range_eq_range']
              exact e1
          · cases h
      · cases h
    · cases h

theorem allB_cons (b : Bool) : ∀ r, allB (b :: r) = (b && allB r)
  | [] => by simp [allB]
  | _ :: _ => rfl
theorem cmpAll_sound {K : Kr} {w : World} : ∀ (ks : List Nat) (x y : List DV) (bs : List Bool) (cs cs' : Array Value) (off : Nat), cmpAll ks x y = some bs →
    (∀ (i : Nat) (d : DV), x[i]? = some d → ∃ c, cs[off + i]? = some c ∧ VRel K w d c) → (∀ (i : Nat) (d : DV), y[i]? = some d → ∃ c, cs'[off + i]? = some c ∧ VRel K w d c) →
    ks.length = x.length ∧ ks.length = y.length ∧ Cmp ks cs cs' off ∧ (allB bs = true ↔ AllEq ks cs cs' off)
  | [], [], [], bs, cs, cs', off, h, _, _ => by
    simp only [cmpAll, Option.some.injEq] at h
    subst h
    exact ⟨rfl, rfl, fun i q hq => by simp at hq, fun _ i q c c' hq => by simp at hq, fun _ => rfl⟩
  | q :: ks, a :: x, b :: y, bs, cs, cs', off, h, h1, h2 => by
    simp only [cmpAll] at h
    cases hq : cellEq q a b with
    | none => rw [hq] at h; simp [consO] at h
    | some t =>
      cases hr : cmpAll ks x y with
      | none => rw [hq, hr] at h; simp [consO] at h
      | some l =>
        rw [hq, hr] at h
        simp only [consO, Option.some.injEq] at h
        subst h
        obtain ⟨p0, p1, p2, p3⟩ := cmpAll_sound ks x y l cs cs' (off + 1) hr (fun i d hd => by
          obtain ⟨c, e1, e2⟩ := h1 (i + 1) d (by simpa using hd)
          exact ⟨c, by rw [← e1]; congr 1; omega, e2⟩) (fun i d hd => by
          obtain ⟨c, e1, e2⟩ := h2 (i + 1) d (by simpa using hd)
          exact ⟨c, by rw [← e1]; congr 1; omega, e2⟩)
        obtain ⟨c0, g1, v1⟩ := h1 0 a rfl
        obtain ⟨c0', g2, v2⟩ := h2 0 b rfl
        have hcell : eqc q c0 c0' = some t := by
          unfold cellEq at hq
          split at hq
          · rw [vrel_v v1, vrel_v v2]; exact hq
          · rw [vrel_v v1, vrel_v v2]; exact hq
          · rw [vrel_v v1, vrel_v v2]; exact hq
          · cases hq
        rw [Nat.add_zero] at g1 g2
        have hsp : ∀ (zs : Array Value) (i : Nat), zs[off + (i + 1)]? = zs[off + 1 + i]? := fun zs i => by congr 1; omega
        refine ⟨by simp [p0], by simp [p1], fun i q' hq' => ?_, ?_⟩
        · cases i with
          | zero => simp at hq'; subst hq'; exact ⟨c0, c0', t, by simpa using g1, by simpa using g2, hcell⟩
          | succ i =>
            obtain ⟨c, c', b', k1, k2, k3⟩ := p2 i q' (by simpa using hq')
            exact ⟨c, c', b', by rw [hsp]; exact k1, by rw [hsp]; exact k2, k3⟩
        · rw [allB_cons, Bool.and_eq_true, p3]
          refine ⟨fun ⟨ht, hA⟩ i q' c c' hq' k1 k2 => ?_, fun hA => ⟨?_, fun i q' c c' hq' k1 k2 => hA (i + 1) q' c c' (by simpa using hq') (by rw [hsp]; exact k1) (by rw [hsp]; exact k2)⟩⟩
          · cases i with
            | zero =>
              simp at hq' k1 k2
              subst hq'
              rw [g1] at k1
              rw [g2] at k2
              obtain rfl := Option.some.inj k1
              obtain rfl := Option.some.inj k2
              rw [hcell, ht]
            | succ i => exact hA i q' c c' (by simpa using hq') (by rw [← hsp]; exact k1) (by rw [← hsp]; exact k2)
          · have := hA 0 q c0 c0' rfl (by simpa using g1) (by simpa using g2)
            rw [hcell] at this
            exact Option.some.inj this
  | [], [], _ :: _, _, _, _, _, h, _, _ => by simp [cmpAll] at h
  | [], _ :: _, _, _, _, _, _, h, _, _ => by simp [cmpAll] at h
  | _ :: _, [], _, _, _, _, _, h, _, _ => by simp [cmpAll] at h
  | _ :: _, _ :: _, [], _, _, _, _, h, _, _ => by simp [cmpAll] at h
theorem extract_all (cs : Array Value) : cs.extract 0 cs.size = cs := by simp
theorem eq_top {w : World} {t : TypeId} {ks : List Nat} {cs cs' : Array Value} (d D : Nat) (hd : d ≤ D) (hl : leafT P (d + 1) t = some ks) (hag : tyAg P t true = true) (q3 : Cmp ks cs cs' 0) :
    ∃ r, (Op.equalIn (D + 1) t (.agg cs) (.agg cs')).run P w = .ok r w ∧ (r = true ↔ AllEq ks cs cs' 0) := by
  obtain ⟨dt, hu⟩ : ∃ dt, P.underlying t = some dt := by
    cases hq : P.underlying t with
    | some d => exact ⟨d, rfl⟩
    | none => simp [tyAg, hq] at hag
  rw [leafT, hu] at hl
  cases dt with
  | struct fs =>
    dsimp only at hl
    split at hl
    · cases hl
    · rename_i hst
      have hst' : P.stoodInHeld t = false := by simpa using hst
      have hfo : P.fieldsOf t = fs := by simp [Program.fieldsOf, hu]
      have hu' : P.underlying t = some (.struct (P.fieldsOf t)) := by rw [hfo]; exact hu
      obtain ⟨r, g1, g2⟩ := eq_fields (w := w) (D := D) (fun t' l k1 k2 => eq_at d t' l D k1 k2 hd) cs cs' fs.toList 0 ks hl q3
      exact ⟨r, by rw [run_equalIn_struct w D t _ _ hu' hst', hfo]; exact g1, g2⟩
  | array n e =>
    dsimp only at hl
    split at hl
    · rename_i ie hie
      cases hq : leafT P d e with
      | none => rw [hq] at hl; cases hl
      | some l =>
        rw [hq] at hl
        dsimp only at hl
        split at hl
        · rename_i hle
          obtain rfl := Option.some.inj hl
          obtain ⟨r, g1, g2⟩ := eq_items (w := w) (D := D) (eq_at d e l D hq hle hd) hle cs cs' n 0 (by rw [Nat.zero_mul]; exact q3)
          rw [Nat.zero_mul] at g2
          exact ⟨r, by rw [run_equalIn_array w D _ _ hu hie, List.range_eq_range']; exact g1, g2⟩
        · cases hl
    · cases hl
  | _ => simp [tyAg, hu, aggB] at hag
theorem stp_eqs {neg : Bool} {ks : List Nat} {x y : XA} {op : BinOp} {t t' : TypeId} {p q : Operand} (hop : o.op = .binOp op t p q t') (hop2 : eqOp neg op = true) (h1 : okA p x = true) (h2 : okA q y = true)
    (hl : leafT P 20 t = some ks) (hag : tyAg P t true = true) (hg : P.eqGuardType P.depth t = false) :
    (eqsR neg ks (evT tm x) (evT tm y)).all (fun d t wr g => Stp P o (x.reads ++ y.reads) tm H gen d t wr g) (fun _ _ => False) := by
  unfold eqsR
  split
  · rename_i dx dy hx hy
    unfold eqsO
    split
    · rename_i bs hbs
      refine Stp.pure fun K a w hr => ?_
      have r1 := okA_rel' (reads_l hr) h1
      have r2 := okA_rel' (reads_r hr) h2
      rw [hx] at r1
      rw [hy] at r2
      generalize e1 : a.eval p = v1 at r1
      generalize e2 : a.eval q = v2 at r2
      cases r1 with
      | @agg _ cs hs1 hv1 =>
        cases r2 with
        | @agg _ cs' hs2 hv2 =>
          have get : ∀ {ds : List DV} {c : Array Value}, c.size = ds.length → (∀ (i : Nat) (d : DV) (v : Value), ds[i]? = some d → c[i]? = some v → VRel K w d v) → ∀ (i : Nat) (d : DV), ds[i]? = some d → ∃ v, c[0 + i]? = some v ∧ VRel K w d v := by
            intro ds c hs hv i d hd
            have hi : i < c.size := by rw [hs]; exact (List.getElem?_eq_some_iff.1 hd).1
            exact ⟨c[i], by rw [Nat.zero_add]; exact Array.getElem?_eq_getElem hi, hv i d _ hd (Array.getElem?_eq_getElem hi)⟩
          obtain ⟨q1, q2, q3, q4⟩ := cmpAll_sound (K := K) (w := w) ks dx dy bs cs cs' 0 hbs (get hs1 hv1) (get hs2 hv2)
          -- the type is a struct or an array of just so many cells
          obtain ⟨inf, hinf⟩ : ∃ inf, P.info? t = some inf := by
            cases hq : P.info? t with
            | some inf => exact ⟨inf, rfl⟩
            | none => simp [tyAg, Program.underlying, hq] at hag
          have hrun := eq_top (w := w) 19 9999 (by omega) hl hag q3
          obtain ⟨r, g1, g2⟩ := hrun
          have hrb : r = allB bs := by
            cases r with
            | true => exact (q4.2 (g2.1 rfl)).symm
            | false =>
              cases hb : allB bs with
              | false => rfl
              | true => exact absurd (g2.2 (q4.1 hb)) (by simp)
          refine ⟨.bool (negB neg (allB bs)), ?_, .v _⟩
          rw [← hrb]
          cases op <;> simp [eqOp] at hop2
          · subst hop2
            simp only [execOp, hop, e1, e2, Sem.run_bind, run_eqGuard_agg w _ t p q cs cs' hg, Result.andThen_ok, run_eql_struct, g1, Sem.run_pure, negB]
          · subst hop2
            simp only [execOp, hop, e1, e2, Sem.run_bind, run_eqGuard_agg w _ t p q cs cs' hg, Result.andThen_ok, run_neq_struct, g1, Sem.run_pure, negB]
    · exact trivial
  · exact trivial
theorem stp_eqb {neg : Bool} {x y : XA} {op : BinOp} {t t' : TypeId} {p q : Operand} (hop : o.op = .binOp op t p q t') (hop2 : eqOp neg op = true) (h1 : okA p x = true) (h2 : okA q y = true) (hu : P.underlying t = some .bool) :
    (eqbR neg (evT tm x) (evT tm y)).all (fun d t wr g => Stp P o (x.reads ++ y.reads) tm H gen d t wr g) (fun _ _ => False) := by
  unfold eqbR
  split
  · rename_i b1 b2 hx hy
    refine Stp.pure fun K a w hr => ?_
    have r1 := okA_rel' (reads_l hr) h1
    have r2 := okA_rel' (reads_r hr) h2
    rw [hx] at r1
    rw [hy] at r2
    have e1 := vrel_v r1
    have e2 := vrel_v r2
    refine ⟨.bool (negB neg (b1 == b2)), ?_, .v _⟩
    have hg : ∀ (op : BinOp) w, (eqGuard op t p q (.bool b1) (.bool b2)).run P w = .ok () w := by
      intro op w
      unfold eqGuard
      split <;> rfl
    cases op <;> simp [eqOp] at hop2
    · subst hop2
      simp only [execOp, hop, e1, e2, Sem.run_bind, hg, Result.andThen_ok, binOp, Op.equal, Op.maxDepth, run_equalIn_bool' w 9999 t b1 b2 hu, Sem.run_pure, negB]
    · subst hop2
      simp only [execOp, hop, e1, e2, Sem.run_bind, hg, Result.andThen_ok, binOp, Op.equal, Op.maxDepth, run_equalIn_bool' w 9999 t b1 b2 hu, Sem.run_pure, negB]
  · exact trivial
theorem stp_min {mx : Bool} {x y : XA} {c : Call} {p q : Operand} (hop : o.op = .call c) (hc : c.callee = .builtin (match mx with | true => .max | false => .min)) (ha : c.args = #[p, q]) (h1 : okA p x = true) (h2 : okA q y = true) :
    (minR mx (evT tm x) (evT tm y)).all (fun d t wr g => Stp P o (x.reads ++ y.reads) tm H gen d t wr g) (fun _ _ => False) := by
  unfold minR
  split
  · rename_i k a k' b hx hy
    unfold onlyIf
    split
    · refine Stp.pure fun K ac w hr => ?_
      have r1 := okA_rel' (reads_l hr) h1
      have r2 := okA_rel' (reads_r hr) h2
      rw [hx] at r1
      rw [hy] at r2
      have e1 := vrel_v r1
      have e2 := vrel_v r2
      refine ⟨_, ?_, .v _⟩
      cases mx
      · have e : min a b = if b < a then b else a := by split <;> omega
        simp only [cond, e]
        simp [execOp, hop, resolve, hc, ha, e1, e2, invoke, builtin, Builtin.min_, Builtin.min2]
      · have e : max a b = if a < b then b else a := by split <;> omega
        simp only [cond, e]
        simp [execOp, hop, resolve, hc, ha, e1, e2, invoke, builtin, Builtin.max_, Builtin.max2]
    · exact trivial
  · exact trivial

/-! Append. -/
theorem xdrop_eq : ∀ (l : List (List DV)) (i : Nat), xdrop l i = l.drop i
  | l, 0 => by cases l <;> rfl
  | [], i + 1 => by simp [xdrop]
  | x :: r, i + 1 => by simp [xdrop, xdrop_eq r i]
theorem xtake_eq : ∀ (l : List (List DV)) (i : Nat), xtake l i = l.take i
  | l, 0 => by cases l <;> simp [xtake]
  | [], i + 1 => by simp [xtake]
  | x :: r, i + 1 => by simp [xtake, xtake_eq r i]
theorem allOnes_mem : ∀ {l : List (List DV)}, allOnes l = true → ∀ x ∈ l, allOne x = true
  | [], _, x, h => by simp at h
  | y :: r, hh, x, h => by
    simp only [allOnes, andB_eq] at hh
    rcases List.mem_cons.1 h with rfl | h
    · exact hh.1
    · exact allOnes_mem hh.2 x h
theorem rowRel_one {K : Kr} {w : World} {sz : Nat} {xs : List (List DV)} {cs : Array Value} (hsz : 0 < sz) (h : RowRel K w sz xs cs) (h1 : allOnes xs = true) : ∀ c ∈ cs.toList, c.oneCell' = true := by
  intro c hc
  obtain ⟨q, hq, rfl⟩ := List.mem_iff_getElem.1 hc
  have hq' : q < cs.size := by simpa using hq
  have hdiv : q / sz < xs.length := by
    rw [Nat.div_lt_iff_lt_mul hsz, ← h.1]
    exact hq'
  have hx : xs[q / sz]? = some xs[q / sz] := List.getElem?_eq_getElem hdiv
  have hl := h.2.1 _ (List.mem_of_getElem? hx)
  have hmod : q % sz < xs[q / sz].length := by rw [hl]; exact Nat.mod_lt _ hsz
  obtain ⟨c, e1, e2⟩ := h.2.2 _ _ (q % sz) _ hx (List.getElem?_eq_getElem hmod)
  rw [show q / sz * sz + q % sz = q by rw [Nat.mul_comm]; exact Nat.div_add_mod q sz] at e1
  rw [Array.getElem?_eq_getElem hq'] at e1
  have e3 := Option.some.inj e1
  rw [Array.getElem_toList, e3]
  exact vrel_one e2 (allOne_mem (allOnes_mem h1 _ (List.mem_of_getElem? hx)) _ (List.getElem_mem hmod))
theorem rows_of {K : Kr} {w : World} {sz m c : Nat} {A : Option Addr} {ys : List (List DV)} (hsz : 0 < sz) (hl : ys.length = m) (hlen : ∀ x ∈ ys, x.length = sz)
    (h : ∀ (i : Nat) (x : List DV) (j : Nat) (d : DV), ys[i]? = some x → x[j]? = some d → ∃ ad v, A = some ad ∧ w.cell? (ad.add (i * sz + j)) = some v ∧ VRel K w d v) :
    ∃ news : List Value, RowRel K w sz ys news.toArray ∧ ∀ w2 : World, w2.heap = w.heap → (Builtin.firstCells sz m (.slice A m c)).run P w2 = .ok news.toArray w2 := by
  have key : ∀ q, q < m * sz → ∃ ad v, A = some ad ∧ w.cell? (ad.add q) = some v ∧ ∃ x d, ys[q / sz]? = some x ∧ x[q % sz]? = some d ∧ VRel K w d v := by
    intro q hq
    have hdiv : q / sz < ys.length := by rw [hl, Nat.div_lt_iff_lt_mul hsz]; exact hq
    have hx : ys[q / sz]? = some ys[q / sz] := List.getElem?_eq_getElem hdiv
    have hl2 := hlen _ (List.mem_of_getElem? hx)
    have hmod : q % sz < ys[q / sz].length := by rw [hl2]; exact Nat.mod_lt _ hsz
    obtain ⟨ad, v, e1, e2, e3⟩ := h _ _ (q % sz) _ hx (List.getElem?_eq_getElem hmod)
    rw [show q / sz * sz + q % sz = q by rw [Nat.mul_comm]; exact Nat.div_add_mod q sz] at e2
    exact ⟨ad, v, e1, e2, _, _, hx, List.getElem?_eq_getElem hmod, e3⟩
  rcases Nat.eq_zero_or_pos m with h0 | h0
  · subst h0
    have : ys = [] := List.eq_nil_of_length_eq_zero hl
    subst this
    refine ⟨[], ⟨by simp, fun x hx => by simp at hx, fun i x j d hx => by simp at hx⟩, fun w2 _ => ?_⟩
    cases A with
    | none => rfl
    | some ad =>
      simp only [Builtin.firstCells, Nat.zero_mul]
      rfl
  · obtain ⟨ad, _, rfl, _⟩ := key 0 (Nat.mul_pos h0 hsz)
    refine ⟨(List.range (m * sz)).map (fun q => (w.cell? (ad.add q)).getD undef), ⟨by simp [hl], hlen, fun i x j d hx hd => ?_⟩, fun w2 hw2 => ?_⟩
    · obtain ⟨ad', v, e1, e2, e3⟩ := h i x j d hx hd
      obtain rfl := Option.some.inj e1
      have hi : i < m := by rw [← hl]; exact (List.getElem?_eq_some_iff.1 hx).1
      have hj : j < sz := by rw [← hlen x (List.mem_of_getElem? hx)]; exact (List.getElem?_eq_some_iff.1 hd).1
      have hlt : i * sz + j < m * sz := by
        have : (i + 1) * sz ≤ m * sz := Nat.mul_le_mul_right _ hi
        rw [Nat.add_mul, Nat.one_mul] at this
        omega
      refine ⟨v, ?_, e3⟩
      simp [hlt, e2]
    · simp only [Builtin.firstCells]
      refine run_loadCells w2 ad (m * sz) _ (fun q hq => ?_)
      obtain ⟨ad', v, e1, e2, _⟩ := key q hq
      obtain rfl := Option.some.inj e1
      have : w2.cell? (ad.add q) = w.cell? (ad.add q) := World.cell?_of_block (by rw [hw2])
      rw [this, e2]
      rfl
theorem elems_sound {Γ : Gm} {K : Kr} {H' : Nat → Option AObj} {w : World} (hI : Inv Γ K H' w) {sz : Nat} (hsz : 0 < sz) {d : DV} {v : Value} (hv : VRel K w d v) {ys : List (List DV)} {ty : List Nat} {p : Prop} (he : elemsR sz H d = .ok ys ty p) (hp : p) (ht : ∀ k ∈ ty, H' k = lget H k) :
    ∃ A m c, v = .slice A m c ∧ ys.length = m ∧ ∃ news : List Value, RowRel K w sz ys news.toArray ∧ ∀ w2 : World, w2.heap = w.heap → (Builtin.firstCells sz m v).run P w2 = .ok news.toArray w2 := by
  unfold elemsR at he
  split at he
  · rename_i sz' xs clip
    injection he with e1 e2 e3
    subst e1
    rw [← e3] at hp
    subst hp
    cases hv with
    | @snap _ _ _ A len cap f hl hlc hc hs ha hcell h =>
      refine ⟨A, len, cap, rfl, hl, rows_of hsz hl hs (fun i x j d hx hd => ?_)⟩
      obtain ⟨ad, e, _⟩ := ha (by rw [← hl]; exact Nat.lt_of_le_of_lt (Nat.zero_le i) (List.getElem?_eq_some_iff.1 hx).1)
      exact ⟨ad, _, e, hcell ad i x j d e hx hd, h i x j d hx hd⟩
  · rename_i k n sz' lo m full
    unfold elemsO at he
    split at he
    · rename_i ob hob
      injection he with e1 e2 e3
      subst e1
      rw [← e3] at hp
      obtain ⟨p1, p2, p3, p4⟩ := hp
      have hH := ht k (by rw [← e2]; simp)
      rw [hob] at hH
      rw [xtake_eq, xdrop_eq]
      cases hv with
      | @sl _ _ _ _ _ _ A cap hlc hf h =>
        have hlen : ((ob.xs.drop lo).take m).length = m := by simp; omega
        have hgetx : ∀ (i : Nat) (x : List DV), ((ob.xs.drop lo).take m)[i]? = some x → i < m ∧ ob.xs[lo + i]? = some x := by
          intro i x hx
          have hi : i < m := by have := (List.getElem?_eq_some_iff.1 hx).1; rw [hlen] at this; exact this
          rw [List.getElem?_take_of_lt hi, List.getElem?_drop] at hx
          exact ⟨hi, hx⟩
        refine ⟨A, m, cap, rfl, hlen, ?_⟩
        rcases hI.obj k ob hH with ⟨q1, q2⟩ | ⟨q1, cs, tt, q3, q4, q5, q6⟩
        · refine rows_of hsz hlen (fun x hx => ?_) (fun i x j d hx hd => ?_)
          · rw [q2] at hx; simp at hx
          · rw [q2] at hx; simp at hx
        · refine rows_of hsz hlen (fun x hx => ?_) (fun i x j d hx hd => ?_)
          · rw [q5 x (List.mem_of_mem_drop (List.mem_of_mem_take hx)), p2, p3]
          · obtain ⟨hi, hx'⟩ := hgetx i x hx
            rcases h with h | ⟨hreal, hA, _⟩
            · omega
            · obtain ⟨c, g1, g2⟩ := q6 (lo + i) x j d hx' hd
              refine ⟨_, c, hA, ?_, g2⟩
              rw [addr_add, cell_of_row w _ _ cs tt (0, 0) (by rw [← p1]; exact q3), ← g1]
              congr 1
              rw [p2, ← p3, Nat.add_mul]
              omega
    · cases he
  · injection he with e1 e2 e3
    subst e1
    have e := vrel_v hv
    subst e
    rename_i cp
    exact ⟨none, 0, cp, rfl, rfl, rows_of hsz rfl (fun x hx => by simp at hx) (fun i x j d hx => by simp at hx)⟩
  · cases he

/-- The run of an append whose parts are known. -/
theorem run_append_fit {w : World} {t t' ty e e' : TypeId} {i : TypeInfo} {base A : Option Addr} {sLen sCap m c : Nat} {news : List Value} (ht : P.underlying t = some (.slice e)) (ht' : P.underlying t' = some (.slice e')) (hi : P.info? e = some i)
    (hnew : (Builtin.firstCells i.size m (.slice A m c)).run P w = .ok news.toArray w) (hfit : sLen + m ≤ sCap) :
    (Builtin.append_ #[t, t'] ty #[.slice base sLen sCap, .slice A m c]).run P w =
      (match base with
       | some a => (storeCells (a.add (sLen * i.size)) news).run P w
       | none => .ok () w).andThen fun _ w' => .ok (.slice base (sLen + m) sCap) w' := by
  cases base <;> simp [Builtin.append_, run_underlying ht, run_underlying ht', sizeOf, typeInfo, hi, Builtin.lenOf, hfit, hnew]
theorem run_append_new {w : World} {t t' ty e e' : TypeId} {i : TypeInfo} {z : Value} {base A : Option Addr} {sLen sCap m c : Nat} {olds news : List Value} (ht : P.underlying t = some (.slice e)) (ht' : P.underlying t' = some (.slice e')) (hi : P.info? e = some i) (hz : i.zero = some z)
    (hnew : ∀ w2 : World, w2.heap = w.heap → (Builtin.firstCells i.size m (.slice A m c)).run P w2 = .ok news.toArray w2) (hold : ∀ w2 : World, w2.heap = w.heap → (Builtin.firstCells i.size sLen (.slice base sLen sCap)).run P w2 = .ok olds.toArray w2)
    (hg : sCap < sLen + m) (h63 : sLen + m ≤ maxLen) (hbytes : (sLen + m) * i.bytes ≤ 140737488355328) :
    (Builtin.append_ #[t, t'] ty #[.slice base sLen sCap, .slice A m c]).run P w =
      .ok (.slice (some ⟨w.heap.size, 0, none⟩) (sLen + m) (grownCap w (sLen + m) sCap e))
        (w.drew.alloc (.cells (olds.toArray ++ news.toArray ++ Builtin.zeroCells z.cells (grownCap w (sLen + m) sCap e - (sLen + m))) e)) := by
  unfold maxLen at h63
  have hn : ¬ (sLen + m ≤ sCap) := by omega
  have h63' : ¬ (9223372036854775807 < ((sLen : Int) + (m : Int))) := by omega
  have hfit := growslice_fits hg hbytes
  have h48' : ¬ (281474976710656 < Builtin.nextslicecap (sLen + m) sCap * i.bytes) := by omega
  have h1 := hnew w.drew rfl
  have h2 := hold w.drew rfl
  have hask : ∀ n, (askRoom n : Sem Unit).run P w.drew = .ok () w.drew := by
    intro n
    unfold askRoom
    split <;> rfl
  simp [Builtin.append_, run_underlying ht, run_underlying ht', sizeOf, typeInfo, zeroValue, hi, hz, Builtin.lenOf, hn, h63', h48', Question.forced, h1, h2, newRow, grownCap]
  congr 2
  apply Array.ext'
  simp [List.append_assoc]
theorem grownCap_ge (w : World) (need old : Nat) (e : TypeId) : need ≤ grownCap w need old e := by
  exact Nat.le_add_right _ _
theorem rowRel_app {K : Kr} {w : World} {sz : Nat} {xs ys : List (List DV)} {cs cs' : Array Value} (h1 : RowRel K w sz xs cs) (h2 : RowRel K w sz ys cs') : RowRel K w sz (xs ++ ys) (cs ++ cs') := by
  refine ⟨by rw [Array.size_append, h1.1, h2.1, List.length_append, Nat.add_mul], fun x hx => ?_, fun i x j d hx hd => ?_⟩
  · rcases List.mem_append.1 hx with h | h
    · exact h1.2.1 x h
    · exact h2.2.1 x h
  · by_cases hi : i < xs.length
    · rw [List.getElem?_append_left hi] at hx
      obtain ⟨c, e1, e2⟩ := h1.2.2 i x j d hx hd
      exact ⟨c, by rw [Array.getElem?_append_left (Array.getElem?_eq_some_iff.1 e1).1]; exact e1, e2⟩
    · rw [List.getElem?_append_right (by omega)] at hx
      obtain ⟨c, e1, e2⟩ := h2.2.2 (i - xs.length) x j d hx hd
      refine ⟨c, ?_, e2⟩
      have hge : xs.length * sz ≤ i * sz := Nat.mul_le_mul_right _ (by omega)
      rw [Array.getElem?_append_right (by rw [h1.1]; omega), h1.1, ← e1]
      congr 1
      rw [Nat.sub_mul]
      omega

def Kr.addv (K : Kr) (n : Nat) : Kr := ⟨fun m => K.dom m ∨ m = n, K.real, K.μ, K.M⟩
def Kr.ren (K : Kr) (n b : Nat) : Kr := ⟨fun m => K.dom m ∨ m = n, fun m => K.real m ∨ m = n, fun m => if m = n then b else K.μ m, K.M⟩
theorem mono_addv (K : Kr) (w : World) (n : Nat) : Mono K w (K.addv n) w := ⟨Ext.refl _ _, fun _ h => ⟨h, rfl⟩, fun _ _ h => h⟩
theorem mono_ren {K : Kr} (w : World) {n : Nat} (b : Nat) (hn : ¬ K.real n) : Mono K w (K.ren n b) w := ⟨Ext.refl _ _, fun m h => ⟨.inl h, by
    show (if m = n then b else K.μ m) = K.μ m
    rw [if_neg]
    rintro rfl
    exact hn h⟩, fun _ _ h => h⟩
theorem inv_addv {Γ : Gm} {K : Kr} {H : Nat → Option AObj} {w : World} (hI : Inv Γ K H w) {n sz k : Nat} (hn : ¬ K.dom n) (hg0 : Γ.g0 ≤ n) : Inv Γ (K.addv n) (fun j => if j = k then some ⟨n, sz, []⟩ else H j) w := by
  have hm := mono_addv K w n
  have hnr : ¬ K.real n := fun h => hn (hI.dr _ h)
  have hobj : ∀ j o, (if j = k then some (⟨n, sz, []⟩ : AObj) else H j) = some o → (j = k ∧ o = ⟨n, sz, []⟩) ∨ H j = some o := by
    intro j o ho
    by_cases e : j = k
    · rw [if_pos e] at ho; exact .inl ⟨e, (Option.some.inj ho).symm⟩
    · rw [if_neg e] at ho; exact .inr ho
  refine ⟨hI.ext, ⟨fun m h => ?_, hI.base.old, hI.base.keep, hI.base.M⟩, fun j o ho => ?_, fun k1 k2 o1 o2 h1 h2 r1 r2 he => ?_, fun m h => .inl (hI.dr m h), hI.lt, fun j o ho => ?_, fun j o ho hr => ?_⟩
  · rcases h with h | h
    · exact hI.base.dom m h
    · exact .inr (by omega)
  · rcases hobj j o ho with ⟨_, rfl⟩ | h
    · exact .inl ⟨hnr, rfl⟩
    · exact (hI.obj j o h).mono hm id (fun _ => rfl)
  · rcases hobj k1 o1 h1 with ⟨_, rfl⟩ | h1
    · exact absurd r1 hnr
    · rcases hobj k2 o2 h2 with ⟨_, rfl⟩ | h2
      · exact absurd r2 hnr
      · exact hI.inj k1 k2 o1 o2 h1 h2 r1 r2 he
  · rcases hobj j o ho with ⟨_, rfl⟩ | h
    · exact .inr rfl
    · exact .inl (hI.dobj j o h)
  · rcases hobj j o ho with ⟨_, rfl⟩ | h
    · exact absurd hr hnr
    · exact hI.own j o h hr
theorem inv_drop {Γ : Gm} {K : Kr} {H : Nat → Option AObj} {w : World} (hI : Inv Γ K H w) (k : Nat) : Inv Γ K (fun j => if j = k then none else H j) w := by
  have hs : ∀ j o, (if j = k then none else H j) = some o → H j = some o := by
    intro j o h
    by_cases e : j = k
    · rw [if_pos e] at h; cases h
    · rw [if_neg e] at h; exact h
  exact ⟨hI.ext, hI.base, fun j o h => hI.obj j o (hs j o h), fun k1 k2 o1 o2 h1 h2 => hI.inj k1 k2 o1 o2 (hs _ _ h1) (hs _ _ h2), hI.dr, hI.lt, fun j o h => hI.dobj j o (hs j o h), fun j o h => hI.own j o (hs j o h)⟩
theorem inv_ren {Γ : Gm} {K : Kr} {H : Nat → Option AObj} {w : World} (hI : Inv Γ K H w) {kx : Nat} {o : AObj} (ho : H kx = some o) (hr : K.real o.n) {n k : Nat} (hn : ¬ K.dom n) (hg0 : Γ.g0 ≤ n) :
    Inv Γ (K.ren n (K.μ o.n)) (fun j => if j = k then some ⟨n, o.sz, o.xs⟩ else if j = kx then none else H j) w := by
  have hnr : ¬ K.real n := fun h => hn (hI.dr _ h)
  have hm := mono_ren (K := K) w (K.μ o.n) hnr
  have hne : ∀ m, K.dom m → m ≠ n := fun m h e => hn (e ▸ h)
  have hμ : ∀ m, K.dom m → (K.ren n (K.μ o.n)).μ m = K.μ m := fun m h => if_neg (hne m h)
  have hrr : ∀ m, K.dom m → (K.ren n (K.μ o.n)).real m → K.real m := fun m h q => q.elim id (fun e => absurd e (hne m h))
  have hobj : ∀ j p, (if j = k then some (⟨n, o.sz, o.xs⟩ : AObj) else if j = kx then none else H j) = some p → (j = k ∧ p = ⟨n, o.sz, o.xs⟩) ∨ (j ≠ kx ∧ H j = some p) := by
    intro j p h
    by_cases e : j = k
    · rw [if_pos e] at h; exact .inl ⟨e, (Option.some.inj h).symm⟩
    · rw [if_neg e] at h
      by_cases e2 : j = kx
      · rw [if_pos e2] at h; cases h
      · rw [if_neg e2] at h; exact .inr ⟨e2, h⟩
  refine ⟨hI.ext, ⟨fun m h => ?_, fun m h hlt => ?_, fun m h => ?_, hI.base.M⟩, fun j p hp => ?_, fun k1 k2 o1 o2 h1 h2 r1 r2 he => ?_, fun m h => ?_, fun m h => ?_, fun j p hp => ?_, fun j p hp hq => ?_⟩
  · rcases h with h | h
    · exact hI.base.dom m h
    · exact .inr (by omega)
  · rcases h with h | h
    · exact hI.base.old m h hlt
    · omega
  · obtain ⟨h1, h2⟩ := hI.base.keep m h
    exact ⟨.inl h1, (hμ m (hI.dr _ h1)).trans h2⟩
  · rcases hobj j p hp with ⟨_, rfl⟩ | ⟨_, h⟩
    · rcases hI.obj kx o ho with ⟨q, _⟩ | ⟨_, cs, t, q2, q3, q4, q5⟩
      · exact absurd hr q
      · refine .inr ⟨.inr rfl, cs, t, ?_, q3, q4, fun i x j d hx hd => ?_⟩
        · show w.heap[if n = n then K.μ o.n else K.μ n]? = _
          rw [if_pos rfl]
          exact q2
        · obtain ⟨c, e1, e2⟩ := q5 i x j d hx hd
          exact ⟨c, e1, e2.mono hm⟩
    · exact (hI.obj j p h).mono hm (fun q1 q2 => q1 (hrr _ (hI.dobj j p h) q2)) (fun _ => rfl)
  · rcases hobj k1 o1 h1 with ⟨e1, rfl⟩ | ⟨n1, h1⟩ <;> rcases hobj k2 o2 h2 with ⟨e2, rfl⟩ | ⟨n2, h2⟩
    · rw [e1, e2]
    · have d2 := hI.dobj k2 o2 h2
      rw [hμ _ d2] at he
      simp only [Kr.ren, if_true] at he
      exact absurd (hI.inj kx k2 o o2 ho h2 hr (hrr _ d2 r2) he) (fun e => n2 e.symm)
    · have d1 := hI.dobj k1 o1 h1
      rw [hμ _ d1] at he
      simp only [Kr.ren, if_true] at he
      exact absurd (hI.inj kx k1 o o1 ho h1 hr (hrr _ d1 r1) he.symm) (fun e => n1 e.symm)
    · have d1 := hI.dobj k1 o1 h1
      have d2 := hI.dobj k2 o2 h2
      rw [hμ _ d1, hμ _ d2] at he
      exact hI.inj k1 k2 o1 o2 h1 h2 (hrr _ d1 r1) (hrr _ d2 r2) he
  · exact h.elim (fun h => .inl (hI.dr m h)) .inr
  · show (if m = n then K.μ o.n else K.μ m) < _
    by_cases e : m = n
    · rw [if_pos e]; exact hI.lt _ hr
    · rw [if_neg e]; exact hI.lt m (h.resolve_right e)
  · rcases hobj j p hp with ⟨_, rfl⟩ | ⟨_, h⟩
    · exact .inr rfl
    · exact .inl (hI.dobj j p h)
  · rcases hobj j p hp with ⟨_, rfl⟩ | ⟨_, h⟩
    · simp only [Kr.ren, if_true]
      exact hI.own kx o ho hr
    · rw [hμ _ (hI.dobj j p h)]
      exact hI.own j p h (hrr _ (hI.dobj j p h) hq)

/-- A new row, out of old elements and new ones. -/
theorem app_fresh {Γ : Gm} {K : Kr} {H : Nat → Option AObj} {w : World} (hI : Inv Γ K H w) {gen sz k need cap : Nat} (hg : ¬ K.dom gen) (hg0 : Γ.g0 ≤ gen) {xs : List (List DV)} {cs : Array Value} {z : Value} {e : TypeId} (hrow : RowRel K w sz xs cs) (hz : z.cells.size = sz) (hneed : xs.length = need) (hcap : need ≤ cap) :
    Mono K w (K.add gen w.heap.size) (w.drew.alloc (.cells (cs ++ Builtin.zeroCells z.cells (cap - need)) e)) ∧ Inv Γ (K.add gen w.heap.size) (fun j => if j = k then some ⟨gen, sz, xs⟩ else H j) (w.drew.alloc (.cells (cs ++ Builtin.zeroCells z.cells (cap - need)) e)) ∧
      VRel (K.add gen w.heap.size) (w.drew.alloc (.cells (cs ++ Builtin.zeroCells z.cells (cap - need)) e)) (.sl k gen sz 0 need false) (.slice (some ⟨w.heap.size, 0, none⟩) need cap) := by
  have hd : Mono K w K w.drew := ⟨Ext.heap_eq rfl rfl rfl rfl, fun n h => ⟨h, rfl⟩, fun g _ h => h⟩
  have hId : Inv Γ K H w.drew := ⟨hI.ext.trans (Ext.heap_eq rfl rfl rfl rfl), hI.base, fun k o h => (hI.obj k o h).mono hd id (fun _ => rfl), hI.inj, hI.dr, hI.lt, hI.dobj, hI.own⟩
  have hsz : (cs ++ Builtin.zeroCells z.cells (cap - need)).size = cap * sz := by
    rw [Array.size_append, hrow.1, hneed]
    simp only [Builtin.zeroCells, Array.size_map, Array.size_range, hz]
    rw [← Nat.add_mul]
    congr 1
    omega
  have hsize : w.drew.heap.size = w.heap.size := rfl
  refine ⟨hd.trans (mono_alloc _ (fun h => hg (hI.dr _ h))), ?_, ?_⟩
  · refine inv_add (w := w.drew) hId hg hg0 ?_ hrow.2.1 (fun i x j d hx hd' => ?_)
    · rw [hsz, hneed]; exact Nat.mul_le_mul_right _ hcap
    · obtain ⟨c, e1, e2⟩ := hrow.2.2 i x j d hx hd'
      exact ⟨c, by rw [Array.getElem?_append_left (Array.getElem?_eq_some_iff.1 e1).1]; exact e1, e2.mono hd⟩
  · refine .sl hcap (fun h => by cases h) (.inr ⟨.inr rfl, ?_, cs ++ Builtin.zeroCells z.cells (cap - need), e, (0, 0), ?_, ?_, fun _ => ?_⟩)
    · simp [Kr.add]
    · simp only [Kr.add, if_true]
      exact heap_new w.drew _
    · rw [hsz]; simp
    · rw [hsz]; simp
structure AppOk (P : Program) (o : Oper) (sz bytes : Nat) (p q : Operand) (c : Call) (t t' e e' : TypeId) (i : TypeInfo) (z : Value) : Prop where
  op : o.op = .call c
  callee : c.callee = .builtin .append
  args : c.args = #[p, q]
  types : c.argTypes = #[t, t']
  und : P.underlying t = some (.slice e)
  und' : P.underlying t' = some (.slice e')
  info : P.info? e = some i
  size : i.size = sz
  byte : i.bytes = bytes
  zero : i.zero = some z
  zsize : z.cells.size = sz
  pos : 0 < sz
theorem app_exec {a : Act} {w : World} {sz bytes : Nat} {p q : Operand} {c : Call} {t t' e e' : TypeId} {i : TypeInfo} {z : Value} (h : AppOk P o sz bytes p q c t t' e e' i z) {r : Value} {w' : World} (hr : (Builtin.append_ #[t, t'] o.type #[a.eval p, a.eval q]).run P w = .ok r w') : (execOp a.eval o).run P w = .ok (.value r) w' := by
  simp [execOp, h.op, resolve, h.callee, h.args, h.types, invoke, builtin, hr]
theorem stp_appNew {k sz bytes : Nat} {x y : XA} {p q : Operand} {c : Call} {t t' e e' : TypeId} {i : TypeInfo} {z : Value} (hA : AppOk P o sz bytes p q c t t' e e' i z) (h1 : okA p x = true) (h2 : okA q y = true)
    {ys xs : List (List DV)} {ty tx : List Nat} {py px : Prop} (hy : elemsR sz H (evT tm y) = .ok ys ty py) (hpy : py) (hx : elemsR sz H (evT tm x) = .ok xs tx px) (hpx : px) (hfull : ∀ (K : Kr) (w : World) (A : Option Addr) (m cp : Nat), VRel K w (evT tm x) (.slice A m cp) → cp = m)
    (hc : (0 < ys.length ∨ xs.length = 0) ∧ allOnes xs = true ∧ allOnes ys = true ∧ room (xs.length + ys.length) bytes) :
    Stp P o (x.reads ++ y.reads) tm H gen (.sl k gen sz 0 (xs.length + ys.length) false) (k :: appN tx ty) [(k, some ⟨gen, sz, xs ++ ys⟩)] 1 := by
  have happ : ∀ (a b : List Nat) (j : Nat), j ∈ a ∨ j ∈ b → j ∈ appN a b := by
    intro a
    induction a with
    | nil => intro b j h; rcases h with h | h; · simp at h
             · exact h
    | cons u v ih =>
      intro b j h
      simp only [appN, List.mem_cons] at h ⊢
      rcases h with (h | h) | h
      · exact .inl h
      · exact .inr (ih b j (.inl h))
      · exact .inr (ih b j (.inr h))
  intro Γ K H' a w Q next hI ht hr hf hg0 hnext
  have hg : ¬ K.dom gen := hf gen (Nat.le_refl _) (by omega)
  have r1 := okA_rel' (reads_l hr) h1
  have r2 := okA_rel' (reads_r hr) h2
  obtain ⟨A1, m1, c1, e1, l1, news1, q1, f1⟩ := elems_sound (P := P) hI hA.pos r1 hx hpx (fun j hj => ht j (List.mem_cons_of_mem _ (happ _ _ j (.inl hj))))
  obtain ⟨A2, m2, c2, e2, l2, news2, q2, f2⟩ := elems_sound (P := P) hI hA.pos r2 hy hpy (fun j hj => ht j (List.mem_cons_of_mem _ (happ _ _ j (.inr hj))))
  rw [e1] at r1 f1
  rw [e2] at f2
  have hcap := hfull K w A1 m1 c1 r1
  subst hcap
  obtain ⟨g1, g2, g3, g4, g5⟩ := hc
  rw [l1, l2] at g4 g5
  by_cases hm : 0 < m2
  · have hrun := run_append_new (P := P) (ty := o.type) (base := A1) (A := A2) (sLen := c1) (sCap := c1) (m := m2) (c := c2) hA.und hA.und' hA.info hA.zero (fun w2 hw2 => by rw [hA.size]; exact f2 w2 hw2) (fun w2 hw2 => by rw [hA.size]; exact f1 w2 hw2) (by omega) g4 (by rw [hA.byte]; exact g5)
    rw [← e1, ← e2] at hrun
    have hfr := app_fresh (k := k) (e := e) hI hg hg0 (rowRel_app q1 q2) hA.zsize (need := c1 + m2) (by simp [l1, l2]) (grownCap_ge w (c1 + m2) c1 e)
    refine wp_value (app_exec hA hrun) (hnext _ _ _ hfr.1 ?_ ?_ ?_)
    · rw [updF_one]; exact hfr.2.1
    · rw [l1, l2]; exact hfr.2.2
    · intro m hm
      rcases hm with h | h
      · exact .inl h
      · exact .inr (by omega)
  · have hm0 : m2 = 0 := by omega
    subst hm0
    have hx0 : xs = [] := by
      rcases g1 with g1 | g1
      · omega
      · exact List.eq_nil_of_length_eq_zero g1
    subst hx0
    have hc0 : c1 = 0 := by simpa using l1.symm
    subst hc0
    have hys : ys = [] := List.eq_nil_of_length_eq_zero l2
    subst hys
    have hn2 : news2 = [] := by have := q2.1; simp at this; exact this
    subst hn2
    have hrun := run_append_fit (P := P) (ty := o.type) (base := A1) (A := A2) (sLen := 0) (sCap := 0) (m := 0) (c := c2) (w := w) (news := []) hA.und hA.und' hA.info (by rw [hA.size]; exact f2 w rfl) (by omega)
    have hrun' : (Builtin.append_ #[t, t'] o.type #[.slice A1 0 0, .slice A2 0 c2]).run P w = .ok (.slice A1 0 0) w := by
      rw [hrun]
      cases A1 <;> rfl
    rw [← e1, ← e2] at hrun'
    refine wp_value (app_exec hA hrun') (hnext (K.addv gen) w _ (mono_addv K w gen) ?_ ?_ ?_)
    · rw [updF_one]; exact inv_addv hI hg hg0
    · rw [e1]
      exact .sl (Nat.le_refl _) (fun h => by cases h) (.inl rfl)
    · intro m hm
      rcases hm with h | h
      · exact .inl h
      · exact .inr (by omega)
theorem stp_appSame {k sz bytes : Nat} {x y : XA} {p q : Operand} {c : Call} {t t' e e' : TypeId} {i : TypeInfo} {z : Value} (hA : AppOk P o sz bytes p q c t t' e e' i z) (h1 : okA p x = true) (h2 : okA q y = true)
    {ys : List (List DV)} {ty : List Nat} {py : Prop} (hy : elemsR sz H (evT tm y) = .ok ys ty py) (hpy : py) (hsl : ∀ (K : Kr) (w : World) (v : Value), VRel K w (evT tm x) v → ∃ A m cp, v = .slice A m cp ∧ m ≤ cp) (h0 : ys.length = 0) :
    Stp P o (x.reads ++ y.reads) tm H gen (evT tm x) ty [] 0 := by
  refine Stp.read fun Γ K H' a w hI ht hr => ?_
  have r1 := okA_rel' (reads_l hr) h1
  have r2 := okA_rel' (reads_r hr) h2
  obtain ⟨A2, m2, c2, e2, l2, news2, q2, f2⟩ := elems_sound (P := P) hI hA.pos r2 hy hpy ht
  rw [h0] at l2
  subst l2
  have hn2 : news2 = [] := by have := q2.1; rw [h0] at this; simp at this; exact this
  subst hn2
  obtain ⟨A1, m1, c1, e1, hle⟩ := hsl K w _ r1
  rw [e2] at f2
  have hrun := run_append_fit (P := P) (ty := o.type) (base := A1) (A := A2) (sLen := m1) (sCap := c1) (m := 0) (c := c2) (w := w) (news := []) hA.und hA.und' hA.info (by rw [hA.size]; exact f2 w rfl) (by omega)
  have hrun' : (Builtin.append_ #[t, t'] o.type #[.slice A1 m1 c1, .slice A2 0 c2]).run P w = .ok (.slice A1 m1 c1) w := by
    rw [hrun]
    cases A1 <;> rfl
  rw [← e1, ← e2] at hrun'
  exact ⟨_, app_exec hA hrun', r1⟩

theorem stp_appOwn {k kx n sz sz' lo len bytes : Nat} {x y : XA} {p q : Operand} {c : Call} {t t' e e' : TypeId} {i : TypeInfo} {z : Value} (hA : AppOk P o sz bytes p q c t t' e e' i z) (h1 : okA p x = true) (h2 : okA q y = true) {ob : AObj}
    {ys : List (List DV)} {ty : List Nat} {py : Prop} (hy : elemsR sz H (evT tm y) = .ok ys ty py) (hpy : py) (hx : evT tm x = .sl kx n sz' lo len false) (hob : lget H kx = some ob) (hid : ob.n = n ∧ ob.sz = sz' ∧ sz' = sz ∧ lo = 0 ∧ len = ob.xs.length)
    (hc : allOnes ys = true ∧ room (ob.xs.length + ys.length) bytes) :
    Stp P o (x.reads ++ y.reads) tm H gen (.sl k gen sz 0 (ob.xs.length + ys.length) false) (kx :: k :: ty) [(kx, none), (k, some ⟨gen, sz, ob.xs ++ ys⟩)] 1 := by
  obtain ⟨i1, i2, i3, rfl, i5⟩ := hid
  subst i3 i5
  obtain ⟨g3, g4, g5⟩ := hc
  intro Γ K H' a w Q next hI ht hr hf hg0 hnext
  have hg : ¬ K.dom gen := hf gen (Nat.le_refl _) (by omega)
  have r1 := okA_rel' (reads_l hr) h1
  have r2 := okA_rel' (reads_r hr) h2
  rw [hx] at r1
  obtain ⟨A2, m2, c2, e2, l2, news2, q2, f2⟩ := elems_sound (P := P) hI hA.pos r2 hy hpy (fun j hj => ht j (List.mem_cons_of_mem _ (List.mem_cons_of_mem _ hj)))
  rw [e2] at f2
  have hH := ht kx (by simp)
  rw [hob] at hH
  have hex : elemsR sz' H (evT tm x) = .ok (xtake (xdrop ob.xs 0) ob.xs.length) [kx] (ob.n = n ∧ ob.sz = sz' ∧ sz' = sz' ∧ 0 + ob.xs.length ≤ ob.xs.length) := by
    rw [hx]
    simp only [elemsR, hob, elemsO]
  obtain ⟨A1, m1, c1, e1, l1, news1, q1, f1⟩ := elems_sound (P := P) hI hA.pos (by rw [hx]; exact r1) hex ⟨i1, i2, rfl, by omega⟩ (fun j hj => by simp at hj; rw [hj]; exact ht kx (by simp))
  have hxs : xtake (xdrop ob.xs 0) ob.xs.length = ob.xs := by rw [xtake_eq, xdrop_eq]; simp
  rw [hxs] at q1 l1
  rw [e1] at r1 f1
  subst l1
  rw [l2] at g4 g5
  have hupd : ∀ e : AObj, updF H' [(kx, none), (k, some e)] = fun j => if j = k then some e else (if j = kx then none else H' j) := fun e => rfl
  have hlen : (ob.xs ++ ys).length = ob.xs.length + m2 := by simp [l2]
  by_cases hfit : ob.xs.length + m2 ≤ c1
  · have hrun := run_append_fit (P := P) (ty := o.type) (base := A1) (A := A2) (sLen := ob.xs.length) (sCap := c1) (m := m2) (c := c2) (w := w) (news := news2) hA.und hA.und' hA.info (by rw [hA.size]; exact f2 w rfl) hfit
    cases r1 with
    | sl hlc hff h =>
      by_cases hc0 : c1 = 0
      · -- no room and none wanted: the value stays
        subst hc0
        have hm0 : m2 = 0 := by omega
        have hx0 : ob.xs = [] := List.eq_nil_of_length_eq_zero (by omega)
        subst hm0
        have hys : ys = [] := List.eq_nil_of_length_eq_zero l2
        subst hys
        have hn2 : news2 = [] := by have := q2.1; simp at this; exact this
        subst hn2
        have hrun' : (Builtin.append_ #[t, t'] o.type #[.slice A1 ob.xs.length 0, .slice A2 0 c2]).run P w = .ok (.slice A1 ob.xs.length 0) w := by
          rw [hrun]
          cases A1 <;> rfl
        rw [← e1, ← e2] at hrun'
        refine wp_value (app_exec hA hrun') (hnext (K.addv gen) w _ (mono_addv K w gen) ?_ ?_ ?_)
        · rw [hupd, hx0]
          exact inv_addv (inv_drop hI kx) hg hg0
        · rw [e1]
          exact .sl (by simpa using hlc) (fun h => by cases h) (.inl rfl)
        · intro m hm
          rcases hm with h | h
          · exact .inl h
          · exact .inr (by omega)
      · rcases h with h | ⟨hreal, hA1, csb, tb, frb, hb1, hb2, hb3⟩
        · exact absurd h hc0
        · subst hA1
          rw [← i1] at hreal hb1
          rcases hI.obj kx ob hH with ⟨u1, _⟩ | ⟨u1, cs, tt, u3, u4, u5, u6⟩
          · exact absurd hreal u1
          · rw [u3] at hb1
            obtain ⟨rfl, rfl, rfl⟩ := hb1
            have hb3' := hb3 rfl
            rw [Nat.zero_add] at hb3'
            have hnl : news2.length = m2 * sz' := by have := q2.1; rw [l2] at this; simpa using this
            have hroom : ob.xs.length * sz' + news2.length ≤ csb.size := by
              rw [hnl, ← hb3', ← Nat.add_mul]
              exact Nat.mul_le_mul_right _ hfit
            have hone : ∀ v ∈ news2, v.oneCell' = true := fun v hv => rowRel_one hA.pos q2 g3 v (by simpa using hv)
            have hst := run_storeCells_at P (K.μ ob.n) (ob.xs.length * sz') tb news2 0 csb w u3 (by simpa using hroom) hone
            simp only [Nat.add_zero] at hst
            have hst' : (storeCells ((⟨K.μ n, 0 * sz', none⟩ : Addr).add (ob.xs.length * i.size)) news2).run P w = .ok () (w.setRow (K.μ ob.n) (csb.toList.take (ob.xs.length * sz') ++ news2 ++ csb.toList.drop (ob.xs.length * sz' + news2.length)).toArray) := by
              rw [addr_add, hA.size, Nat.zero_mul, Nat.zero_add, ← i1]
              exact hst
            simp only [hst', Result.andThen_ok] at hrun
            rw [← e1, ← e2] at hrun
            have hsize : (csb.toList.take (ob.xs.length * sz') ++ news2 ++ csb.toList.drop (ob.xs.length * sz' + news2.length)).toArray.size = csb.size := by
              simp only [List.size_toArray, List.length_append, List.length_take, List.length_drop, Array.length_toList]
              omega
            have hw := inv_write hI hH u1 u3 hsize (xs := ob.xs ++ ys) (by rw [hlen, i2, ← hb3']; exact Nat.mul_le_mul_right _ hfit) (fun x' hx' => by
              rcases List.mem_append.1 hx' with h | h
              · exact u5 x' h
              · rw [i2]; exact q2.2.1 x' h) (fun i' x' j' d' hx' hd' => by
              rw [getElem?_splice_arr hroom]
              by_cases hi' : i' < ob.xs.length
              · rw [List.getElem?_append_left hi'] at hx'
                have hj' : j' < ob.sz := by rw [← u5 x' (List.mem_of_getElem? hx')]; exact (List.getElem?_eq_some_iff.1 hd').1
                have hlt : (i' + 1) * sz' ≤ ob.xs.length * sz' := Nat.mul_le_mul_right _ hi'
                rw [Nat.add_mul, Nat.one_mul] at hlt
                rw [if_neg (by rw [i2] at hj' ⊢; omega)]
                exact u6 i' x' j' d' hx' hd'
              · rw [List.getElem?_append_right (by omega)] at hx'
                obtain ⟨cv, k1, k2⟩ := q2.2.2 (i' - ob.xs.length) x' j' d' hx' hd'
                have hge : ob.xs.length * sz' ≤ i' * sz' := Nat.mul_le_mul_right _ (by omega)
                have hlt := (Array.getElem?_eq_some_iff.1 k1).1
                simp only [List.size_toArray] at hlt
                rw [Nat.sub_mul] at hlt k1
                rw [if_pos (by rw [i2]; omega)]
                refine ⟨cv, ?_, k2⟩
                rw [List.getElem?_toArray] at k1
                rw [← k1]
                congr 1
                rw [i2]
                omega)
            have hw2 : (fun j => if j = kx then some (⟨ob.n, ob.sz, ob.xs ++ ys⟩ : AObj) else H' j) kx = some ⟨ob.n, ob.sz, ob.xs ++ ys⟩ := if_pos rfl
            have hren := inv_ren (k := k) hw.2 hw2 u1 hg hg0
            have hnr : ¬ K.real gen := fun h => hg (hI.dr _ h)
            refine wp_value (app_exec hA hrun) (hnext (K.ren gen (K.μ ob.n)) _ _ (hw.1.trans (mono_ren _ _ hnr)) ?_ ?_ ?_)
            · rw [hupd]
              have : (fun j => if j = k then some (⟨gen, ob.sz, ob.xs ++ ys⟩ : AObj) else if j = kx then none else if j = kx then some ⟨ob.n, ob.sz, ob.xs ++ ys⟩ else H' j) = (fun j => if j = k then some (⟨gen, sz', ob.xs ++ ys⟩ : AObj) else if j = kx then none else H' j) := by
                funext j
                rw [i2]
                by_cases e1 : j = k
                · rw [if_pos e1, if_pos e1]
                · rw [if_neg e1, if_neg e1]
                  by_cases e2 : j = kx
                  · rw [if_pos e2, if_pos e2]
                  · rw [if_neg e2, if_neg e2, if_neg e2]
              rw [← this]
              exact hren
            · rw [l2]
              refine .sl hfit (fun h => by cases h) (.inr ⟨.inr rfl, ?_, (csb.toList.take (ob.xs.length * sz') ++ news2 ++ csb.toList.drop (ob.xs.length * sz' + news2.length)).toArray, tb, (0, 0), ?_, ?_, fun _ => ?_⟩)
              · simp only [Kr.ren, if_true, i1]
              · simp only [Kr.ren, if_true]
                exact setRow_heap w _ _ _ _ _ u3
              · rw [hsize, Nat.zero_add, hb3']; exact Nat.le_refl _
              · rw [hsize, Nat.zero_add, hb3']
            · intro m hm
              rcases hm with h | h
              · exact .inl h
              · exact .inr (by omega)
  · have hrun := run_append_new (P := P) (ty := o.type) (base := A1) (A := A2) (sLen := ob.xs.length) (sCap := c1) (m := m2) (c := c2) hA.und hA.und' hA.info hA.zero (fun w2 hw2 => by rw [hA.size]; exact f2 w2 hw2) (fun w2 hw2 => by rw [hA.size]; exact f1 w2 hw2) (by omega) g4 (by rw [hA.byte]; exact g5)
    rw [← e1, ← e2] at hrun
    have hfr := app_fresh (k := k) (e := e) (inv_drop hI kx) hg hg0 (rowRel_app q1 q2) hA.zsize (need := ob.xs.length + m2) hlen (grownCap_ge w (ob.xs.length + m2) c1 e)
    refine wp_value (app_exec hA hrun) (hnext _ _ _ hfr.1 ?_ ?_ ?_)
    · rw [hupd]; exact hfr.2.1
    · rw [l2]; exact hfr.2.2
    · intro m hm
      rcases hm with h | h
      · exact .inl h
      · exact .inr (by omega)
theorem stp_append {k sz bytes : Nat} {x y : XA} {p q : Operand} {c : Call} {t t' e e' : TypeId} {i : TypeInfo} {z : Value} (hA : AppOk P o sz bytes p q c t t' e e' i z) (h1 : okA p x = true) (h2 : okA q y = true) :
    (appY k sz bytes gen H (evT tm x) (elemsR sz H (evT tm y))).all (fun d t wr g => Stp P o (x.reads ++ y.reads) tm H gen d t wr g) (fun _ _ => False) := by
  cases hy : elemsR sz H (evT tm y) with
  | bad => exact trivial
  | ok ys ty py =>
    intro hpy
    split
    · rename_i kx n sz' lo len hx
      cases hob : lget H kx with
      | none => exact trivial
      | some ob => exact fun hid hc => stp_appOwn hA h1 h2 hy hpy hx hob hid hc
    all_goals first
      | exact trivial
      | (rename_i hx
         unfold appNew
         split
         · rename_i xs tx px hxx
           intro hpx
           refine ⟨fun hc => stp_appNew hA h1 h2 hy hpy (by rw [hx]; exact hxx) hpx (fun K w A m cp hv => ?_) hc, fun h0 => ?_⟩
           · rw [hx] at hv
             first
               | (cases hv with | sl hlc hf h => exact hf rfl)
               | (cases hv with | snap f hl hlc hc hs ha hcell h => exact hc rfl)
               | (have := vrel_v hv; injection this with e1 e2 e3; rw [e2, e3])
           · rw [← hx]
             refine stp_appSame (k := k) hA h1 h2 hy hpy (fun K w v hv => ?_) h0
             rw [hx] at hv
             first
               | (cases hv with | sl hlc hf h => exact ⟨_, _, _, rfl, hlc⟩)
               | (cases hv with | snap f hl hlc hc hs ha hcell h => exact ⟨_, _, _, rfl, hlc⟩)
               | (exact ⟨none, 0, 0, vrel_v hv, Nat.le_refl _⟩)
         · exact trivial)
end

/-!  A symbolic walk over any program, part 7: all operations in one theorem; what a function is said to do; a region, in the order of its text. -/

theorem Res.all_mono {φ φ' : DV → List Nat → List (Nat × Option AObj) → Nat → Prop} {ψ ψ' : FuncId → List DV → Prop} (h : ∀ d t w g, φ d t w g → φ' d t w g) (h2 : ∀ f a, ψ f a → ψ' f a) : ∀ {r : Res}, r.all φ ψ → r.all φ' ψ'
  | .ok d t w g, hr => h _ _ _ _ hr
  | .ite t x y, hr => ⟨fun ht => Res.all_mono h h2 (hr.1 ht), fun ht => Res.all_mono h h2 (hr.2 ht)⟩
  | .need p x, hr => fun hp => Res.all_mono h h2 (hr hp)
  | .alt x y, hr => ⟨Res.all_mono h h2 hr.1, Res.all_mono h h2 hr.2⟩
  | .call f a, hr => h2 _ _ hr
  | .bad, _ => trivial

/-- Values lie as the deep values say, one by one. -/
def ArgsRel (K : Kr) (w : World) (ds : List DV) (vs : Array Value) : Prop := vs.size = ds.length ∧ ∀ (i : Nat) (d : DV) (v : Value), ds[i]? = some d → vs[i]? = some v → VRel K w d v
def CallLeaf (P : Program) (o : Oper) (rs : List Sl) (tm : Env) (f : FuncId) (ds : List DV) : Prop :=
  ∀ (K : Kr) (a : Act) (w : World), (∀ s ∈ rs, VRel K w (tm.get s) (a.tmps.getD s.nat undef)) → ∃ vs, (execOp a.eval o).run P w = .ok (.enter f vs) w ∧ ArgsRel K w ds vs

section
variable {P : Program} {o : Oper} {tm : Env} {H : HL} {gen : Nat}
theorem args_rel {K : Kr} {a : Act} {w : World} : ∀ {xs : List Operand} {ys : List XA}, okArgs xs ys = true → (∀ s ∈ ys.flatMap XA.reads, VRel K w (tm.get s) (a.tmps.getD s.nat undef)) → ArgsRel K w (evs tm ys) (xs.map a.eval).toArray
  | [], [], _, _ => ⟨rfl, fun i d v h => by simp [evs] at h⟩
  | [], _ :: _, h, _ => by simp [okArgs] at h
  | _ :: _, [], h, _ => by simp [okArgs] at h
  | x :: xs, y :: ys, h, hr => by
    simp only [okArgs, Bool.and_eq_true] at h
    obtain ⟨i1, i2⟩ := args_rel (K := K) (a := a) (w := w) h.2 (fun s hs => hr s (by
      obtain ⟨q, hq, hs'⟩ := List.mem_flatMap.1 hs
      exact List.mem_flatMap.2 ⟨q, List.mem_cons_of_mem _ hq, hs'⟩))
    have rv : VRel K w (evT tm y) (a.eval x) := okA_rel' (fun s hs => hr s (List.mem_flatMap.2 ⟨_, List.mem_cons_self, hs⟩)) h.1
    refine ⟨by simp [evs] at i1 ⊢; exact i1, fun i d v hd hv => ?_⟩
    cases i with
    | zero =>
      simp [evs] at hd hv
      rw [← hd, ← hv]
      exact rv
    | succ i =>
      simp only [evs, List.getElem?_cons_succ] at hd
      exact i2 i d v hd (by simpa using hv)
theorem leaf_call {f g : FuncId} {as : List XA} {c : Call} {fn : Func} (hop : o.op = .call c) (hc : c.callee = .value (.func g)) (hfg : f = g) (ha : okArgs c.args.toList as = true) (hfn : P.funcs[f]? = some fn) (hb : fn.body.isSome = true) (hnm : (fn.name == "runtime.NumGoroutine") = false) :
    CallLeaf P o (as.flatMap XA.reads) tm f (evs tm as) := by
  intro K a w hr
  subst hfg
  refine ⟨(c.args.toList.map a.eval).toArray, ?_, args_rel ha hr⟩
  have hbn : ¬ fn.body = none := by intro e; rw [e] at hb; cases hb
  have hn2 : ¬ fn.name = "runtime.NumGoroutine" := by simpa using hnm
  have e : c.args.map a.eval = (c.args.toList.map a.eval).toArray := by apply Array.ext'; simp
  simp [execOp, hop, resolve, hc, Act.eval, Deferred.ofValue, invoke, callFunc, hfn, hn2, hbn, e]

theorem ex1_sound {x : XO} {st : St} (h : okO P o.op x = true) : (ex1 st x).all (fun d t wr g => Stp P o x.reads st.tm st.H st.gen d t wr g) (fun f ds => CallLeaf P o x.reads st.tm f ds) := by
  have up : ∀ {r : Res}, r.all (fun d t wr g => Stp P o x.reads st.tm st.H st.gen d t wr g) (fun _ _ => False) → r.all (fun d t wr g => Stp P o x.reads st.tm st.H st.gen d t wr g) (fun f ds => CallLeaf P o x.reads st.tm f ds) :=
    fun hr => Res.all_mono (fun _ _ _ _ h => h) (fun _ _ h => h.elim) hr
  cases x with
  | move b =>
    simp only [okO] at h
    split at h
    · rename_i a hop; exact stp_move (.inl hop) h
    · rename_i a hop; exact stp_move (.inr hop) h
    · cases h
  | pick c a b =>
    simp only [okO] at h
    split at h
    · rename_i c' a' b' hop
      simp only [Bool.and_eq_true] at h
      exact up (stp_pick hop h.1.1 h.1.2 h.2)
    · cases h
  | box k n b =>
    simp only [okO] at h
    split at h
    · rename_i t a hop
      simp only [Bool.and_eq_true] at h
      exact up (stp_box hop h.1 h.2)
    · cases h
  | alloc k zs =>
    simp only [okO] at h
    split at h
    · rename_i t hop; exact stp_alloc hop h
    · cases h
  | build zs parts =>
    simp only [okO] at h
    split at h
    · rename_i t ps hop
      simp only [Bool.and_eq_true] at h
      obtain ⟨⟨h1, h2⟩, h3⟩ := h
      split at h2
      · rename_i fs hfs
        exact fun hk => stp_build hop h1 hfs h2 h3 hk
      · cases h2
    · cases h
  | buildSlice k len zs parts =>
    simp only [okO] at h
    split at h
    · rename_i t n ps hop
      simp only [Bool.and_eq_true, decide_eq_true_eq] at h
      obtain ⟨⟨h1, h2⟩, h3⟩ := h
      split at h2
      · rename_i e hu
        simp only [Bool.and_eq_true, decide_eq_true_eq] at h2
        exact fun hk => stp_buildSlice hop h1 hu h2.1.1 h2.1.2 h2.2 h3 hk
      · cases h2
    · cases h
  | load ag n p =>
    simp only [okO] at h
    split at h
    · rename_i t a hop
      simp only [Bool.and_eq_true, Bool.or_eq_true, decide_eq_true_eq] at h
      exact up (stp_load hop h.1.1.1 h.1.1.2 h.1.2 h.2)
    · cases h
  | store n p b =>
    simp only [okO] at h
    split at h
    · rename_i t q a hop
      simp only [Bool.and_eq_true] at h
      exact up (stp_store hop h.1.1 h.1.2 h.2)
    · cases h
  | nilCheck b =>
    simp only [okO] at h
    split at h
    · rename_i a hop; exact up (stp_nil hop h)
    · cases h
  | fieldAddr off p =>
    simp only [okO] at h
    split at h
    · rename_i t a i hop
      simp only [Bool.and_eq_true] at h
      obtain ⟨h1, h2⟩ := h
      split at h2
      · rename_i fs hu
        split at h2
        · rename_i f hf
          simp only [Bool.and_eq_true, decide_eq_true_eq] at h2
          exact up (stp_field hop h1 hu hf h2.1.1 h2.1.2 h2.2)
        · cases h2
      · cases h2
    · cases h
  | field ag off n b =>
    simp only [okO] at h
    split at h
    · rename_i t a i hop
      simp only [Bool.and_eq_true] at h
      obtain ⟨h1, h2⟩ := h
      split at h2
      · rename_i fs hu
        split at h2
        · rename_i f hf
          simp only [Bool.and_eq_true, Bool.or_eq_true, decide_eq_true_eq] at h2
          exact up (stp_fieldv hop h1 hu hf h2.1.1.1 h2.1.1.2 h2.1.2 h2.2)
        · cases h2
      · cases h2
    · cases h
  | bin op b c =>
    simp only [okO] at h
    split at h
    · rename_i o' t a d t' hop
      simp only [Bool.and_eq_true, decide_eq_true_eq] at h
      obtain ⟨⟨rfl, h1⟩, h2⟩ := h
      exact up (stp_bin hop h1 h2)
    · cases h
  | un op b =>
    simp only [okO] at h
    split at h
    · rename_i o' t a hop
      simp only [Bool.and_eq_true, decide_eq_true_eq] at h
      obtain ⟨rfl, h1⟩ := h
      exact up (stp_un hop h1)
    · cases h
  | convInt k b =>
    simp only [okO] at h
    split at h
    · rename_i s d a hop
      simp only [Bool.and_eq_true] at h
      obtain ⟨⟨h1, h2⟩, h3⟩ := h
      split at h2
      · rename_i ds hs
        split at h3
        · rename_i k' hd; exact up (stp_conv hop h1 hs hd h3)
        · cases h3
      · cases h2
    · cases h
  | extract i b =>
    simp only [okO] at h
    split at h
    · rename_i a j hop
      simp only [Bool.and_eq_true, decide_eq_true_eq] at h
      obtain ⟨h1, rfl⟩ := h
      exact up (stp_ext hop h1)
    · cases h
  | len b =>
    simp only [okO] at h
    split at h
    · rename_i c hop
      simp only [Bool.and_eq_true] at h
      obtain ⟨h1, h2⟩ := h
      split at h1
      · rename_i hc
        split at h2
        · rename_i a t ha hat
          simp only [Bool.and_eq_true] at h2
          obtain ⟨h2, h3⟩ := h2
          split at h3
          · rename_i e hu
            exact up (stp_len hop hc (Array.ext' ha) (Array.ext' hat) h2 hu)
          · cases h3
        · cases h2
      · cases h1
    · cases h
  | indexSl sz b i =>
    simp only [okO] at h
    split at h
    · rename_i t a q hop
      simp only [Bool.and_eq_true] at h
      obtain ⟨⟨h1, h2⟩, h3⟩ := h
      split at h3
      · rename_i e hu; exact up (stp_indexSl hop h1 h2 hu h3)
      · cases h3
    · cases h
  | indexArr sz n b i =>
    simp only [okO] at h
    split at h
    · rename_i t a q hop
      simp only [Bool.and_eq_true] at h
      obtain ⟨⟨h1, h2⟩, h3⟩ := h
      split at h3
      · rename_i m e hu
        simp only [Bool.and_eq_true, decide_eq_true_eq] at h3
        exact up (stp_indexArr hop h1 h2 hu h3.1.1 h3.1.2)
      · cases h3
    · cases h
  | append k sz bytes b d =>
    simp only [okO] at h
    split at h
    · rename_i c hop
      simp only [Bool.and_eq_true] at h
      obtain ⟨h1, h2⟩ := h
      split at h1
      · rename_i hc
        split at h2
        · rename_i a e t t' ha hat
          simp only [Bool.and_eq_true] at h2
          obtain ⟨⟨⟨k1, k2⟩, k3⟩, k4⟩ := h2
          split at k3
          · rename_i el hu
            simp only [Bool.and_eq_true, decide_eq_true_eq] at k3
            obtain ⟨⟨m1, m2⟩, m3⟩ := k3
            obtain ⟨inf, hinf, hsz⟩ := tySz_info m1
            rw [hinf] at m3
            simp only [Bool.and_eq_true, decide_eq_true_eq] at m3
            obtain ⟨m4, m5⟩ := m3
            split at m5
            · rename_i z hz
              split at k4
              · rename_i el' hu'
                exact up (stp_append ⟨hop, hc, Array.ext' ha, Array.ext' hat, hu, hu', hinf, hsz, m4, hz, of_decide_eq_true m5, m2⟩ k1 k2)
              · cases k4
            · cases m5
          · cases k3
        · cases h2
      · cases h1
    · cases h
  | eqs neg ks b d =>
    simp only [okO] at h
    split at h
    · rename_i o' t a e t' hop
      simp only [Bool.and_eq_true, decide_eq_true_eq, Bool.not_eq_true'] at h
      obtain ⟨⟨⟨⟨⟨k1, k2⟩, k3⟩, k4⟩, k5⟩, k6⟩ := h
      exact up (stp_eqs hop k1 k2 k3 k4 k5 k6)
    · cases h
  | eqb neg b d =>
    simp only [okO] at h
    split at h
    · rename_i o' t a e t' hop
      simp only [Bool.and_eq_true] at h
      obtain ⟨⟨⟨k1, k2⟩, k3⟩, k4⟩ := h
      split at k4
      · rename_i hu; exact up (stp_eqb hop k1 k2 k3 hu)
      · cases k4
    · cases h
  | minI b d =>
    simp only [okO] at h
    split at h
    · rename_i c hop
      simp only [Bool.and_eq_true] at h
      obtain ⟨h1, h2⟩ := h
      split at h1
      · rename_i hc
        split at h2
        · rename_i a e t t' ha hat
          simp only [Bool.and_eq_true] at h2
          exact up (stp_min (mx := false) hop hc (Array.ext' ha) h2.1 h2.2)
        · cases h2
      · cases h1
    · cases h
  | maxI b d =>
    simp only [okO] at h
    split at h
    · rename_i c hop
      simp only [Bool.and_eq_true] at h
      obtain ⟨h1, h2⟩ := h
      split at h1
      · rename_i hc
        split at h2
        · rename_i a e t t' ha hat
          simp only [Bool.and_eq_true] at h2
          exact up (stp_min (mx := true) hop hc (Array.ext' ha) h2.1 h2.2)
        · cases h2
      · cases h1
    · cases h
  | call f as =>
    simp only [okO] at h
    split at h
    · rename_i c hop
      simp only [Bool.and_eq_true] at h
      obtain ⟨⟨h1, h2⟩, h3⟩ := h
      split at h1
      · rename_i g hc
        split at h3
        · rename_i fn hfn
          simp only [Bool.and_eq_true, Bool.not_eq_true'] at h3
          exact leaf_call hop hc (of_decide_eq_true h1) h2 hfn h3.1 h3.2
        · cases h3
      · cases h1
    · cases h
end

/-!  A symbolic walk over any program, part 8: what a function is said to do; a list of operations, run on deep values; the model's run in the order of the text. -/

/-- Names of now; blocks that were there. -/
def Kr.cut (K : Kr) (w : World) : Kr := ⟨K.dom, K.real, K.μ, fun g => K.M g ∧ g < w.heap.size⟩
/-- The frame of a callee that is lent the objects of H0. -/
def lend (K : Kr) (w : World) (g0 : Nat) (H0 : HL) : Gm := ⟨w, fun g => ∃ k o, lget H0 k = some o ∧ K.real o.n ∧ K.μ o.n = g, K.cut w, g0⟩
/-- What a function is said to do with arguments of which this is known, and objects lent to it: it returns, and of what it returns and of these objects R holds. -/
def HSpec (P : Program) (f : FuncId) (ds : List DV) (H0 : HL) (R : DV → HL → Prop) : Prop :=
  ∀ (K : Kr) (w : World) (vs : Array Value) (g0 : Nat), Inv (lend K w g0 H0) (K.cut w) (lget H0) w → (∀ n, K.dom n → n < g0) → ArgsRel (K.cut w) w ds vs →
    Calls P f vs w fun e w' => ∃ v d H1, e = .returned v ∧ R d H1 ∧ Inv (lend K w g0 H0) (K.cut w) (lget H1) w' ∧ VRel (K.cut w) w' d v
def Spec (P : Program) (f : FuncId) (ds : List DV) (D : DV) : Prop := HSpec P f ds [] fun d H => d = D ∧ H = []

structure Rec where
  (touch wr : List Nat)
def putE (tm : Env) (d : Option Sl) (v : DV) : Env :=
  match d with
  | some s => tm.set s v
  | none => tm
def updL : HL → List (Nat × Option AObj) → HL
  | H, [] => H
  | H, (k, o) :: r => updL (lset H k o) r
def keysOf : List (Nat × Option AObj) → List Nat
  | [] => []
  | (k, _) :: r => k :: keysOf r
def zipO : List Nat → HL → List (Nat × Option AObj)
  | k :: r, o :: s => (k, o) :: zipO r s
  | _, _ => []
def lgets (H : HL) : List Nat → HL
  | [] => []
  | k :: r => lget H k :: lgets H r
/-- A call: objects at the places ks are lent; the callee knows the arguments as ds'. -/
def runC (P : Program) (F : List XOp → St → List Rec → Prop) (r : List XOp) (st : St) (dst : Option Sl) (tr : List Rec) (f : FuncId) (ds : List DV) : Prop :=
  ∃ (ks : List Nat) (ds' : List DV) (D : DV) (H1 : HL), (∀ K w vs, ArgsRel K w ds vs → ArgsRel K w ds' vs) ∧ ks.Nodup ∧ H1.length = ks.length ∧ HSpec P f ds' (lgets st.H ks) (fun d H => d = D ∧ H = H1) ∧
    F r ⟨putE st.tm dst D, updL st.H (zipO ks H1), st.gen⟩ (⟨ks, ks⟩ :: tr)
def runR (P : Program) (F : List XOp → St → List Rec → Prop) (r : List XOp) (st : St) (dst : Option Sl) (tr : List Rec) : Res → Prop
  | .ok v t wr g => F r ⟨putE st.tm dst v, updL st.H wr, st.gen + g⟩ (⟨t, keysOf wr⟩ :: tr)
  | .ite t x y => match t with
    | true => runR P F r st dst tr x
    | false => runR P F r st dst tr y
  | .need p x => p ∧ runR P F r st dst tr x
  | .alt x y => runR P F r st dst tr x ∨ runR P F r st dst tr y
  | .call f ds => runC P F r st dst tr f ds
  | .bad => False
def skipR : Res := .ok (.v undef) [] [] 0
def gd2 (res : Res) (b : Bool) : DV → Res
  | .v (.bool t) => match b with
    | true => .ite t res skipR
    | false => .ite t skipR res
  | _ => .bad
def gd (tm : Env) (res : Res) : Option (Sl × Bool) → Res
  | none => res
  | some (s, b) => gd2 res b (tm.get s)
def run (P : Program) (Q : St → List Rec → Prop) : Nat → List XOp → St → List Rec → Prop
  | 0, _, _, _ => False
  | _ + 1, [], st, tr => Q st tr
  | n + 1, o :: r, st, tr => runR P (run P Q n) r st o.dst tr (gd st.tm (ex1 st o.op) o.g)

/-! The rules for the walk. -/
section
variable {P : Program} {F : List XOp → St → List Rec → Prop} {r : List XOp} {st : St} {dst : Option Sl} {tr : List Rec}
theorem runR_ok (v : DV) (t : List Nat) (wr : List (Nat × Option AObj)) (g : Nat) : runR P F r st dst tr (.ok v t wr g) = F r ⟨putE st.tm dst v, updL st.H wr, st.gen + g⟩ (⟨t, keysOf wr⟩ :: tr) := rfl
theorem runR_t (x y : Res) : runR P F r st dst tr (.ite true x y) = runR P F r st dst tr x := rfl
theorem runR_f (x y : Res) : runR P F r st dst tr (.ite false x y) = runR P F r st dst tr y := rfl
theorem runR_b {t : Bool} {x y : Res} (h1 : t = true → runR P F r st dst tr x) (h2 : t = false → runR P F r st dst tr y) : runR P F r st dst tr (.ite t x y) := by
  cases t with
  | true => exact h1 rfl
  | false => exact h2 rfl
theorem runR_n {p : Prop} {x : Res} (h1 : p) (h2 : runR P F r st dst tr x) : runR P F r st dst tr (.need p x) := ⟨h1, h2⟩
theorem runR_l {x y : Res} (h : runR P F r st dst tr x) : runR P F r st dst tr (.alt x y) := .inl h
theorem runR_r {x y : Res} (h : runR P F r st dst tr y) : runR P F r st dst tr (.alt x y) := .inr h
theorem runR_call {f : FuncId} {ds : List DV} {D : DV} (h1 : Spec P f ds D) (h2 : F r ⟨putE st.tm dst D, st.H, st.gen⟩ (⟨[], []⟩ :: tr)) : runR P F r st dst tr (.call f ds) :=
  ⟨[], ds, D, [], fun _ _ _ h => h, List.nodup_nil, rfl, h1, h2⟩
end

/-! The model's operations and the list: which stand for which. -/
def okDst (N : Nat) : Option Tmp → Option Sl → Bool
  | none, none => true
  | some t, some s => decide (t = s.nat) && decide (t < N)
  | _, _ => false
def okGd (ops : Array Oper) : Option (Nat × Bool) → Option (Sl × Bool) → Bool
  | none, none => true
  | some (j, b), some (s, c) => (b == c) && decide ((ops[j]?).bind (·.dst) = some s.nat)
  | _, _ => false
def okOp (P : Program) (N : Nat) (ops : Array Oper) (o : Oper) (x : XOp) : Bool := okO P o.op x.op && okDst N o.dst x.dst && okGd ops o.guard x.g
def okList (P : Program) (N : Nat) (ops : Array Oper) : List Oper → List XOp → Bool
  | [], [] => true
  | o :: r, x :: s => okOp P N ops o x && okList P N ops r s
  | _, _ => false

theorem updF_updL : ∀ (wr : List (Nat × Option AObj)) (H : HL), updF (lget H) wr = lget (updL H wr)
  | [], H => rfl
  | (k, o) :: r, H => by
    have e : (fun j => if j = k then o else lget H j) = lget (lset H k o) := by
      funext j
      rw [lget_lset]
    show updF (fun j => if j = k then o else lget H j) r = _
    rw [e]
    exact updF_updL r _
theorem getD_set (tmps : Array Value) (t s : Nat) (v : Value) (h : t < tmps.size) : (tmps.setIfInBounds t v).getD s undef = if s = t then v else tmps.getD s undef := by
  simp only [Array.getD_eq_getD_getElem?]
  by_cases e : s = t
  · subst e
    rw [if_pos rfl]
    simp [h]
  · rw [if_neg e, Array.getElem?_setIfInBounds_ne (fun q => e q.symm)]
theorem rel_put {Γ : Gm} {N : Nat} {st : St} {K K' : Kr} {a : Act} {w w' : World} (h : Rel Γ N st K a w) (m : Mono K w K' w') {H' : HL} (hI : Inv Γ K' (lget H') w') {g : Nat} (hf : ∀ n, K'.dom n → n < g) (hg : Γ.g0 ≤ g) {t : Option Tmp} {s : Option Sl} (hd : okDst N t s = true) {d : DV} {v : Value} (hv : VRel K' w' d v) :
    Rel Γ N ⟨putE st.tm s d, H', g⟩ K' (a.put t v) w' := by
  unfold okDst at hd
  split at hd
  · exact ⟨hI, hf, hg, h.size, h.defers, fun q => (h.tm q).mono m⟩
  · rename_i t s
    simp only [Bool.and_eq_true, decide_eq_true_eq] at hd
    obtain ⟨rfl, hlt⟩ := hd
    refine ⟨hI, hf, hg, by simp [Act.put, h.size], h.defers, fun q => ?_⟩
    show VRel K' w' ((st.tm.set s d).get q) ((a.tmps.setIfInBounds s.nat v).getD q.nat undef)
    rw [Env.get_set, getD_set _ _ _ _ (by rw [h.size]; exact hlt)]
    by_cases e : q = s
    · subst e
      rw [if_pos rfl, if_pos rfl]
      exact hv
    · rw [if_neg e, if_neg (fun e2 => e (Sl.nat_inj e2))]
      exact (h.tm q).mono m
  · cases hd

/-- A call of which a contract is known. -/
theorem cut_mono {K : Kr} {w w' : World} {W : Nat → Prop} (h : Ext W w w') (hW : ∀ g, g < w.heap.size → W g → K.M g) : Mono K w (K.cut w) w' :=
  ⟨h.weaken hW, fun n hn => ⟨hn, rfl⟩, fun g _ hM => hM.1⟩
theorem argsRel_cut {K : Kr} {w : World} {ds : List DV} {vs : Array Value} (h : ArgsRel K w ds vs) : ArgsRel (K.cut w) w ds vs :=
  ⟨h.1, fun i d v hd hv => (h.2 i d v hd hv).mono (cut_mono (Ext.refl (fun _ => False) w) (fun _ _ h => h.elim))⟩
theorem lget_lgets (H : HL) : ∀ (ks : List Nat) (i : Nat), lget (lgets H ks) i = (ks[i]?).bind (lget H)
  | [], i => by simp [lgets, lget]
  | k :: r, 0 => by simp [lgets, lget]
  | k :: r, i + 1 => by
    have := lget_lgets H r i
    simpa [lgets, lget] using this
theorem updF_at (k : Nat) : ∀ (ks : List Nat) (H1 : HL) (H : Nat → Option AObj), ks.Nodup → H1.length = ks.length →
    updF H (zipO ks H1) k = if k ∈ ks then (match ks.idxOf? k with | some i => lget H1 i | none => none) else H k
  | [], [], H, _, _ => by simp [zipO, updF]
  | [], _ :: _, H, _, hl => by simp at hl
  | _ :: _, [], H, _, hl => by simp at hl
  | j :: r, o :: s, H, hn, hl => by
    have hn' := List.nodup_cons.1 hn
    have ih := updF_at k r s (fun q => if q = j then o else H q) hn'.2 (by simpa using hl)
    show updF (fun q => if q = j then o else H q) (zipO r s) k = _
    rw [ih]
    by_cases hk : k = j
    · subst hk
      rw [if_neg hn'.1, if_pos rfl, if_pos (List.mem_cons_self)]
      simp [List.idxOf?, List.findIdx?_cons, lget]
    · by_cases hm : k ∈ r
      · rw [if_pos hm, if_pos (List.mem_cons_of_mem _ hm)]
        have hjk : (j == k) = false := by simp; exact fun e => hk e.symm
        simp only [List.idxOf?, List.findIdx?_cons, hjk]
        cases r.findIdx? (fun x => x == k) <;> simp [lget]
      · rw [if_neg hm, if_neg hk, if_neg (by simp [hk, hm])]

theorem idxOf_get {ks : List Nat} {k i : Nat} (h : ks.idxOf? k = some i) : ks[i]? = some k := by
  unfold List.idxOf? at h
  obtain ⟨h1, h2, _⟩ := List.findIdx?_eq_some_iff_getElem.1 h
  rw [List.getElem?_eq_getElem h1]
  simpa using h2
theorem idxOf_mem {ks : List Nat} {k : Nat} (h : k ∈ ks) : ∃ i, ks.idxOf? k = some i := by
  unfold List.idxOf?
  cases hq : ks.findIdx? (fun x => x == k) with
  | some i => exact ⟨i, rfl⟩
  | none =>
    have := List.findIdx?_eq_none_iff.1 hq k h
    simp at this
theorem nodup_get {ks : List Nat} (hn : ks.Nodup) {i j k : Nat} (h1 : ks[i]? = some k) (h2 : ks[j]? = some k) : i = j := by
  obtain ⟨a1, a2⟩ := List.getElem?_eq_some_iff.1 h1
  obtain ⟨b1, b2⟩ := List.getElem?_eq_some_iff.1 h2
  rcases Nat.lt_trichotomy i j with h | h | h
  · exact absurd (a2.trans b2.symm) (List.pairwise_iff_getElem.1 hn i j a1 b1 h)
  · exact h
  · exact absurd (b2.trans a2.symm) (List.pairwise_iff_getElem.1 hn j i b1 a1 h)

theorem inv_lend {Γ : Gm} {K : Kr} {H' : Nat → Option AObj} {H : HL} {w : World} (hI : Inv Γ K H' w) {ks : List Nat} (hn : ks.Nodup) (ht : ∀ k ∈ ks, H' k = lget H k) (g0 : Nat) :
    Inv (lend K w g0 (lgets H ks)) (K.cut w) (lget (lgets H ks)) w := by
  have hm : Mono K w (K.cut w) w := cut_mono (Ext.refl (fun _ => False) w) (fun _ _ h => h.elim)
  have hg : ∀ i o, lget (lgets H ks) i = some o → ∃ k, ks[i]? = some k ∧ H' k = some o := by
    intro i o h
    rw [lget_lgets] at h
    cases hk : ks[i]? with
    | none => rw [hk] at h; cases h
    | some k => rw [hk] at h; exact ⟨k, rfl, (ht k (List.mem_of_getElem? hk)).trans h⟩
  refine ⟨Ext.refl _ _, ⟨fun n h => .inl h, fun n h _ => h, fun n h => ⟨h, rfl⟩, fun g _ => Iff.rfl⟩, fun i o h => ?_, fun i j o1 o2 h1 h2 r1 r2 he => ?_, hI.dr, hI.lt, fun i o h => ?_, fun i o h hr => ?_⟩
  · obtain ⟨k, _, hk⟩ := hg i o h
    exact (hI.obj k o hk).mono hm id (fun _ => rfl)
  · obtain ⟨k1, q1, hk1⟩ := hg i o1 h1
    obtain ⟨k2, q2, hk2⟩ := hg j o2 h2
    have := hI.inj k1 k2 o1 o2 hk1 hk2 r1 r2 he
    subst this
    exact nodup_get hn q1 q2
  · obtain ⟨k, _, hk⟩ := hg i o h
    exact hI.dobj k o hk
  · obtain ⟨k, _, hk⟩ := hg i o h
    exact ⟨⟨(hI.own k o hk hr).1, hI.lt _ hr⟩, .inr ⟨i, o, h, hr, rfl⟩⟩
theorem inv_back {Γ : Gm} {K : Kr} {H' : Nat → Option AObj} {H : HL} {w w' : World} (hI : Inv Γ K H' w) {ks : List Nat} (hn : ks.Nodup) (ht : ∀ k ∈ ks, H' k = lget H k) {g0 : Nat} {H1 : HL} (hl : H1.length = ks.length)
    (hB : Inv (lend K w g0 (lgets H ks)) (K.cut w) (lget H1) w') : Mono K w (K.cut w) w' ∧ Inv Γ (K.cut w) (updF H' (zipO ks H1)) w' := by
  have hlent : ∀ g, (lend K w g0 (lgets H ks)).W0 g → ∃ k o, k ∈ ks ∧ H' k = some o ∧ K.real o.n ∧ K.μ o.n = g := by
    rintro g ⟨i, o, h, hr, he⟩
    rw [lget_lgets] at h
    cases hk : ks[i]? with
    | none => rw [hk] at h; cases h
    | some k => rw [hk] at h; exact ⟨k, o, List.mem_of_getElem? hk, (ht k (List.mem_of_getElem? hk)).trans h, hr, he⟩
  have hm : Mono K w (K.cut w) w' := cut_mono hB.ext (fun g hg hW => by
    obtain ⟨k, o, _, h, hr, he⟩ := hlent g hW
    rw [← he]
    exact (hI.own k o h hr).1)
  have hupd : ∀ k o, updF H' (zipO ks H1) k = some o → (k ∈ ks ∧ ∃ i, ks[i]? = some k ∧ lget H1 i = some o) ∨ (k ∉ ks ∧ H' k = some o) := by
    intro k o h
    rw [updF_at k ks H1 H' hn hl] at h
    by_cases hk : k ∈ ks
    · rw [if_pos hk] at h
      obtain ⟨i, hi⟩ := idxOf_mem hk
      rw [hi] at h
      exact .inl ⟨hk, i, idxOf_get hi, h⟩
    · rw [if_neg hk] at h
      exact .inr ⟨hk, h⟩
  have hblk : ∀ i o, lget H1 i = some o → K.real o.n → ∃ k o', k ∈ ks ∧ H' k = some o' ∧ K.real o'.n ∧ K.μ o'.n = K.μ o.n := by
    intro i o h hr
    rcases (hB.own i o h hr).2 with h1 | h1
    · exact absurd (hI.lt _ hr) (by
        have h1' : w.heap.size ≤ K.μ o.n := h1
        omega)
    · exact hlent _ h1
  refine ⟨hm, ⟨hm.ext.os.trans hI.ext.os, hm.ext.tape.trans hI.ext.tape, hm.ext.output.trans hI.ext.output, Nat.le_trans hI.ext.size hm.ext.size, fun g hg hW => ?_, fun g cs t fr hh => ?_⟩, ⟨hI.base.dom, hI.base.old, hI.base.keep, fun g hg => ?_⟩, fun k o h => ?_, fun k1 k2 o1 o2 h1 h2 r1 r2 he => ?_, hI.dr, fun n h => Nat.lt_of_lt_of_le (hI.lt n h) hm.ext.size, fun k o h => ?_, fun k o h hr => ?_⟩
  · rw [← hI.ext.keep g hg hW]
    refine hB.ext.keep g (Nat.lt_of_lt_of_le hg hI.ext.size) (fun hl => ?_)
    obtain ⟨k, o, _, h, hr, he⟩ := hlent g hl
    rcases (hI.own k o h hr).2 with h1 | h1
    · omega
    · exact hW (he ▸ h1)
  · obtain ⟨c1, h1, e1⟩ := hI.ext.shape g cs t fr hh
    obtain ⟨c2, h2, e2⟩ := hm.ext.shape g c1 t fr h1
    exact ⟨c2, h2, e2.trans e1⟩
  · rw [← hI.base.M g hg]
    exact ⟨fun h => h.1, fun h => ⟨h, Nat.lt_of_lt_of_le hg hI.ext.size⟩⟩
  · rcases hupd k o h with ⟨_, i, _, hi⟩ | ⟨hk, hi⟩
    · exact hB.obj i o hi
    · refine (hI.obj k o hi).mono hm id (fun hr => hB.ext.keep _ (hI.lt _ hr) (fun hl => ?_))
      obtain ⟨k', o', hk', h', hr', he⟩ := hlent _ hl
      exact hk ((hI.inj k' k o' o h' hi hr' hr he) ▸ hk')
  · rcases hupd k1 o1 h1 with ⟨m1, i1, q1, e1⟩ | ⟨m1, e1⟩ <;> rcases hupd k2 o2 h2 with ⟨m2, i2, q2, e2⟩ | ⟨m2, e2⟩
    · have := hB.inj i1 i2 o1 o2 e1 e2 r1 r2 he
      subst this
      rw [q1] at q2
      exact Option.some.inj q2
    · obtain ⟨k', o', hk', h', hr', he'⟩ := hblk i1 o1 e1 r1
      exact absurd ((hI.inj k' k2 o' o2 h' e2 hr' r2 (he'.trans he)) ▸ hk') m2
    · obtain ⟨k', o', hk', h', hr', he'⟩ := hblk i2 o2 e2 r2
      exact absurd ((hI.inj k' k1 o' o1 h' e1 hr' r1 (he'.trans he.symm)) ▸ hk') m1
    · exact hI.inj k1 k2 o1 o2 e1 e2 r1 r2 he
  · rcases hupd k o h with ⟨_, i, _, hi⟩ | ⟨hk, hi⟩
    · exact hB.dobj i o hi
    · exact hI.dobj k o hi
  · rcases hupd k o h with ⟨_, i, _, hi⟩ | ⟨hk, hi⟩
    · obtain ⟨k', o', hk', h', hr', he'⟩ := hblk i o hi hr
      have := hI.own k' o' h' hr'
      rw [he'] at this
      exact ⟨⟨this.1, hI.lt _ hr⟩, this.2⟩
    · exact ⟨⟨(hI.own k o hi hr).1, hI.lt _ hr⟩, (hI.own k o hi hr).2⟩

theorem okList_get {P : Program} {N : Nat} {ops : Array Oper} : ∀ {l : List Oper} {xs : List XOp}, okList P N ops l xs = true → l.length = xs.length ∧ ∀ (i : Nat) (o : Oper) (x : XOp), l[i]? = some o → xs[i]? = some x → okOp P N ops o x = true
  | [], [], _ => ⟨rfl, fun i o x h => by simp at h⟩
  | [], _ :: _, h => by simp [okList] at h
  | _ :: _, [], h => by simp [okList] at h
  | o :: l, x :: xs, h => by
    simp only [okList, Bool.and_eq_true] at h
    obtain ⟨h1, h2⟩ := okList_get h.2
    refine ⟨by simp [h1], fun i o' x' ho hx => ?_⟩
    cases i with
    | zero => simp at ho hx; rw [← ho, ← hx]; exact h.1
    | succ i => exact h2 i o' x' (by simpa using ho) (by simpa using hx)

/-!  A symbolic walk over any program, part 9: a step of the list is a step of the model; a region in the order of its text; a region in whatever order is drawn. -/

def Stp' (P : Program) (o : Oper) (rs : List Sl) (tm : Env) (H : HL) (gen : Nat) (d : DV) (touch : List Nat) (wr : List (Nat × Option AObj)) (g : Nat) : Prop :=
  ∀ (Γ : Gm) (K : Kr) (H' : Nat → Option AObj) (a : Act) (w : World) (Q : Exit → Act → World → Prop) (next : Act → World → Prop),
    Inv Γ K H' w → (∀ k ∈ touch, H' k = lget H k) → (∀ s ∈ rs, VRel K w (tm.get s) (a.tmps.getD s.nat undef)) → (∀ n, gen ≤ n → n < gen + g → ¬ K.dom n) → Γ.g0 ≤ gen → (∃ G, ∀ n, K.dom n → n < G) →
    (∀ (K' : Kr) (w' : World) (v : Value), Mono K w K' w' → Inv Γ K' (updF H' wr) w' → VRel K' w' d v → (∀ n, K'.dom n → K.dom n ∨ (gen ≤ n ∧ n < gen + g)) → next (a.put o.dst v) w') →
    o.wp P a w next Q
/-- The same with the guard of the operation. -/
def Does (P : Program) (ops : Array Oper) (o : Oper) (rs : List Sl) (tm : Env) (H : HL) (gen : Nat) (d : DV) (touch : List Nat) (wr : List (Nat × Option AObj)) (g : Nat) : Prop :=
  ∀ (Γ : Gm) (K : Kr) (H' : Nat → Option AObj) (a : Act) (w : World) (Q : Exit → Act → World → Prop) (next : Act → World → Prop),
    Inv Γ K H' w → (∀ k ∈ touch, H' k = lget H k) → (∀ s ∈ rs, VRel K w (tm.get s) (a.tmps.getD s.nat undef)) → (∀ n, gen ≤ n → n < gen + g → ¬ K.dom n) → Γ.g0 ≤ gen → (∃ G, ∀ n, K.dom n → n < G) →
    (∀ (K' : Kr) (w' : World) (v : Value), Mono K w K' w' → Inv Γ K' (updF H' wr) w' → VRel K' w' d v → (∀ n, K'.dom n → K.dom n ∨ (gen ≤ n ∧ n < gen + g)) → next (a.put o.dst v) w') →
    if Region.wanted o (yielded ops a.tmps) then o.wp P a w next Q else next (a.put o.dst undef) w
def gReads : Option (Sl × Bool) → List Sl
  | some (s, _) => [s]
  | none => []
def XOp.reads (x : XOp) : List Sl := x.op.reads ++ gReads x.g

theorem keysOf_zip : ∀ (ks : List Nat) (H1 : HL), H1.length = ks.length → keysOf (zipO ks H1) = ks
  | [], [], _ => rfl
  | [], _ :: _, h => by simp at h
  | _ :: _, [], h => by simp at h
  | k :: r, o :: s, h => by simp [zipO, keysOf, keysOf_zip r s (by simpa using h)]

section
variable {P : Program} {ops : Array Oper} {o : Oper} {rs : List Sl} {F : List XOp → St → List Rec → Prop} {r : List XOp} {st : St} {dst : Option Sl} {tr : List Rec}
theorem stp_call {f : FuncId} {ds ds' : List DV} {D : DV} {H1 : HL} {ks : List Nat} {tm : Env} {H : HL} {gen : Nat} (hleaf : CallLeaf P o rs tm f ds) (hds : ∀ K w vs, ArgsRel K w ds vs → ArgsRel K w ds' vs) (hn : ks.Nodup) (hl : H1.length = ks.length)
    (hspec : HSpec P f ds' (lgets H ks) (fun d H => d = D ∧ H = H1)) : Stp' P o rs tm H gen D ks (zipO ks H1) 0 := by
  intro Γ K H' a w Q next hI ht hr hf hg0 hG hnext
  obtain ⟨G, hG⟩ := hG
  obtain ⟨vs, e1, e2⟩ := hleaf K a w hr
  have hc := hspec K w vs G (inv_lend hI hn ht G) hG (argsRel_cut (hds K w vs e2))
  unfold Oper.wp
  rw [e1]
  refine hc.mono fun e w' h => ?_
  obtain ⟨v, d, H1', rfl, ⟨rfl, rfl⟩, hB, hv⟩ := h
  obtain ⟨m1, m2⟩ := inv_back hI hn ht hl hB
  exact hnext (K.cut w) w' v m1 m2 hv (fun n h => .inl h)
theorem runR_leaf : ∀ {res : Res}, res.all (fun d t wr g => Stp P o rs st.tm st.H st.gen d t wr g) (fun f ds => CallLeaf P o rs st.tm f ds) → runR P F r st dst tr res →
    ∃ d t wr g, Stp' P o rs st.tm st.H st.gen d t wr g ∧ F r ⟨putE st.tm dst d, updL st.H wr, st.gen + g⟩ (⟨t, keysOf wr⟩ :: tr)
  | .ok d t wr g, ha, h => ⟨d, t, wr, g, fun Γ K H' a w Q next hI ht hr hf hg0 _ hnext => ha Γ K H' a w Q next hI ht hr hf hg0 hnext, h⟩
  | .ite t x y, ha, h => by
    cases t with
    | true => exact runR_leaf (ha.1 rfl) h
    | false => exact runR_leaf (ha.2 rfl) h
  | .need p x, ha, h => runR_leaf (ha h.1) h.2
  | .alt x y, ha, h => by
    rcases h with h | h
    · exact runR_leaf ha.1 h
    · exact runR_leaf ha.2 h
  | .call f ds, ha, h => by
    obtain ⟨ks, ds', D, H1, h1, h2, h3, h4, h5⟩ := h
    refine ⟨D, ks, zipO ks H1, 0, stp_call ha h1 h2 h3 h4, ?_⟩
    rw [keysOf_zip ks H1 h3]
    exact h5
  | .bad, _, h => h.elim
theorem does_of_stp {d : DV} {t : List Nat} {wr : List (Nat × Option AObj)} {g : Nat} {rs' : List Sl} {tm : Env} {H : HL} {gen : Nat} (h : Stp' P o rs tm H gen d t wr g) (hsub : ∀ s ∈ rs, s ∈ rs')
    (hw : ∀ (K : Kr) (w : World) (a : Act), (∀ s ∈ rs', VRel K w (tm.get s) (a.tmps.getD s.nat undef)) → Region.wanted o (yielded ops a.tmps) = true) : Does P ops o rs' tm H gen d t wr g := by
  intro Γ K H' a w Q next hI ht hr hf hg0 hG hnext
  rw [if_pos (hw K w a hr)]
  exact h Γ K H' a w Q next hI ht (fun s hs => hr s (hsub s hs)) hf hg0 hG hnext
theorem does_skip {rs' : List Sl} {tm : Env} {H : HL} {gen : Nat} (hw : ∀ (K : Kr) (w : World) (a : Act), (∀ s ∈ rs', VRel K w (tm.get s) (a.tmps.getD s.nat undef)) → Region.wanted o (yielded ops a.tmps) = false) : Does P ops o rs' tm H gen (.v undef) [] [] 0 := by
  intro Γ K H' a w Q next hI ht hr hf hg0 hG hnext
  rw [if_neg (by rw [hw K w a hr]; simp)]
  exact hnext K w undef (Mono.refl K w) hI (.v undef) (fun n h => .inl h)
theorem run_step {N : Nat} {x : XOp} (hok : okOp P N ops o x = true) (h : runR P F r st x.dst tr (gd st.tm (ex1 st x.op) x.g)) :
    ∃ d t wr g, Does P ops o x.reads st.tm st.H st.gen d t wr g ∧ F r ⟨putE st.tm x.dst d, updL st.H wr, st.gen + g⟩ (⟨t, keysOf wr⟩ :: tr) := by
  simp only [okOp, Bool.and_eq_true] at hok
  obtain ⟨⟨h1, h2⟩, h3⟩ := hok
  have hall := ex1_sound (st := st) h1
  unfold gd at h
  split at h
  · rename_i hg
    rw [hg] at h3
    have hgn : o.guard = none := by
      unfold okGd at h3
      split at h3 <;> simp_all
    obtain ⟨d, t, wr, g, e1, e2⟩ := runR_leaf hall h
    exact ⟨d, t, wr, g, does_of_stp e1 (fun s hs => List.mem_append.2 (.inl hs)) (fun K w a _ => by simp [Region.wanted, hgn]), e2⟩
  · rename_i s b hg
    rw [hg] at h3
    obtain ⟨j, hj, hgs⟩ : ∃ j, o.guard = some (j, b) ∧ (ops[j]?).bind (·.dst) = some s.nat := by
      unfold okGd at h3
      split at h3
      · simp_all
      · rename_i j b' s' c' hgo hx
        simp only [Option.some.injEq, Prod.mk.injEq] at hx
        obtain ⟨rfl, rfl⟩ := hx
        simp only [Bool.and_eq_true, decide_eq_true_eq, beq_iff_eq] at h3
        exact ⟨j, by rw [hgo, h3.1], h3.2⟩
      · cases h3
    unfold gd2 at h
    split at h
    · rename_i t ht
      have hy : ∀ (K : Kr) (w : World) (a : Act), (∀ q ∈ x.reads, VRel K w (st.tm.get q) (a.tmps.getD q.nat undef)) → Region.wanted o (yielded ops a.tmps) = (t == b) := by
        intro K w a hr
        have hv := hr s (List.mem_append.2 (.inr (by rw [hg]; simp [gReads])))
        rw [ht] at hv
        have e := vrel_v hv
        have e2 : a.tmps[s.nat]? = some (.bool t) := by
          rw [Array.getD_eq_getD_getElem?] at e
          cases hq : a.tmps[s.nat]? with
          | none => rw [hq] at e; simp [undef] at e
          | some q => rw [hq] at e; simp at e; rw [e]
        simp only [Region.wanted, hj, yielded, hgs, Option.bind_some, e2]
        cases t <;> cases b <;> rfl
      have hrun : ∀ e : (t == b) = true, ∀ {res}, res.all (fun d t wr g => Stp P o x.op.reads st.tm st.H st.gen d t wr g) (fun f ds => CallLeaf P o x.op.reads st.tm f ds) → runR P F r st x.dst tr res →
          ∃ d t wr g, Does P ops o x.reads st.tm st.H st.gen d t wr g ∧ F r ⟨putE st.tm x.dst d, updL st.H wr, st.gen + g⟩ (⟨t, keysOf wr⟩ :: tr) := by
        intro e res ha hh
        obtain ⟨d, t', wr, g, e1, e2⟩ := runR_leaf ha hh
        exact ⟨d, t', wr, g, does_of_stp e1 (fun s hs => List.mem_append.2 (.inl hs)) (fun K w a hr => (hy K w a hr).trans e), e2⟩
      have hskip : ∀ e : (t == b) = false, runR P F r st x.dst tr skipR → ∃ d t wr g, Does P ops o x.reads st.tm st.H st.gen d t wr g ∧ F r ⟨putE st.tm x.dst d, updL st.H wr, st.gen + g⟩ (⟨t, keysOf wr⟩ :: tr) := by
        intro e hh
        exact ⟨.v undef, [], [], 0, does_skip (fun K w a hr => (hy K w a hr).trans e), hh⟩
      cases b <;> cases t
      · exact hrun rfl hall h
      · exact hskip rfl h
      · exact hskip rfl h
      · exact hrun rfl hall h
    · exact h.elim

/-- The region in the order of its text. -/
theorem run_seq {Γ : Gm} {N : Nat} {Q : St → List Rec → Prop} {Q' : Exit → Act → World → Prop} (hQ : ∀ st tr K a w, Rel Γ N st K a w → Q st tr → Q' .normal a w) : ∀ (l : List Oper) (xs : List XOp) (i n : Nat) (st : St) (tr : List Rec) (K : Kr) (a : Act) (w : World),
    (∀ j, l[j]? = ops[i + j]?) → okList P N ops l xs = true → run P Q n xs st tr → Rel Γ N st K a w → wpOps P ops Q' (List.range' i l.length) a w
  | [], [], i, n, st, tr, K, a, w, _, _, h, hR => by
    cases n with
    | zero => exact h.elim
    | succ n => exact hQ st tr K a w hR h
  | [], _ :: _, _, _, _, _, _, _, _, _, hok, _, _ => by simp [okList] at hok
  | _ :: _, [], _, _, _, _, _, _, _, _, hok, _, _ => by simp [okList] at hok
  | o :: l, x :: xs, i, n, st, tr, K, a, w, hl, hok, h, hR => by
    cases n with
    | zero => exact h.elim
    | succ n =>
      simp only [okList, Bool.and_eq_true] at hok
      obtain ⟨d, t, wr, g, hd, hF⟩ := run_step hok.1 h
      have h0 : ops[i]? = some o := by simpa using (hl 0).symm
      have hgo := hd Γ K (lget st.H) a w Q' (wpOps P ops Q' (List.range' (i + 1) l.length)) hR.inv (fun k _ => rfl) (fun s _ => hR.tm s) (fun m h1 _ h3 => by have := hR.fresh m h3; omega) hR.g0 ⟨st.gen, hR.fresh⟩ (fun K' w' v m hI hv hdom => by
        rw [updF_updL] at hI
        have hok1 := hok.1
        simp only [okOp, Bool.and_eq_true] at hok1
        refine run_seq hQ l xs (i + 1) n _ _ K' _ w' (fun j => by rw [show i + 1 + j = i + (j + 1) by omega, ← hl (j + 1)]; simp) hok.2 hF (rel_put hR m hI (g := st.gen + g) (fun q hq => ?_) (by have := hR.g0; omega) hok1.1.2 hv)
        rcases hdom q hq with h1 | h1
        · have := hR.fresh q h1; omega
        · exact h1.2)
      rw [List.length_cons, List.range'_succ]
      simp only [wpOps, h0]
      split
      · rename_i hw
        rw [if_pos hw] at hgo
        exact .inl hgo
      · rename_i hw
        rw [if_neg hw] at hgo
        exact hgo
end

/-!  A symbolic walk over any program, part 10: a region in whatever order is drawn: where operations that touch one thing wait for each other, every order comes to what the text's order comes to. -/

section replay
variable {L V : Type} (W : Nat → L → Prop) [∀ i l, Decidable (W i l)] (val : Nat → L → V) (v0 : L → V)
/-- What stands at a place behind those of the first k writers that E names. -/
def rep (E : Nat → Bool) : Nat → L → V
  | 0, l => v0 l
  | k + 1, l => if E k = true ∧ W k l then val k l else rep E k l
theorem rep_congr {E E' : Nat → Bool} {l : L} : ∀ (k : Nat), (∀ i, i < k → W i l → E i = E' i) → rep W val v0 E k l = rep W val v0 E' k l
  | 0, _ => rfl
  | k + 1, h => by
    have ih := rep_congr k (fun i hi hw => h i (by omega) hw)
    simp only [rep]
    by_cases hw : W k l
    · rw [h k (by omega) hw, ih]
    · rw [if_neg (fun q => hw q.2), if_neg (fun q => hw q.2), ih]
theorem rep_last {E : Nat → Bool} {l : L} {i : Nat} (hE : E i = true) (hw : W i l) : ∀ (k : Nat), i < k → (∀ j, i < j → j < k → W j l → E j = false) → rep W val v0 E k l = val i l
  | 0, h, _ => by omega
  | k + 1, h, hj => by
    simp only [rep]
    by_cases hik : i = k
    · subst hik
      rw [if_pos ⟨hE, hw⟩]
    · rw [if_neg (fun q => by rw [hj k (by omega) (by omega) q.2] at q; exact absurd q.1 (by simp))]
      exact rep_last hE hw k (by omega) (fun j h1 h2 => hj j h1 (by omega))
theorem rep_prefix {l : L} (i : Nat) : ∀ (k : Nat), i ≤ k → rep W val v0 (fun j => decide (j < i)) k l = rep W val v0 (fun _ => true) i l
  | 0, h => by
    have : i = 0 := by omega
    subst this
    rfl
  | k + 1, h => by
    by_cases hik : i = k + 1
    · subst hik
      exact rep_congr W val v0 _ (fun j hj _ => by simp [hj])
    · simp only [rep]
      rw [if_neg (fun q => by have := q.1; simp at this; omega)]
      exact rep_prefix i k (by omega)
end replay

structure StepR where
  (dst : Option Sl) (rs : List Sl) (d : DV) (t : List Nat) (wr : List (Nat × Option AObj)) (g : Nat)
def applyS (st : St) (s : StepR) : St := ⟨putE st.tm s.dst s.d, updL st.H s.wr, st.gen + s.g⟩
def stAt (st : St) (l : List StepR) (i : Nat) : St := (l.take i).foldl applyS st
theorem stAt_succ {st : St} {l : List StepR} {i : Nat} {s : StepR} (h : l[i]? = some s) : stAt st l (i + 1) = applyS (stAt st l i) s := by
  obtain ⟨hi, he⟩ := List.getElem?_eq_some_iff.1 h
  unfold stAt
  rw [List.take_succ_eq_append_getElem hi, List.foldl_append, he]
  rfl
def traceOf : List StepR → List Rec → List Rec
  | [], tr => tr
  | s :: r, tr => traceOf r (⟨s.t, keysOf s.wr⟩ :: tr)

/-- The chain of a run in the order of the text. -/
theorem run_chain {P : Program} {N : Nat} {ops : Array Oper} {Q : St → List Rec → Prop} : ∀ (l : List Oper) (xs : List XOp) (n : Nat) (st : St) (tr : List Rec), okList P N ops l xs = true → run P Q n xs st tr →
    ∃ S : List StepR, S.length = xs.length ∧ (∀ (i : Nat) (s : StepR) (x : XOp) (o : Oper), S[i]? = some s → xs[i]? = some x → l[i]? = some o → s.dst = x.dst ∧ s.rs = x.reads ∧ Does P ops o s.rs (stAt st S i).tm (stAt st S i).H (stAt st S i).gen s.d s.t s.wr s.g) ∧
      Q (stAt st S S.length) (traceOf S tr)
  | [], [], n, st, tr, _, h => by
    cases n with
    | zero => exact h.elim
    | succ n => exact ⟨[], rfl, fun i s x o h => by simp at h, h⟩
  | [], _ :: _, _, _, _, hok, _ => by simp [okList] at hok
  | _ :: _, [], _, _, _, hok, _ => by simp [okList] at hok
  | o :: l, x :: xs, n, st, tr, hok, h => by
    cases n with
    | zero => exact h.elim
    | succ n =>
      simp only [okList, Bool.and_eq_true] at hok
      obtain ⟨d, t, wr, g, hd, hF⟩ := run_step hok.1 h
      obtain ⟨S, h1, h2, h3⟩ := run_chain l xs n _ _ hok.2 hF
      have hst : ∀ i, stAt st (⟨x.dst, x.reads, d, t, wr, g⟩ :: S) (i + 1) = stAt ⟨putE st.tm x.dst d, updL st.H wr, st.gen + g⟩ S i := fun i => rfl
      refine ⟨⟨x.dst, x.reads, d, t, wr, g⟩ :: S, by simp [h1], fun i s y p hs hx ho => ?_, ?_⟩
      · cases i with
        | zero =>
          simp at hs hx ho
          subst hs hx ho
          exact ⟨rfl, rfl, hd⟩
        | succ i =>
          rw [hst]
          exact h2 i s y p (by simpa using hs) (by simpa using hx) (by simpa using ho)
      · rw [List.length_cons, hst]
        exact h3

/-! Which operations wait for which. -/
def directs (ops : Array Oper) (j : Nat) : List Nat :=
  match ops[j]? with
  | some o => (o.after.toList.filter (Region.binds .any)).map (·.on)
  | none => []
/-- Operation j waits for operation i, directly or through others: where all that is waited for is done, i is done too. -/
def Waits (ops : Array Oper) (j i : Nat) : Prop := ∀ E : Nat → Bool, (∀ q, E q = true → ∀ e ∈ directs ops q, E e = true) → (∀ e ∈ directs ops j, E e = true) → E i = true
def psOf (ps : List Nat) (e : Nat) : Nat := (ps[e]?).getD 0
/-- A set of operations as the bits of a number. -/
def psMk (ps : List Nat) : List Nat → Nat
  | [] => 0
  | e :: r => ((1 <<< e) ||| psOf ps e) ||| psMk ps r
theorem psMk_bit {ps : List Nat} {i : Nat} : ∀ {d : List Nat}, (psMk ps d).testBit i = true → ∃ e ∈ d, i = e ∨ (psOf ps e).testBit i = true
  | [], h => by simp [psMk] at h
  | e :: r, h => by
    simp only [psMk, Nat.testBit_or, Bool.or_eq_true] at h
    rcases h with (h | h) | h
    · rw [Nat.one_shiftLeft, Nat.testBit_two_pow] at h
      exact ⟨e, by simp, .inl (by simpa using (of_decide_eq_true h).symm)⟩
    · exact ⟨e, by simp, .inr h⟩
    · obtain ⟨e', h1, h2⟩ := psMk_bit h
      exact ⟨e', by simp [h1], h2⟩
def psOkB (ds : List (List Nat)) (ps : List Nat) : Bool := (List.range ds.length).all fun j => ((ds[j]?).getD []).all (· < j) && Nat.beq (psOf ps j) (psMk ps ((ds[j]?).getD []))
def memB (a : Nat) : List Nat → Bool
  | [] => false
  | x :: r => decide (a = x) || memB a r
def memS (a : Sl) : List Sl → Bool
  | [] => false
  | x :: r => decide (a = x) || memS a r
def meetB : List Nat → List Nat → Bool
  | [], _ => false
  | x :: r, l => memB x l || meetB r l
theorem memB_iff {a : Nat} : ∀ {l : List Nat}, memB a l = true ↔ a ∈ l
  | [] => by simp [memB]
  | x :: r => by simp [memB, memB_iff (l := r)]
theorem memS_iff {a : Sl} : ∀ {l : List Sl}, memS a l = true ↔ a ∈ l
  | [] => by simp [memS]
  | x :: r => by simp [memS, memS_iff (l := r)]
theorem meetB_iff {l : List Nat} : ∀ {r : List Nat}, meetB r l = true ↔ ∃ x, x ∈ r ∧ x ∈ l
  | [] => by simp [meetB]
  | x :: r => by simp [meetB, memB_iff, meetB_iff (r := r)]
def slotConf (x y : XOp) : Bool :=
  (match x.dst with
   | some s => memS s y.reads || decide (y.dst = some s)
   | none => false) ||
  (match y.dst with
   | some s => memS s x.reads
   | none => false)
def siteConf (a b : Rec) : Bool := meetB a.wr b.touch || meetB a.touch b.wr || meetB a.wr b.wr
def slotsOk (xs : List XOp) (ps : List Nat) (n : Nat) : Bool := (List.range n).all fun j => (List.range j).all fun i => match xs[i]?, xs[j]? with
  | some x, some y => !(slotConf x y) || (psOf ps j).testBit i
  | _, _ => false
def Rec.bare : Rec → Bool
  | ⟨[], []⟩ => true
  | _ => false
def sitesOk (ps : List Nat) (rs : List Rec) (n : Nat) : Bool := decide (rs.length = n) && (List.range n).all fun j => match rs[j]? with
  | some b => b.bare || (List.range j).all fun i => match rs[i]? with
    | some a => !(siteConf a b) || (psOf ps j).testBit i
    | none => false
  | none => false
theorem dirs_get (ops : Array Oper) (j : Nat) : (((List.range ops.size).map (directs ops))[j]?).getD [] = directs ops j := by
  rw [List.getElem?_map]
  by_cases h : j < ops.size
  · rw [List.getElem?_range h]; rfl
  · rw [List.getElem?_eq_none (by simpa using h)]
    unfold directs
    rw [Array.getElem?_eq_none (by omega)]
    rfl
theorem directs_past {ops : Array Oper} {j : Nat} (h : ops.size ≤ j) : directs ops j = [] := by
  unfold directs
  rw [Array.getElem?_eq_none h]
theorem psOk_at {ops : Array Oper} {ps : List Nat} (h : psOkB ((List.range ops.size).map (directs ops)) ps = true) {j : Nat} (hj : j < ops.size) : (∀ e ∈ directs ops j, e < j) ∧ psOf ps j = psMk ps (directs ops j) := by
  unfold psOkB at h
  simp only [List.length_map, List.length_range, List.all_eq_true, List.mem_range, dirs_get, Bool.and_eq_true, decide_eq_true_eq] at h
  exact ⟨(h j hj).1, Nat.eq_of_beq_eq_true (h j hj).2⟩
/-- What is waited for is there. -/
theorem waits_of {ops : Array Oper} {ps : List Nat} (h : psOkB ((List.range ops.size).map (directs ops)) ps = true) : ∀ (j : Nat), j < ops.size → ∀ i, (psOf ps j).testBit i = true → Waits ops j i := by
  intro j
  induction j using Nat.strongRecOn with
  | _ j ih =>
    intro hj i hi E hE hd
    obtain ⟨h1, h2⟩ := psOk_at h hj
    rw [h2] at hi
    obtain ⟨e, he, rfl | hb⟩ := psMk_bit hi
    · exact hd i he
    · exact ih e (h1 e he) (Nat.lt_trans (h1 e he) hj) i hb E hE (hE e (hd e he))
theorem updF_split (k : Nat) : ∀ (wr : List (Nat × Option AObj)) (H : Nat → Option AObj), updF H wr k = if k ∈ keysOf wr then updF (fun _ => none) wr k else H k
  | [], H => by simp [updF, keysOf]
  | (j, o) :: r, H => by
    have h1 := updF_split k r (fun q => if q = j then o else H q)
    have h2 := updF_split k r (fun q => if q = j then o else none)
    show updF (fun q => if q = j then o else H q) r k = if k ∈ keysOf ((j, o) :: r) then updF (fun q => if q = j then o else none) r k else H k
    rw [h1, h2]
    by_cases hm : k ∈ keysOf r
    · rw [if_pos hm, if_pos (by simp [keysOf, hm]), if_pos hm]
    · rw [if_neg hm]
      by_cases hj : k = j
      · rw [if_pos hj, if_pos (by simp [keysOf, hj]), if_neg hm, if_pos hj]
      · rw [if_neg hj, if_neg (by simp [keysOf, hj, hm])]

/-!  A symbolic walk over any program, part 11: a region in whatever order is drawn. -/

section
variable {P : Program} {N : Nat} {ops : Array Oper} {xs : List XOp} {S : List StepR} {st : St}

def wT (S : List StepR) (i : Nat) (s : Sl) : Prop := ∃ q, S[i]? = some q ∧ q.dst = some s
def wH (S : List StepR) (i : Nat) (k : Nat) : Prop := ∃ q, S[i]? = some q ∧ k ∈ keysOf q.wr
instance (S : List StepR) (i : Nat) (s : Sl) : Decidable (wT S i s) :=
  match h : S[i]? with
  | none => isFalse (fun ⟨q, e, _⟩ => by rw [h] at e; cases e)
  | some q => if hq : q.dst = some s then isTrue ⟨q, h, hq⟩ else isFalse (fun ⟨p, e, h2⟩ => by rw [h] at e; exact hq (Option.some.inj e ▸ h2))
instance (S : List StepR) (i : Nat) (k : Nat) : Decidable (wH S i k) :=
  match h : S[i]? with
  | none => isFalse (fun ⟨q, e, _⟩ => by rw [h] at e; cases e)
  | some q => if hq : k ∈ keysOf q.wr then isTrue ⟨q, h, hq⟩ else isFalse (fun ⟨p, e, h2⟩ => by rw [h] at e; exact hq (Option.some.inj e ▸ h2))
def vT (S : List StepR) (i : Nat) (_ : Sl) : DV := match S[i]? with | some q => q.d | none => .any
def vH (S : List StepR) (i : Nat) (k : Nat) : Option AObj := match S[i]? with | some q => updF (fun _ => none) q.wr k | none => none
def rT (S : List StepR) (st : St) (E : Nat → Bool) (k : Nat) (s : Sl) : DV := rep (wT S) (vT S) st.tm.get E k s
def rH (S : List StepR) (st : St) (E : Nat → Bool) (k : Nat) (j : Nat) : Option AObj := rep (wH S) (vH S) (lget st.H) E k j

theorem tm_at : ∀ (i : Nat), i ≤ S.length → ∀ s, (stAt st S i).tm.get s = rT S st (fun _ => true) i s
  | 0, _, s => rfl
  | i + 1, h, s => by
    have hq : S[i]? = some S[i] := List.getElem?_eq_getElem (by omega)
    rw [stAt_succ hq]
    have ih := tm_at i (by omega) s
    show (putE (stAt st S i).tm S[i].dst S[i].d).get s = rep (wT S) (vT S) st.tm.get (fun _ => true) (i + 1) s
    simp only [rep, true_and]
    by_cases hw : wT S i s
    · rw [if_pos hw]
      obtain ⟨q, e, hd⟩ := hw
      rw [hq] at e
      obtain rfl := Option.some.inj e
      simp only [vT, hq, putE, hd, Env.get_set, if_true]
    · rw [if_neg hw]
      cases hd : S[i].dst with
      | none => exact ih
      | some t =>
        simp only [putE, Env.get_set]
        rw [if_neg (fun e => hw ⟨_, hq, by rw [hd, e]⟩)]
        exact ih
theorem H_at : ∀ (i : Nat), i ≤ S.length → ∀ k, lget (stAt st S i).H k = rH S st (fun _ => true) i k
  | 0, _, k => rfl
  | i + 1, h, k => by
    have hq : S[i]? = some S[i] := List.getElem?_eq_getElem (by omega)
    rw [stAt_succ hq]
    have ih := H_at i (by omega) k
    show lget (updL (stAt st S i).H S[i].wr) k = rep (wH S) (vH S) (lget st.H) (fun _ => true) (i + 1) k
    simp only [rep, true_and]
    rw [← updF_updL, updF_split]
    by_cases hw : wH S i k
    · rw [if_pos hw]
      obtain ⟨q, e, hd⟩ := hw
      rw [hq] at e
      obtain rfl := Option.some.inj e
      rw [if_pos hd]
      simp only [vH, hq]
    · rw [if_neg hw, if_neg (fun e => hw ⟨_, hq, e⟩)]
      exact ih

def genAt (st : St) (S : List StepR) (i : Nat) : Nat := (stAt st S i).gen
theorem gen_succ {i : Nat} {s : StepR} (h : S[i]? = some s) : genAt st S (i + 1) = genAt st S i + s.g := by
  unfold genAt
  rw [stAt_succ h]
  rfl
theorem gen_mono : ∀ (j i : Nat), i ≤ j → j ≤ S.length → genAt st S i ≤ genAt st S j
  | 0, i, h, _ => by
    have : i = 0 := by omega
    subst this
    exact Nat.le_refl _
  | j + 1, i, h, hl => by
    by_cases e : i = j + 1
    · subst e; exact Nat.le_refl _
    · have hq : S[j]? = some S[j] := List.getElem?_eq_getElem (by omega)
      have := gen_mono j i (by omega) (by omega)
      rw [gen_succ hq]
      omega

/-- Two operations that touch one thing wait for each other: as facts. -/
structure OrdOk (ops : Array Oper) (xs : List XOp) (S : List StepR) : Prop where
  back : ∀ j : Nat, ∀ e ∈ directs ops j, j < ops.size → e < j
  slot : ∀ (i j : Nat) (x y : XOp), i < j → xs[i]? = some x → xs[j]? = some y → slotConf x y = true → Waits ops j i
  site : ∀ (i j : Nat) (a b : StepR), i < j → S[i]? = some a → S[j]? = some b → siteConf ⟨a.t, keysOf a.wr⟩ ⟨b.t, keysOf b.wr⟩ = true → Waits ops j i

theorem traceOf_eq : ∀ (S : List StepR) (tr : List Rec), traceOf S tr = (S.map fun s => (⟨s.t, keysOf s.wr⟩ : Rec)).reverse ++ tr
  | [], tr => rfl
  | s :: r, tr => by simp [traceOf, traceOf_eq r]
theorem bare_conf {a b : Rec} (h : b.bare = true) : siteConf a b = false := by
  obtain ⟨t, w⟩ := b
  cases t with
  | cons => cases h
  | nil =>
    cases w with
    | cons => cases h
    | nil =>
      cases hc : siteConf a ⟨[], []⟩ with
      | false => rfl
      | true =>
        simp only [siteConf, Bool.or_eq_true] at hc
        rcases hc with (hc | hc) | hc
        · obtain ⟨x, _, h2⟩ := meetB_iff.1 hc; cases h2
        · obtain ⟨x, _, h2⟩ := meetB_iff.1 hc; cases h2
        · obtain ⟨x, _, h2⟩ := meetB_iff.1 hc; cases h2
theorem ordOk_of {xs : List XOp} {ps : List Nat} (hx : xs.length = ops.size) (hp : psOkB ((List.range ops.size).map (directs ops)) ps = true) (hs : slotsOk xs ps xs.length = true) (h : sitesOk ps (traceOf S []).reverse xs.length = true) : S.length = ops.size ∧ OrdOk ops xs S := by
  unfold sitesOk at h
  unfold slotsOk at hs
  rw [traceOf_eq] at h
  simp only [List.append_nil, List.reverse_reverse, Bool.and_eq_true, decide_eq_true_eq, List.length_map, List.all_eq_true, List.mem_range] at h hs
  obtain ⟨hl, ha⟩ := h
  refine ⟨by rw [hl, hx], ⟨fun j e he hj => (psOk_at hp hj).1 e he, fun i j x y hij hxi hyj hc => ?_, fun i j a b hij hai hbj hc => ?_⟩⟩
  · have hj : j < xs.length := (List.getElem?_eq_some_iff.1 hyj).1
    have hq := hs j hj i hij
    rw [hxi, hyj] at hq
    dsimp only at hq
    rw [hc] at hq
    exact waits_of hp j (by omega) i (by simpa using hq)
  · have hj : j < xs.length := by rw [← hl]; exact (List.getElem?_eq_some_iff.1 hbj).1
    have hq := ha j hj
    rw [List.getElem?_map, hbj] at hq
    simp only [Option.map_some, Bool.or_eq_true] at hq
    rcases hq with hq | hq
    · rw [bare_conf hq] at hc
      cases hc
    · simp only [List.all_eq_true, List.mem_range] at hq
      have hq := hq i hij
      rw [List.getElem?_map, hai] at hq
      simp only [Option.map_some] at hq
      rw [hc] at hq
      exact waits_of hp j (by omega) i (by simpa using hq)

def lst (listed : Array Bool) (i : Nat) : Bool := listed.getD i false
theorem lst_set (listed : Array Bool) (i j : Nat) (hi : i < listed.size) : lst (listed.setIfInBounds i true) j = if j = i then true else lst listed j := by
  unfold lst
  simp only [Array.getD_eq_getD_getElem?]
  by_cases e : j = i
  · subst e
    simp [hi]
  · rw [if_neg e, Array.getElem?_setIfInBounds_ne (fun q => e q.symm)]

structure RInv (Γ : Gm) (N : Nat) (ops : Array Oper) (S : List StepR) (st : St) (listed : Array Bool) (K : Kr) (a : Act) (w : World) : Prop where
  size : listed.size = ops.size
  closed : ∀ j, lst listed j = true → ∀ e ∈ directs ops j, lst listed e = true
  inv : Inv Γ K (rH S st (lst listed) ops.size) w
  names : ∀ m, K.dom m → m < st.gen ∨ ∃ i s, S[i]? = some s ∧ lst listed i = true ∧ genAt st S i ≤ m ∧ m < genAt st S i + s.g
  asize : a.tmps.size = N
  defers : a.defers = []
  tm : ∀ s : Sl, VRel K w (rT S st (lst listed) ops.size s) (a.tmps.getD s.nat undef)

theorem filter_more {E E' : Nat → Bool} {i : Nat} (h1 : E i = false) (h2 : ∀ j, E' j = if j = i then true else E j) : ∀ (l : List Nat), l.Nodup → i ∈ l → (l.filter E').length = (l.filter E).length + 1
  | [], _, h => by simp at h
  | x :: r, hn, h => by
    have hn' := List.nodup_cons.1 hn
    by_cases e : x = i
    · subst e
      have e1 : r.filter E' = r.filter E := List.filter_congr fun j hj => by
        rw [h2 j, if_neg]
        rintro rfl
        exact hn'.1 hj
      simp [List.filter_cons, h1, h2 x, e1]
    · have ih := filter_more h1 h2 r hn'.2 ((List.mem_cons.1 h).resolve_left (fun q => e q.symm))
      have e2 : E' x = E x := by rw [h2 x, if_neg e]
      simp only [List.filter_cons, e2]
      split <;> simp [ih]
theorem any_sound {Γ : Gm} {Q' : Exit → Act → World → Prop} (hl : S.length = ops.size) (hx : xs.length = ops.size) (hok : okList P N ops ops.toList xs = true) (hord : OrdOk ops xs S) (hg0 : Γ.g0 ≤ st.gen)
    (hS : ∀ (i : Nat) (s : StepR) (x : XOp) (o : Oper), S[i]? = some s → xs[i]? = some x → ops[i]? = some o → s.dst = x.dst ∧ s.rs = x.reads ∧ Does P ops o s.rs (stAt st S i).tm (stAt st S i).H (stAt st S i).gen s.d s.t s.wr s.g)
    (hQ : ∀ K a w, Rel Γ N (stAt st S S.length) K a w → Q' .normal a w) : ∀ (fuel : Nat) (listed : Array Bool) (K : Kr) (a : Act) (w : World), ops.size ≤ fuel + ((List.range ops.size).filter (lst listed)).length → RInv Γ N ops S st listed K a w → wpAny P .any ops Q' fuel listed a w := by
  have hdone : ∀ (listed : Array Bool) (K : Kr) (a : Act) (w : World), Region.ready .any ops listed = [] → RInv Γ N ops S st listed K a w → Q' .normal a w := by
    intro listed K a w hr hI
    have hall : ∀ j, j < ops.size → lst listed j = true := by
      intro j
      induction j using Nat.strongRecOn with
      | _ j ih =>
        intro hj
        cases hE : lst listed j with
        | true => rfl
        | false =>
          exfalso
          have hm : j ∈ Region.ready .any ops listed := by
            refine mem_ready.2 ⟨?_, ops[j], Array.getElem?_eq_getElem hj, fun e he hb => ?_⟩
            · have hs := hI.size
              unfold lst at hE
              have hlt : j < listed.size := by omega
              simp only [Array.getD, hlt] at hE ⊢
              exact hE
            · have hd : e.on ∈ directs ops j := by
                unfold directs
                rw [Array.getElem?_eq_getElem hj]
                exact List.mem_map.2 ⟨e, List.mem_filter.2 ⟨by simpa using he, hb⟩, rfl⟩
              have hlt := hord.back j _ hd hj
              exact ih _ hlt (by omega)
          rw [hr] at hm
          cases hm
    have hT : ∀ s, rT S st (lst listed) ops.size s = (stAt st S S.length).tm.get s := by
      intro s
      rw [tm_at _ (Nat.le_refl _), hl]
      exact rep_congr _ _ _ _ (fun i hi _ => hall i hi)
    have hH : rH S st (lst listed) ops.size = lget (stAt st S S.length).H := by
      funext k
      rw [H_at _ (Nat.le_refl _), hl]
      exact rep_congr _ _ _ _ (fun i hi _ => hall i hi)
    refine hQ K a w ⟨by rw [← hH]; exact hI.inv, fun n hn => ?_, ?_, hI.asize, hI.defers, fun s => by rw [← hT]; exact hI.tm s⟩
    · rcases hI.names n hn with h | ⟨i, s, hi, _, h1, h2⟩
      · exact Nat.lt_of_lt_of_le h (gen_mono (st := st) (S := S) _ 0 (Nat.zero_le _) (Nat.le_refl _))
      · have hlt := (List.getElem?_eq_some_iff.1 hi).1
        have := gen_mono (st := st) (S := S) S.length (i + 1) (by omega) (Nat.le_refl _)
        rw [gen_succ hi] at this
        exact Nat.lt_of_lt_of_le h2 this
    · exact Nat.le_trans hg0 (gen_mono (st := st) (S := S) _ 0 (Nat.zero_le _) (Nat.le_refl _))
  intro fuel
  induction fuel with
  | zero =>
    intro listed K a w hfuel hI
    have hr : Region.ready .any ops listed = [] := by
      have hall : ∀ j ∈ List.range ops.size, lst listed j = true := by
        have : ((List.range ops.size).filter (lst listed)).length = (List.range ops.size).length := by
          have h1 := List.length_filter_le (lst listed) (List.range ops.size)
          simp at h1 hfuel ⊢
          omega
        exact List.length_filter_eq_length_iff.1 this
      refine List.eq_nil_iff_forall_not_mem.2 fun j hj => ?_
      obtain ⟨h1, o, ho, _⟩ := mem_ready.1 hj
      have hlt : j < ops.size := (Array.getElem?_eq_some_iff.1 ho).1
      have := hall j (List.mem_range.2 hlt)
      have hs := hI.size
      unfold lst at this
      have hlt' : j < listed.size := by omega
      simp only [Array.getD, hlt'] at h1 this
      simp_all
    exact ⟨hr, hdone listed K a w hr hI⟩
  | succ fuel ih =>
    intro listed K a w hfuel hI
    refine ⟨fun hr => hdone listed K a w hr hI, fun i hi => ?_⟩
    obtain ⟨hnl, o, ho, haft⟩ := mem_ready.1 hi
    have hin : i < ops.size := (Array.getElem?_eq_some_iff.1 ho).1
    have hils : i < listed.size := by rw [hI.size]; exact hin
    have hEi : lst listed i = false := by
      unfold lst
      simp only [Array.getD, hils] at hnl ⊢
      exact hnl
    have hdir : ∀ e ∈ directs ops i, lst listed e = true := by
      intro e he
      unfold directs at he
      rw [ho] at he
      obtain ⟨ed, hed, rfl⟩ := List.mem_map.1 he
      obtain ⟨h1, h2⟩ := List.mem_filter.1 hed
      exact haft ed (by simpa using h1) h2
    have hsi : S[i]? = some S[i] := List.getElem?_eq_getElem (by omega)
    have hxi : xs[i]? = some xs[i] := List.getElem?_eq_getElem (by omega)
    obtain ⟨s1, s2, s3⟩ := hS i _ _ _ hsi hxi ho
    have hgap : ∀ j, j < ops.size → (∃ x, xs[j]? = some x ∧ (j < i → slotConf x xs[i] = true) ∧ (i < j → slotConf xs[i] x = true)) ∨ (∃ q, S[j]? = some q ∧ (j < i → siteConf ⟨q.t, keysOf q.wr⟩ ⟨S[i].t, keysOf S[i].wr⟩ = true) ∧ (i < j → siteConf ⟨S[i].t, keysOf S[i].wr⟩ ⟨q.t, keysOf q.wr⟩ = true)) → lst listed j = decide (j < i) := by
      intro j hj hc
      have hp1 : j < i → Waits ops i j := by
        intro hlt
        rcases hc with ⟨x, hx, h1, _⟩ | ⟨q, hq, h1, _⟩
        · exact hord.slot j i x _ hlt hx hxi (h1 hlt)
        · exact hord.site j i q _ hlt hq hsi (h1 hlt)
      have hp2 : i < j → Waits ops j i := by
        intro hlt
        rcases hc with ⟨x, hx, _, h1⟩ | ⟨q, hq, _, h1⟩
        · exact hord.slot i j _ x hlt hxi hx (h1 hlt)
        · exact hord.site i j _ q hlt hsi hq (h1 hlt)
      rcases Nat.lt_trichotomy j i with hlt | rfl | hgt
      · rw [hp1 hlt _ hI.closed hdir]
        simp [hlt]
      · rw [hEi]; simp
      · have hm := hp2 hgt
        have : decide (j < i) = false := by simp; omega
        rw [this]
        cases hEj : lst listed j with
        | false => rfl
        | true =>
          rw [hm _ hI.closed (hI.closed j hEj)] at hEi
          cases hEi
    have hwt : ∀ j q, wT S j q → ∃ x, xs[j]? = some x ∧ x.dst = some q ∧ j < ops.size := by
      rintro j q ⟨sj, hj, hd⟩
      have hjl : j < ops.size := by rw [← hl]; exact (List.getElem?_eq_some_iff.1 hj).1
      have hxj : xs[j]? = some xs[j] := List.getElem?_eq_getElem (by omega)
      have := (hS j _ _ _ hj hxj (Array.getElem?_eq_getElem hjl)).1
      exact ⟨_, hxj, by rw [← this]; exact hd, hjl⟩
    have hwh : ∀ j k, wH S j k → ∃ q, S[j]? = some q ∧ k ∈ keysOf q.wr ∧ j < ops.size := by
      rintro j k ⟨sj, hj, hd⟩
      exact ⟨sj, hj, hd, by rw [← hl]; exact (List.getElem?_eq_some_iff.1 hj).1⟩
    have htouch : ∀ k ∈ S[i].t, rH S st (lst listed) ops.size k = lget (stAt st S i).H k := by
      intro k hk
      rw [H_at i (by omega), rH, rH, ← rep_prefix _ _ _ i ops.size (by omega)]
      refine rep_congr _ _ _ _ (fun j hj hw => hgap j hj (.inr ?_))
      obtain ⟨q, hq, hm, _⟩ := hwh j k hw
      refine ⟨q, hq, fun _ => ?_, fun _ => ?_⟩
      · simp only [siteConf, Bool.or_eq_true]
        exact .inl (.inl (meetB_iff.2 ⟨k, hm, hk⟩))
      · simp only [siteConf, Bool.or_eq_true]
        exact .inl (.inr (meetB_iff.2 ⟨k, hk, hm⟩))
    have hreads : ∀ q ∈ S[i].rs, VRel K w ((stAt st S i).tm.get q) (a.tmps.getD q.nat undef) := by
      intro q hq
      have e : rT S st (lst listed) ops.size q = (stAt st S i).tm.get q := by
        rw [tm_at i (by omega), rT, rT, ← rep_prefix _ _ _ i ops.size (by omega)]
        refine rep_congr _ _ _ _ (fun j hj hw => hgap j hj (.inl ?_))
        obtain ⟨x, hx, hd, _⟩ := hwt j q hw
        rw [s2] at hq
        refine ⟨x, hx, fun _ => ?_, fun _ => ?_⟩
        · simp only [slotConf, hd, Bool.or_eq_true]
          exact .inl (.inl (memS_iff.2 hq))
        · simp only [slotConf, hd, Bool.or_eq_true]
          exact .inr (memS_iff.2 hq)
      rw [← e]
      exact hI.tm q
    have hfresh : ∀ m, (stAt st S i).gen ≤ m → m < (stAt st S i).gen + S[i].g → ¬ K.dom m := by
      intro m h1 h2 hd
      rcases hI.names m hd with h | ⟨j, s, hj, hEj, h3, h4⟩
      · have := gen_mono (st := st) (S := S) i 0 (Nat.zero_le _) (by omega)
        have e0 : genAt st S 0 = st.gen := rfl
        have e1 : genAt st S i = (stAt st S i).gen := rfl
        omega
      · have hjl := (List.getElem?_eq_some_iff.1 hj).1
        have e1 : genAt st S i = (stAt st S i).gen := rfl
        rcases Nat.lt_trichotomy j i with hlt | rfl | hgt
        · have := gen_mono (st := st) (S := S) i (j + 1) (by omega) (by omega)
          rw [gen_succ hj] at this
          omega
        · rw [hEj] at hEi; cases hEi
        · have := gen_mono (st := st) (S := S) j (i + 1) (by omega) (by omega)
          rw [gen_succ hsi] at this
          omega
    have hgi : Γ.g0 ≤ (stAt st S i).gen := Nat.le_trans hg0 (gen_mono (st := st) (S := S) i 0 (Nat.zero_le _) (by omega))
    have hbound : ∃ G, ∀ n, K.dom n → n < G := by
      refine ⟨genAt st S S.length, fun n hn => ?_⟩
      rcases hI.names n hn with h | ⟨j, s, hj, _, h1, h2⟩
      · exact Nat.lt_of_lt_of_le h (gen_mono (st := st) (S := S) _ 0 (Nat.zero_le _) (Nat.le_refl _))
      · have hlt := (List.getElem?_eq_some_iff.1 hj).1
        have := gen_mono (st := st) (S := S) S.length (j + 1) (by omega) (Nat.le_refl _)
        rw [gen_succ hj] at this
        omega
    have hokl := okList_get hok
    have hoki := hokl.2 i o xs[i] (by rw [Array.getElem?_toList]; exact ho) hxi
    simp only [okOp, Bool.and_eq_true] at hoki
    have hgo := s3 Γ K (rH S st (lst listed) ops.size) a w Q' (wpAny P .any ops Q' fuel (listed.setIfInBounds i true)) hI.inv htouch hreads hfresh hgi hbound (fun K' w' v m hI' hv hdom => by
      have hls := lst_set listed i (hi := hils)
      refine ih _ K' _ w' ?_ ⟨by simp [hI.size], fun j hj e he => ?_, ?_, fun m' hm' => ?_, ?_, (by unfold Act.put; split <;> exact hI.defers), fun q => ?_⟩
      · have := filter_more (E := lst listed) (E' := lst (listed.setIfInBounds i true)) hEi hls (List.range ops.size) List.nodup_range (List.mem_range.2 hin)
        rw [this]
        omega
      · rw [hls] at hj ⊢
        by_cases hei : e = i
        · rw [if_pos hei]
        · rw [if_neg hei]
          by_cases hji : j = i
          · subst hji; exact hdir e he
          · rw [if_neg hji] at hj; exact hI.closed j hj e he
      · have e : rH S st (lst (listed.setIfInBounds i true)) ops.size = updF (rH S st (lst listed) ops.size) S[i].wr := by
          funext k
          rw [updF_split]
          by_cases hk : k ∈ keysOf S[i].wr
          · rw [if_pos hk]
            have := rep_last (wH S) (vH S) (lget st.H) (E := lst (listed.setIfInBounds i true)) (l := k) (i := i) (by rw [hls, if_pos rfl]) ⟨_, hsi, hk⟩ ops.size hin (fun j hj1 hj2 hw => by
              rw [hls, if_neg (by omega)]
              obtain ⟨q, hq, hm, _⟩ := hwh j k hw
              rw [hgap j hj2 (.inr ⟨q, hq, fun h => by omega, fun _ => by simp only [siteConf, Bool.or_eq_true]; exact .inr (meetB_iff.2 ⟨k, hk, hm⟩)⟩)]
              simp; omega)
            rw [rH, this]
            simp only [vH, hsi]
          · rw [if_neg hk]
            refine rep_congr _ _ _ _ (fun j hj hw => ?_)
            rw [hls, if_neg]
            rintro rfl
            obtain ⟨q, hq, hm, _⟩ := hwh j k hw
            rw [hsi] at hq
            obtain rfl := Option.some.inj hq
            exact hk hm
        rw [e]
        exact hI'
      · rcases hdom m' hm' with h | h
        · rcases hI.names m' h with h1 | ⟨j, s, hj, hEj, h1, h2⟩
          · exact .inl h1
          · refine .inr ⟨j, s, hj, ?_, h1, h2⟩
            rw [hls]
            split
            · rfl
            · exact hEj
        · refine .inr ⟨i, _, hsi, by rw [hls, if_pos rfl], h.1, h.2⟩
      · show (a.put o.dst v).tmps.size = N
        unfold Act.put
        split
        · simp [hI.asize]
        · exact hI.asize
      · have hdst : okDst N o.dst S[i].dst = true := by rw [s1]; exact hoki.1.2
        by_cases hq : wT S i q
        · have e := rep_last (wT S) (vT S) st.tm.get (E := lst (listed.setIfInBounds i true)) (l := q) (i := i) (by rw [hls, if_pos rfl]) hq ops.size hin (fun j hj1 hj2 hw => by
            rw [hls, if_neg (by omega)]
            obtain ⟨x, hx, hd, _⟩ := hwt j q hw
            obtain ⟨x2, hx2, hd2, _⟩ := hwt i q hq
            rw [hxi] at hx2
            obtain rfl := Option.some.inj hx2
            rw [hgap j hj2 (.inl ⟨x, hx, fun h => by omega, fun _ => by simp only [slotConf, hd2, hd, Bool.or_eq_true, decide_eq_true_eq]; exact .inl (.inr trivial)⟩)]
            simp; omega)
          rw [rT, e]
          simp only [vT, hsi]
          obtain ⟨q2, hq2, hd⟩ := hq
          rw [hsi] at hq2
          obtain rfl := Option.some.inj hq2
          rw [hd] at hdst
          unfold okDst at hdst
          split at hdst
          · rename_i h1 h2; cases h2
          · rename_i t q3 h1 h2
            obtain rfl := Option.some.inj h2
            simp only [Bool.and_eq_true, decide_eq_true_eq] at hdst
            obtain ⟨rfl, hlt⟩ := hdst
            simp only [h1, Act.put]
            rw [getD_set _ _ _ _ (by rw [hI.asize]; exact hlt), if_pos rfl]
            exact hv
          · cases hdst
        · have e : rT S st (lst (listed.setIfInBounds i true)) ops.size q = rT S st (lst listed) ops.size q := by
            refine rep_congr _ _ _ _ (fun j hj hw => ?_)
            rw [hls, if_neg]
            rintro rfl
            exact hq hw
          rw [e]
          have hold := (hI.tm q).mono m
          unfold okDst at hdst
          split at hdst
          · rename_i h1 h2
            simp only [h1, Act.put]
            exact hold
          · rename_i t q3 h1 h2
            simp only [Bool.and_eq_true, decide_eq_true_eq] at hdst
            obtain ⟨rfl, hlt⟩ := hdst
            simp only [h1, Act.put]
            rw [getD_set _ _ _ _ (by rw [hI.asize]; exact hlt), if_neg]
            · exact hold
            · intro e2
              exact hq ⟨_, hsi, by rw [h2, Sl.nat_inj e2]⟩
          · cases hdst)
    unfold wpOp
    simp only [ho]
    split
    · rename_i hw
      rw [if_pos hw] at hgo
      exact .inl hgo
    · rename_i hw
      rw [if_neg hw] at hgo
      exact hgo
end

/-!  A symbolic walk over any program, part 12: control; loops; a function's begin and end. -/

inductive XC where
  | skip
  | ret
  | region (xs : List XOp)
  | regionD (ps : List Nat) (xs : List XOp)
  | seq (a b : XC)
  | cond (c : XA) (t e : XC)
  | block (id : Nat) (b : XC)
  | loop (b : XC)
  | exit (id : Nat)
def okC (P : Program) (N : Nat) : Code → XC → Bool
  | c, .skip => match c with | .skip => true | _ => false
  | c, .ret => match c with | .ret => true | _ => false
  | c, .region xs => match c with | .region _ ops draw => (draw == false) && okList P N ops ops.toList xs | _ => false
  | c, .regionD ds xs => match c with | .region _ ops draw => (draw == true) && psOkB ((List.range ops.size).map (directs ops)) ds && slotsOk xs ds xs.length && okList P N ops ops.toList xs | _ => false
  | c, .seq x y => match c with | .seq a b => okC P N a x && okC P N b y | _ => false
  | c, .cond q x y => match c with | .cond p a b => okA p q && okC P N a x && okC P N b y | _ => false
  | c, .block i x => match c with | .block j a => decide (i = j) && okC P N a x | _ => false
  | c, .loop x => match c with | .loop a => okC P N a x | _ => false
  | c, .exit i => match c with | .exit j => decide (i = j) | _ => false
termination_by structural _ x => x

/-- The code does, from whatever lies as the state says, what Q says of each way out. -/
def XW (Γ : Gm) (P : Program) (N : Nat) (c : Code) (Q : Exit → St → Prop) (st : St) : Prop :=
  ∀ K a w, Rel Γ N st K a w → c.wp P (fun e a' w' => ∃ st' K', Rel Γ N st' K' a' w' ∧ Q e st') a w
/-- What follows. -/
inductive KI where
  | code (x : XC)
  | block (id : Nat)
  | loop (J : St → Prop)
def WX (Γ : Gm) (P : Program) (N : Nat) (x : XC) (Q : Exit → St → Prop) (st : St) : Prop := ∀ c, okC P N c x = true → XW Γ P N c Q st
def postK (Γ : Gm) (P : Program) (N : Nat) (R : St → Prop) : List KI → Exit → St → Prop
  | [], .normal, st => R st
  | [], .ret, st => R st
  | [], _, _ => False
  | .code x :: k, .normal, st => WX Γ P N x (postK Γ P N R k) st
  | .code _ :: k, .exit i, st => postK Γ P N R k (.exit i) st
  | .code _ :: k, .ret, st => postK Γ P N R k .ret st
  | .block _ :: k, .normal, st => postK Γ P N R k .normal st
  | .block i :: k, .exit j, st => if j = i then postK Γ P N R k .normal st else postK Γ P N R k (.exit j) st
  | .block _ :: k, .ret, st => postK Γ P N R k .ret st
  | .loop J :: _, .normal, st => J st
  | .loop _ :: k, .exit i, st => postK Γ P N R k (.exit i) st
  | .loop _ :: k, .ret, st => postK Γ P N R k .ret st
  | _ :: _, _, _ => False
def Go (Γ : Gm) (P : Program) (N : Nat) (R : St → Prop) (x : XC) (k : List KI) (st : St) : Prop := WX Γ P N x (postK Γ P N R k) st
def Nx (Γ : Gm) (P : Program) (N : Nat) (R : St → Prop) (k : List KI) (st : St) : Prop := postK Γ P N R k .normal st
def Ex (Γ : Gm) (P : Program) (N : Nat) (R : St → Prop) (k : List KI) (i : Nat) (st : St) : Prop := postK Γ P N R k (.exit i) st

section
variable {Γ : Gm} {P : Program} {N : Nat} {R : St → Prop} {k : List KI} {st : St}
theorem XW.mono {c : Code} {Q Q' : Exit → St → Prop} (h : XW Γ P N c Q st) (hq : ∀ e s, Q e s → Q' e s) : XW Γ P N c Q' st :=
  fun K a w hR => wp_mono (h K a w hR) fun e a' w' ⟨s, K', h1, h2⟩ => ⟨s, K', h1, hq e s h2⟩
theorem go_skip (h : Nx Γ P N R k st) : Go Γ P N R .skip k st := by
  intro c hc K a w hR
  simp only [okC] at hc
  split at hc
  · exact wp_skip ⟨st, K, hR, h⟩
  · cases hc
theorem postK_ret {st : St} (h : R st) : ∀ (k : List KI), postK Γ P N R k .ret st
  | [] => h
  | .code _ :: k => postK_ret h k
  | .block _ :: k => postK_ret h k
  | .loop _ :: k => postK_ret h k
theorem go_ret (h : R st) : Go Γ P N R .ret k st := by
  intro c hc K a w hR
  simp only [okC] at hc
  split at hc
  · exact wp_ret ⟨st, K, hR, postK_ret h k⟩
  · cases hc
theorem go_exit {i : Nat} (h : Ex Γ P N R k i st) : Go Γ P N R (.exit i) k st := by
  intro c hc K a w hR
  simp only [okC] at hc
  split at hc
  · have e := of_decide_eq_true hc
    subst e
    exact wp_exit ⟨st, K, hR, h⟩
  · cases hc
theorem go_seq {x y : XC} (h : Go Γ P N R x (.code y :: k) st) : Go Γ P N R (.seq x y) k st := by
  intro c hc K a w hR
  simp only [okC] at hc
  split at hc
  · rename_i p q
    simp only [Bool.and_eq_true] at hc
    refine wp_seq (wp_mono (h p hc.1 K a w hR) ?_)
    rintro e a' w' ⟨s, K', h1, h2⟩
    cases e with
    | normal => exact h2 q hc.2 K' a' w' h1
    | exit i => exact ⟨s, K', h1, h2⟩
    | ret => exact ⟨s, K', h1, h2⟩
    | goto l => exact h2.elim
    | panic ch => exact h2.elim
    | outgrown => exact h2.elim
  · cases hc
theorem go_block {i : Nat} {x : XC} (h : Go Γ P N R x (.block i :: k) st) : Go Γ P N R (.block i x) k st := by
  intro c hc K a w hR
  simp only [okC] at hc
  split at hc
  · rename_i j p
    simp only [Bool.and_eq_true, decide_eq_true_eq] at hc
    obtain ⟨rfl, hc⟩ := hc
    refine wp_block (wp_mono (h p hc K a w hR) ?_)
    rintro e a' w' ⟨s, K', h1, h2⟩
    cases e with
    | normal => exact ⟨s, K', h1, h2⟩
    | exit j =>
      simp only [Exit.inBlock]
      simp only [postK] at h2
      split
      · rename_i e; rw [if_pos e] at h2; exact ⟨s, K', h1, h2⟩
      · rename_i e; rw [if_neg e] at h2; exact ⟨s, K', h1, h2⟩
    | ret => exact ⟨s, K', h1, h2⟩
    | goto l => exact h2.elim
    | panic ch => exact h2.elim
    | outgrown => exact h2.elim
  · cases hc
/-- A test: of its value the two ways. -/
def condK (Γ : Gm) (P : Program) (N : Nat) (R : St → Prop) (x y : XC) (k : List KI) (st : St) : DV → Prop
  | .v (.bool t) => match t with
    | true => Go Γ P N R x k st
    | false => Go Γ P N R y k st
  | _ => False
theorem go_cond {q : XA} {x y : XC} (h : condK Γ P N R x y k st (evT st.tm q)) : Go Γ P N R (.cond q x y) k st := by
  intro c hc K a w hR
  simp only [okC] at hc
  split at hc
  · rename_i p c1 c2
    simp only [Bool.and_eq_true] at hc
    have hv := okA_rel (fun s => hR.tm s) hc.1.1
    unfold condK at h
    split at h
    · rename_i t he
      rw [he] at hv
      have e := vrel_v hv
      cases t with
      | true => exact wp_cond_true e (h c1 hc.1.2 K a w hR)
      | false => exact wp_cond_false e (h c2 hc.2 K a w hR)
    · exact h.elim
  · cases hc
theorem condK_t {x y : XC} : condK Γ P N R x y k st (.v (.bool true)) = Go Γ P N R x k st := rfl
theorem condK_f {x y : XC} : condK Γ P N R x y k st (.v (.bool false)) = Go Γ P N R y k st := rfl
theorem condK_b {x y : XC} {t : Bool} (h1 : t = true → Go Γ P N R x k st) (h2 : t = false → Go Γ P N R y k st) : condK Γ P N R x y k st (.v (.bool t)) := by
  cases t with
  | true => exact h1 rfl
  | false => exact h2 rfl
def endS (Γ : Gm) (P : Program) (N : Nat) (R : St → Prop) (k : List KI) (st : St) (_ : List Rec) : Prop := Nx Γ P N R k st
theorem range_eq (n : Nat) : List.range n = List.range' 0 n := List.range_eq_range'
theorem go_region {xs : List XOp} (h : run P (endS Γ P N R k) 1000 xs st []) : Go Γ P N R (.region xs) k st := by
  intro c hc K a w hR
  simp only [okC] at hc
  split at hc
  · rename_i id ops draw
    simp only [Bool.and_eq_true, beq_iff_eq] at hc
    obtain ⟨rfl, hok⟩ := hc
    refine wp_region ?_
    rw [range_eq]
    have := run_seq (Γ := Γ) (ops := ops) (Q := endS Γ P N R k) (Q' := fun e a' w' => ∃ st' K', Rel Γ N st' K' a' w' ∧ postK Γ P N R k e st') (fun s tr K' a' w' h1 h2 => ⟨s, K', h1, h2⟩) ops.toList xs 0 1000 st [] K a w (fun j => by simp) hok h hR
    simpa using this
  · cases hc
theorem rel_drew {K : Kr} {a : Act} {w : World} (hR : Rel Γ N st K a w) : Rel Γ N st K a { w with drawn := w.drawn + 1 } := by
  have hm : Mono K w K { w with drawn := w.drawn + 1 } := ⟨Ext.heap_eq rfl rfl rfl rfl, fun n h => ⟨h, rfl⟩, fun g _ h => h⟩
  have hI := hR.inv
  refine ⟨⟨hI.ext.trans (Ext.heap_eq rfl rfl rfl rfl), hI.base, fun k o h => (hI.obj k o h).mono hm id (fun _ => rfl), hI.inj, hI.dr, hI.lt, hI.dobj, hI.own⟩, hR.fresh, hR.g0, hR.size, hR.defers, fun s => (hR.tm s).mono hm⟩

def endD (Γ : Gm) (P : Program) (N : Nat) (R : St → Prop) (k : List KI) (ds : List Nat) (xs : List XOp) (st : St) (tr : List Rec) : Prop := sitesOk ds tr.reverse xs.length = true ∧ Nx Γ P N R k st
theorem endD_intro {ds : List Nat} {xs : List XOp} {tr : List Rec} (h1 : sitesOk ds tr.reverse xs.length = true) (h2 : Nx Γ P N R k st) : endD Γ P N R k ds xs st tr := ⟨h1, h2⟩
theorem go_regionD (hm : P.follows .mixedOrders = true) {ds : List Nat} {xs : List XOp} (h : run P (endD Γ P N R k ds xs) 1000 xs st []) : Go Γ P N R (.regionD ds xs) k st := by
  intro c hc K a w hR
  simp only [okC] at hc
  split at hc
  · rename_i id ops draw
    simp only [Bool.and_eq_true, beq_iff_eq, decide_eq_true_eq] at hc
    obtain ⟨⟨⟨rfl, hps⟩, hsl⟩, hok⟩ := hc
    obtain ⟨S, h1, h2, h3, h4⟩ := run_chain ops.toList xs 1000 st [] hok h
    have hx : xs.length = ops.size := by rw [← (okList_get hok).1]; simp
    obtain ⟨hl, hord⟩ := ordOk_of hx hps hsl h3
    refine wp_region_any hm ?_
    have hR' := rel_drew hR
    refine any_sound (Γ := Γ) hl hx hok hord hR.g0 (fun i s x o e1 e2 e3 => h2 i s x o e1 e2 (by rw [Array.getElem?_toList]; exact e3)) (fun K' a' w' hr => ⟨_, K', hr, h4⟩) ops.size _ K a _ (by omega) ?_
    have hz : ∀ j, lst (Array.replicate ops.size false) j = false := by
      intro j
      unfold lst
      simp only [Array.getD_eq_getD_getElem?, Array.getElem?_replicate]
      split <;> rfl
    have hT : ∀ s, rT S st (lst (Array.replicate ops.size false)) ops.size s = st.tm.get s := by
      intro s
      have : ∀ n, rT S st (lst (Array.replicate ops.size false)) n s = st.tm.get s := by
        intro n
        induction n with
        | zero => rfl
        | succ n ih =>
          show (if lst _ n = true ∧ wT S n s then _ else rT S st _ n s) = _
          rw [if_neg (by rw [hz]; simp)]
          exact ih
      exact this _
    have hH : rH S st (lst (Array.replicate ops.size false)) ops.size = lget st.H := by
      funext q
      have : ∀ n, rH S st (lst (Array.replicate ops.size false)) n q = lget st.H q := by
        intro n
        induction n with
        | zero => rfl
        | succ n ih =>
          show (if lst _ n = true ∧ wH S n q then _ else rH S st _ n q) = _
          rw [if_neg (by rw [hz]; simp)]
          exact ih
      exact this _
    exact ⟨by simp, (fun j hj => by rw [hz] at hj; exact absurd hj (by simp)), by rw [hH]; exact hR'.inv, fun m hm => .inl (hR'.fresh m hm), hR'.size, hR'.defers, fun s => by rw [hT]; exact hR'.tm s⟩
  · cases hc

theorem nx_code {x : XC} (h : Go Γ P N R x k st) : Nx Γ P N R (.code x :: k) st := h
theorem nx_block {i : Nat} (h : Nx Γ P N R k st) : Nx Γ P N R (.block i :: k) st := h
theorem nx_loop {J : St → Prop} (h : J st) : Nx Γ P N R (.loop J :: k) st := h
theorem nx_nil (h : R st) : Nx Γ P N R [] st := h
theorem ex_code {i : Nat} {x : XC} (h : Ex Γ P N R k i st) : Ex Γ P N R (.code x :: k) i st := h
theorem ex_loop {i : Nat} {J : St → Prop} (h : Ex Γ P N R k i st) : Ex Γ P N R (.loop J :: k) i st := h
theorem ex_here {i : Nat} (h : Nx Γ P N R k st) : Ex Γ P N R (.block i :: k) i st := by
  show (if i = i then _ else _)
  rw [if_pos rfl]
  exact h
theorem ex_past {i j : Nat} (hne : i ≠ j) (h : Ex Γ P N R k i st) : Ex Γ P N R (.block j :: k) i st := by
  show (if i = j then _ else _)
  rw [if_neg hne]
  exact h

/-- What is known less of: whatever lies as 'st' says lies as 'st'' says. -/
def Le (st st' : St) : Prop := ∀ (Γ : Gm) (N : Nat) (K : Kr) (a : Act) (w : World), Rel Γ N st K a w → ∃ K', Rel Γ N st' K' a w
theorem Le.refl (st : St) : Le st st := fun Γ N K a w h => ⟨K, h⟩
theorem Le.trans {a b c : St} (h : Le a b) (k : Le b c) : Le a c := fun Γ N K x w hr => let ⟨K', h'⟩ := h Γ N K x w hr; k Γ N K' x w h'
theorem go_le {x : XC} {st' : St} (hle : Le st st') (h : Go Γ P N R x k st') : Go Γ P N R x k st := by
  intro c hc K a w hR
  obtain ⟨K', hR'⟩ := hle Γ N K a w hR
  exact h c hc K' a w hR'
/-- A loop: a family of states, each with a number that every round lowers. -/
theorem go_loop {α : Type} (f : α → St) (m : α → Nat) (pre : α → Prop) {x : XC} (a0 : α) (h0 : pre a0) (hle : Le st (f a0))
    (round : ∀ a, pre a → Go Γ P N R x (.loop (fun s => ∃ a', pre a' ∧ m a' < m a ∧ Le s (f a')) :: k) (f a)) : Go Γ P N R (.loop x) k st := by
  intro c hc K a w hR
  simp only [okC] at hc
  split at hc
  · rename_i b
    obtain ⟨K', hR'⟩ := hle Γ N K a w hR
    refine wp_loop_ghost (fun n a' w' => ∃ p K1, pre p ∧ m p = n ∧ Rel Γ N (f p) K1 a' w') (m a0) ⟨a0, K', h0, rfl, hR'⟩ ?_
    rintro n a1 w1 ⟨p, K1, h1, rfl, h2⟩
    refine wp_mono (round p h1 b hc K1 a1 w1 h2) ?_
    rintro e a2 w2 ⟨s, K2, h3, h4⟩
    cases e with
    | normal =>
      obtain ⟨p', q1, q2, q3⟩ := h4
      obtain ⟨K3, h5⟩ := q3 Γ N K2 a2 w2 h3
      exact ⟨m p', q2, p', K3, q1, rfl, h5⟩
    | exit i => exact ⟨s, K2, h3, h4⟩
    | ret => exact ⟨s, K2, h3, h4⟩
    | goto l => exact h4.elim
    | panic ch => exact h4.elim
    | outgrown => exact h4.elim
  · cases hc
end

/-!  A symbolic walk over any program, part 13: what is known less of; rows that are not there yet; rows that are given up; a function's begin and end. -/

def leD (d : DV) : DV → Prop
  | .any => True
  | e => d = e
def leN {α : Type} (z : α) (le : α → α → Prop) : N8 α → N8 α → Prop
  | _, .nil => True
  | .nil, .mk a b c d e f g h => le z a ∧ le z b ∧ le z c ∧ le z d ∧ le z e ∧ le z f ∧ le z g ∧ le z h
  | .mk p q r s t u v w, .mk a b c d e f g h => le p a ∧ le q b ∧ le r c ∧ le s d ∧ le t e ∧ le u f ∧ le v g ∧ le w h
def leR (x y : N8 DV) : Prop := leN .any leD x y
def leC (x y : N8 (N8 DV)) : Prop := leN .nil leR x y
def leE (x y : Env) : Prop := leN .nil leC x y
def leO (o : Option AObj) : Option AObj → Prop
  | none => True
  | some p => o = some p
def leH : HL → HL → Prop
  | _, [] => True
  | [], o :: r => leO none o ∧ leH [] r
  | x :: s, o :: r => leO x o ∧ leH s r
theorem leN_get {α : Type} {z : α} {le : α → α → Prop} (hz : ∀ a, le a z) {x y : N8 α} (h : leN z le x y) (d : D8) : le (x.get z d) (y.get z d) := by
  cases y with
  | nil => exact hz _
  | mk a b c d e f g h =>
    cases x with
    | nil =>
      obtain ⟨h0, h1, h2, h3, h4, h5, h6, h7⟩ := h
      rename_i q
      cases q <;> assumption
    | mk a' b' c' d' e' f' g' h' =>
      obtain ⟨h0, h1, h2, h3, h4, h5, h6, h7⟩ := h
      rename_i q
      cases q <;> assumption
theorem leR_nil (x : N8 DV) : leR x .nil := by unfold leR leN; cases x <;> trivial
theorem leC_nil (x : N8 (N8 DV)) : leC x .nil := by unfold leC leN; cases x <;> trivial
theorem leE_get {x y : Env} (h : leE x y) (s : Sl) : leD (x.get s) (y.get s) := leN_get (fun _ => trivial) (leN_get leR_nil (leN_get leC_nil h s.i) s.j) s.k
theorem leD_rel {K : Kr} {w : World} {d e : DV} {v : Value} (h : leD d e) (hv : VRel K w d v) : VRel K w e v := by
  unfold leD at h
  split at h
  · exact .any v
  · rw [← h]; exact hv
theorem leH_get : ∀ {x y : HL} (h : leH x y) (k : Nat) (o : AObj), lget y k = some o → lget x k = some o
  | x, [], _, k, o, h => by simp [lget] at h
  | [], q :: r, h, k, o, hk => by
    simp only [leH] at h
    cases k with
    | zero =>
      simp only [lget] at hk
      subst hk
      exact absurd h.1 (by simp [leO])
    | succ k => exact leH_get h.2 k o (by simpa [lget] using hk)
  | p :: s, q :: r, h, k, o, hk => by
    simp only [leH] at h
    cases k with
    | zero =>
      simp only [lget] at hk ⊢
      subst hk
      exact h.1
    | succ k => exact leH_get h.2 k o (by simpa [lget] using hk)
theorem inv_less {Γ : Gm} {K : Kr} {H H' : Nat → Option AObj} {w : World} (h : Inv Γ K H w) (hs : ∀ k o, H' k = some o → H k = some o) : Inv Γ K H' w :=
  ⟨h.ext, h.base, fun k o ho => h.obj k o (hs k o ho), fun k1 k2 o1 o2 h1 h2 => h.inj k1 k2 o1 o2 (hs _ _ h1) (hs _ _ h2), h.dr, h.lt, fun k o ho => h.dobj k o (hs k o ho), fun k o ho => h.own k o (hs k o ho)⟩
theorem le_mk {st st' : St} (h1 : leE st.tm st'.tm) (h2 : leH st.H st'.H) (h3 : st.gen ≤ st'.gen) : Le st st' := fun Γ N K a w h =>
  ⟨K, inv_less h.inv (leH_get h2), fun n hn => Nat.lt_of_lt_of_le (h.fresh n hn) h3, Nat.le_trans h.g0 h3, h.size, h.defers, fun s => leD_rel (leE_get h1 s) (h.tm s)⟩

/-- A slice without memory, as an empty row of the call's own that is not there yet. -/
theorem le_row {st : St} (s : Sl) (k sz : Nat) {n : Nat} (h : st.tm.get s = .v (.slice none n 0)) (hn : n = 0) : Le st ⟨st.tm.set s (.sl k st.gen sz 0 0 false), lset st.H k (some ⟨st.gen, sz, []⟩), st.gen + 1⟩ := by
  intro Γ N K a w hR
  subst hn
  let K' : Kr := ⟨fun m => K.dom m ∨ m = st.gen, K.real, K.μ, K.M⟩
  have hm : Mono K w K' w := ⟨Ext.refl _ _, fun n h => ⟨h, rfl⟩, fun g _ h => h⟩
  have hfr : ¬ K.dom st.gen := fun h => by have := hR.fresh _ h; omega
  have hI := hR.inv
  have hobj : ∀ j o, lget (lset st.H k (some ⟨st.gen, sz, []⟩)) j = some o → (j = k ∧ o = ⟨st.gen, sz, []⟩) ∨ lget st.H j = some o := by
    intro j o ho
    rw [lget_lset] at ho
    by_cases e : j = k
    · rw [if_pos e] at ho; exact .inl ⟨e, (Option.some.inj ho).symm⟩
    · rw [if_neg e] at ho; exact .inr ho
  have hnr : ¬ K.real st.gen := fun h => hfr (hI.dr _ h)
  refine ⟨K', ⟨hI.ext, ⟨fun m h => ?_, hI.base.old, hI.base.keep, hI.base.M⟩, fun j o ho => ?_, fun k1 k2 o1 o2 h1 h2 r1 r2 he => ?_, fun m h => .inl (hI.dr m h), hI.lt, fun j o ho => ?_, fun j o ho hr => ?_⟩, fun m h => ?_, by have := hR.g0; show Γ.g0 ≤ st.gen + 1; omega, hR.size, hR.defers, fun q => ?_⟩
  · rcases h with h | h
    · exact hI.base.dom m h
    · exact .inr (by rw [h]; exact hR.g0)
  · rcases hobj j o ho with ⟨_, rfl⟩ | h
    · exact .inl ⟨hnr, rfl⟩
    · exact (hI.obj j o h).mono hm id (fun _ => rfl)
  · rcases hobj k1 o1 h1 with ⟨_, rfl⟩ | h1
    · exact absurd r1 hnr
    · rcases hobj k2 o2 h2 with ⟨_, rfl⟩ | h2
      · exact absurd r2 hnr
      · exact hI.inj k1 k2 o1 o2 h1 h2 r1 r2 he
  · rcases hobj j o ho with ⟨_, rfl⟩ | h
    · exact .inr rfl
    · exact .inl (hI.dobj j o h)
  · rcases hobj j o ho with ⟨_, rfl⟩ | h
    · exact absurd hr hnr
    · exact hI.own j o h hr
  · show m < st.gen + 1
    rcases h with h | h
    · have := hR.fresh m h; omega
    · omega
  · show VRel K' w ((st.tm.set s _).get q) _
    rw [Env.get_set]
    by_cases e : q = s
    · subst e
      rw [if_pos rfl]
      have hv := hR.tm q
      rw [h] at hv
      rw [vrel_v hv]
      exact .sl (Nat.le_refl _) (fun h => rfl) (.inl rfl)
    · rw [if_neg e]
      exact (hR.tm q).mono hm

/-! Names in what is handed back. -/
mutual
def nfD (g : Nat) : DV → Prop
  | .any => True
  | .v _ => True
  | .agg cs => nfL g cs
  | .tup cs => nfL g cs
  | .ptr _ n _ _ _ => n < g
  | .rptr x => nfL g x
  | .sl _ n _ _ _ _ => n < g
  | .snap _ xs _ => nfLL g xs
  | .fn _ a b => nfL g a ∧ nfL g b
def nfL (g : Nat) : List DV → Prop
  | [] => True
  | d :: r => nfD g d ∧ nfL g r
def nfLL (g : Nat) : List (List DV) → Prop
  | [] => True
  | x :: r => nfL g x ∧ nfLL g r
end
theorem nfL_iff {g : Nat} : ∀ {l : List DV}, nfL g l ↔ ∀ d ∈ l, nfD g d
  | [] => by simp [nfL]
  | d :: r => by simp [nfL, nfL_iff (l := r)]
theorem nfLL_iff {g : Nat} : ∀ {l : List (List DV)}, nfLL g l ↔ ∀ x ∈ l, nfL g x
  | [] => by simp [nfLL]
  | x :: r => by simp [nfLL, nfLL_iff (l := r)]
theorem nfL_get {g : Nat} {l : List DV} (h : nfL g l) {i : Nat} {d : DV} (hi : l[i]? = some d) : nfD g d := nfL_iff.1 h d (List.mem_of_getElem? hi)
/-- A value whose names are all names of the callers' is as it says in their eyes too. -/
theorem vrel_old {K K0 : Kr} {w : World} {g : Nat} (hr : ∀ n, K.real n → n < g → K0.real n ∧ K0.μ n = K.μ n) (hM : ∀ b, b < w.heap.size → K0.M b → K.M b) {d : DV} {v : Value} (h : VRel K w d v) : nfD g d → VRel K0 w d v := by
  induction h with
  | any x => exact fun _ => .any x
  | v x => exact fun _ => .v x
  | agg hl h ih => exact fun hn => .agg hl fun i d c hd hc => ih i d c hd hc (nfL_get (by simpa [nfD] using hn) hd)
  | tup hl h ih => exact fun hn => .tup hl fun i d c hd hc => ih i d c hd hc (nfL_get (by simpa [nfD] using hn) hd)
  | @ptr k n sz i j hreal =>
    intro hn
    have := hr n hreal (by simpa [nfD] using hn)
    rw [← this.2]
    exact .ptr this.1
  | @rptr x ad f hs hlt hMb hc h ih => exact fun hn => .rptr f hs hlt (fun q => hMb (hM _ hlt q)) hc fun t d hd => ih t d hd (nfL_get (by simpa [nfD] using hn) hd)
  | @sl k n sz lo len full A cap hlc hf h =>
    intro hn
    refine .sl hlc hf ?_
    rcases h with h | ⟨hreal, hA, rest⟩
    · exact .inl h
    · have := hr n hreal (by simpa [nfD] using hn)
      exact .inr ⟨this.1, by rw [this.2]; exact hA, by rw [this.2]; exact rest⟩
  | @snap sz xs clip A len cap f hl hlc hc hs ha hcell h ih =>
    intro hn
    refine .snap f hl hlc hc hs (fun h0 => ?_) hcell fun i x j d hx hd => ih i x j d hx hd ?_
    · obtain ⟨ad, e, hsp, h1, h2⟩ := ha h0
      exact ⟨ad, e, hsp, h1, fun q => h2 (hM _ h1 q)⟩
    · have h1 : nfLL g xs := by simpa [nfD] using hn
      exact nfL_get (nfLL_iff.1 h1 x (List.mem_of_getElem? hx)) hd
  | fn h1 h2 h3 h4 ih1 ih2 =>
    intro hn
    simp only [nfD] at hn
    exact .fn h1 h2 (fun i d c hd hc => ih1 i d c hd hc (nfL_get hn.1 hd)) (fun i d c hd hc => ih2 i d c hd hc (nfL_get hn.2 hd))

/-!  A symbolic walk over any program, part 14: a function's begin and end; rows that are given up. -/

def env0 : Env := .nil
theorem env0_get (s : Sl) : env0.get s = .any := rfl
def slots0 : List Sl := [⟨.d0, .d0, .d0⟩, ⟨.d0, .d0, .d1⟩, ⟨.d0, .d0, .d2⟩, ⟨.d0, .d0, .d3⟩, ⟨.d0, .d0, .d4⟩, ⟨.d0, .d0, .d5⟩, ⟨.d0, .d0, .d6⟩, ⟨.d0, .d0, .d7⟩,
  ⟨.d0, .d1, .d0⟩, ⟨.d0, .d1, .d1⟩, ⟨.d0, .d1, .d2⟩, ⟨.d0, .d1, .d3⟩, ⟨.d0, .d1, .d4⟩, ⟨.d0, .d1, .d5⟩, ⟨.d0, .d1, .d6⟩, ⟨.d0, .d1, .d7⟩]
theorem slots0_nat : ∀ (i : Nat) (s : Sl), slots0[i]? = some s → s.nat = i := by
  intro i s h
  have hi : i < 16 := by have := (List.getElem?_eq_some_iff.1 h).1; exact this
  match i, hi, h with
  | 0, _, h | 1, _, h | 2, _, h | 3, _, h | 4, _, h | 5, _, h | 6, _, h | 7, _, h | 8, _, h | 9, _, h | 10, _, h | 11, _, h | 12, _, h | 13, _, h | 14, _, h | 15, _, h => (simp [slots0] at h; rw [← h]; rfl)
def argsE : List DV → List Sl → Env → Env
  | d :: r, s :: t, e => argsE r t (e.set s d)
  | _, _, e => e
theorem argsE_rel {K : Kr} {w : World} {tmps : Array Value} : ∀ (ds : List DV) (ss : List Sl) (e : Env), (∀ s : Sl, VRel K w (e.get s) (tmps.getD s.nat undef)) → (∀ (i : Nat) (d : DV) (s : Sl), ds[i]? = some d → ss[i]? = some s → VRel K w d (tmps.getD s.nat undef)) →
    ∀ s : Sl, VRel K w ((argsE ds ss e).get s) (tmps.getD s.nat undef)
  | [], _, e, h, _ => h
  | _ :: _, [], e, h, _ => h
  | d :: r, s :: t, e, h, hd => argsE_rel r t (e.set s d) (fun q => by
      rw [Env.get_set]
      by_cases eq : q = s
      · subst eq; rw [if_pos rfl]; exact hd 0 d q rfl rfl
      · rw [if_neg eq]; exact h q) (fun i d' s' h1 h2 => hd (i + 1) d' s' (by simpa using h1) (by simpa using h2))

inductive XR where
  | tmp (s : Sl)
  | cell (s : Sl) (ag : Bool) (n : Nat)
def okR (P : Program) : ResultVar → XR → Bool
  | .tmp t, .tmp s => decide (t = s.nat)
  | .cell a t, .cell s ag n => decide (a = s.nat) && tySz P t n && tyAg P t ag && (ag || decide (n = 1))
  | _, _ => false
def okRs (P : Program) : List ResultVar → List XR → Bool
  | [], [] => true
  | a :: r, x :: s => okR P a x && okRs P r s
  | _, _ => false
def cellO (ag : Bool) (n i j : Nat) : Option AObj → DV
  | some o => partOf ag n (ddrop (xget o.xs i) j)
  | none => .any
def cellV (ag : Bool) (n : Nat) (H : HL) : DV → DV
  | .ptr k _ _ i j => cellO ag n i j (lget H k)
  | _ => .any
def resD (st : St) : XR → DV
  | .tmp s => st.tm.get s
  | .cell s ag n => cellV ag n st.H (st.tm.get s)
def cellOk (n nm sz i j : Nat) : Option AObj → Prop
  | some o => o.n = nm ∧ o.sz = sz ∧ i < o.xs.length ∧ j + n ≤ o.sz
  | none => False
def cellP (n : Nat) (H : HL) : DV → Prop
  | .ptr k nm sz i j => cellOk n nm sz i j (lget H k)
  | _ => False
def resOk (st : St) : List XR → Prop
  | [] => True
  | .tmp _ :: r => resOk st r
  | .cell s _ n :: r => cellP n st.H (st.tm.get s) ∧ resOk st r
def resDs (st : St) : List XR → List DV
  | [] => []
  | x :: r => resD st x :: resDs st r
def resV : List DV → DV
  | [d] => d
  | l => .tup l
def htake : Nat → HL → HL
  | 0, _ => []
  | m + 1, [] => none :: htake m []
  | m + 1, o :: r => o :: htake m r
def nfH (g : Nat) : HL → Prop
  | [] => True
  | none :: r => nfH g r
  | some o :: r => (o.n < g ∧ nfLL g o.xs) ∧ nfH g r
/-- What must hold where a function comes to its end. -/
def RetOK (xr : List XR) (g0 m : Nat) (R : DV → HL → Prop) (st : St) : Prop :=
  resOk st xr ∧ nfD g0 (resV (resDs st xr)) ∧ nfH g0 (htake m st.H) ∧ R (resV (resDs st xr)) (htake m st.H)
/-- Less is known, in this frame. -/
def LeG (Γ : Gm) (st st' : St) : Prop := ∀ (N : Nat) (K : Kr) (a : Act) (w : World), Rel Γ N st K a w → ∃ K', Rel Γ N st' K' a w
def RetQ (Γ : Gm) (xr : List XR) (m : Nat) (R : DV → HL → Prop) (st : St) : Prop := ∃ st', LeG Γ st st' ∧ RetOK xr Γ.g0 m R st'
theorem retq_now {Γ : Gm} {xr : List XR} {m : Nat} {R : DV → HL → Prop} {st : St} (h : RetOK xr Γ.g0 m R st) : RetQ Γ xr m R st := ⟨st, fun N K a w h => ⟨K, h⟩, h⟩
theorem retq_le {Γ : Gm} {xr : List XR} {m : Nat} {R : DV → HL → Prop} {st st' : St} (h1 : LeG Γ st st') (h2 : RetQ Γ xr m R st') : RetQ Γ xr m R st := by
  obtain ⟨s2, h3, h4⟩ := h2
  refine ⟨s2, fun N K a w hr => ?_, h4⟩
  obtain ⟨K', hr'⟩ := h1 N K a w hr
  exact h3 N K' a w hr'
theorem htake_get : ∀ (m : Nat) (H : HL) (k : Nat) (o : AObj), lget (htake m H) k = some o → lget H k = some o
  | 0, H, k, o, h => by simp [htake, lget] at h
  | m + 1, [], k, o, h => by
    cases k with
    | zero => simp [htake, lget] at h
    | succ k => exact htake_get m [] k o (by simpa [htake, lget] using h)
  | m + 1, x :: r, k, o, h => by
    cases k with
    | zero => simpa [htake, lget] using h
    | succ k => exact htake_get m r k o (by simpa [htake, lget] using h)
theorem nfH_get {g : Nat} : ∀ {H : HL} (h : nfH g H) (k : Nat) (o : AObj), lget H k = some o → o.n < g ∧ nfLL g o.xs
  | [], _, k, o, hk => by simp [lget] at hk
  | none :: r, h, k, o, hk => by
    cases k with
    | zero => simp [lget] at hk
    | succ k => exact nfH_get (H := r) h k o hk
  | some p :: r, h, k, o, hk => by
    cases k with
    | zero => simp [lget] at hk; subst hk; exact h.1
    | succ k => exact nfH_get (H := r) h.2 k o hk

def resG (tmps : Array Value) : ResultVar → Sem Value
  | .tmp t => pure (tmps.getD t undef)
  | .cell a t => do loadVar t (← asAddr (tmps.getD a undef))
theorem results_eq (fn : Func) (tmps : Array Value) : results fn tmps = (do
    let vs ← fn.results.mapM (resG tmps)
    pure (if h : vs.size = 1 then vs[0] else .tuple vs)) := rfl
section
variable {Γ : Gm} {P : Program} {N : Nat} {st : St} {K : Kr} {a : Act} {w : World}
theorem run_one_result (hR : Rel Γ N st K a w) {r : ResultVar} {x : XR} (hok : okR P r x = true) (hx : resOk st [x]) :
    ∃ v, (resG a.tmps r).run P w = .ok v w ∧ VRel K w (resD st x) v := by
  unfold okR at hok
  split at hok
  · rename_i t s
    have e := of_decide_eq_true hok
    subst e
    exact ⟨_, rfl, hR.tm s⟩
  · rename_i ad t s ag n
    simp only [Bool.and_eq_true, Bool.or_eq_true, decide_eq_true_eq] at hok
    obtain ⟨⟨⟨rfl, h1⟩, h2⟩, h3⟩ := hok
    have hv := hR.tm s
    simp only [resOk, and_true] at hx
    simp only [resD]
    unfold cellP at hx
    split at hx
    · rename_i k nm sz i j hp
      rw [hp] at hv ⊢
      unfold cellOk at hx
      split at hx
      · rename_i ob hob
        obtain ⟨e1, e2, e3, e4⟩ := hx
        generalize hy : a.tmps.getD s.nat undef = yv at hv
        cases hv with
        | ptr hreal =>
          rcases hR.inv.obj k ob hob with ⟨q1, _⟩ | ⟨q1, cs, tt, q3, q4, q5, q6⟩
          · exact absurd (e1 ▸ hreal) q1
          · obtain ⟨x, hx⟩ : ∃ x, ob.xs[i]? = some x := ⟨_, List.getElem?_eq_getElem e3⟩
            have hxl : x.length = ob.sz := q5 x (List.mem_of_getElem? hx)
            have hxg : xget ob.xs i = x := by rw [xget_get, hx]; rfl
            obtain ⟨v, r1, r2⟩ := run_load_part (P := P) (ad := ⟨K.μ nm, i * sz + j, none⟩) (w := w) (K := K) h1 h2 h3 (ds := x.drop j) (by rw [List.length_drop]; omega) (fun q d hq hd => by
              rw [List.getElem?_drop] at hd
              obtain ⟨c, h7, h8⟩ := q6 i x (j + q) d hx hd
              refine ⟨c, ?_, h8⟩
              rw [addr_add, cell_of_row w _ _ cs tt (0, 0) (by rw [← e1]; exact q3), ← h7, e2, Nat.add_assoc])
            refine ⟨v, by simp only [resG, hy, asAddr, Sem.run_bind, Sem.run_pure, Result.andThen_ok, r1], ?_⟩
            simp only [cellV, hob, cellO, hxg, ddrop_eq]
            exact r2
      · exact hx.elim
    · exact hx.elim
  · cases hok
theorem run_list_results (hR : Rel Γ N st K a w) : ∀ {rs : List ResultVar} {xs : List XR}, okRs P rs xs = true → resOk st xs →
    ∃ vs : List Value, (rs.mapM (resG a.tmps)).run P w = .ok vs w ∧ vs.length = (resDs st xs).length ∧ ∀ (i : Nat) (d : DV) (v : Value), (resDs st xs)[i]? = some d → vs[i]? = some v → VRel K w d v
  | [], [], _, _ => ⟨[], by simp [List.mapM_nil], rfl, fun i d v h => by simp [resDs] at h⟩
  | [], _ :: _, h, _ => by simp [okRs] at h
  | _ :: _, [], h, _ => by simp [okRs] at h
  | r :: rs, x :: xs, h, hx => by
    simp only [okRs, Bool.and_eq_true] at h
    have hx1 : resOk st [x] ∧ resOk st xs := by
      cases x with
      | tmp s => exact ⟨trivial, hx⟩
      | cell s ag n => exact ⟨⟨hx.1, trivial⟩, hx.2⟩
    obtain ⟨v, e1, e2⟩ := run_one_result (P := P) hR h.1 hx1.1
    obtain ⟨vs, e3, e4, e5⟩ := run_list_results hR h.2 hx1.2
    refine ⟨v :: vs, ?_, by simp [resDs, e4], fun i d u hd hu => ?_⟩
    · simp only [List.mapM_cons, Sem.run_bind, e1, e3, Result.andThen_ok, Sem.run_pure]
    · cases i with
      | zero => simp [resDs] at hd hu; rw [← hd, ← hu]; exact e2
      | succ i => exact e5 i d u (by simpa [resDs] using hd) (by simpa using hu)
theorem run_results (hR : Rel Γ N st K a w) {fn : Func} {xs : List XR} (hok : okRs P fn.results.toList xs = true) (hx : resOk st xs) : ∃ v, (results fn a.tmps).run P w = .ok v w ∧ VRel K w (resV (resDs st xs)) v := by
  obtain ⟨vs, e1, e2, e3⟩ := run_list_results hR hok hx
  have hm : (fn.results.mapM (resG a.tmps)).run P w = .ok vs.toArray w := by
    rw [Array.mapM_eq_mapM_toList]
    simp [e1]
  have hres : (results fn a.tmps).run P w = .ok (if h : vs.toArray.size = 1 then vs.toArray[0] else .tuple vs.toArray) w := by
    rw [results_eq, Sem.run_bind, hm]
    rfl
  refine ⟨_, hres, ?_⟩
  by_cases h1 : vs.length = 1
  · have h2 : (resDs st xs).length = 1 := by omega
    obtain ⟨v, rfl⟩ := List.length_eq_one_iff.1 h1
    obtain ⟨d, hd⟩ := List.length_eq_one_iff.1 h2
    rw [hd] at e3 ⊢
    simpa [resV] using e3 0 d v rfl rfl
  · have h2 : (resDs st xs).length ≠ 1 := by omega
    have e : resV (resDs st xs) = .tup (resDs st xs) := by
      unfold resV
      split
      · rename_i d hd; rw [hd] at h2; simp at h2
      · rfl
    rw [e, dif_neg (by simpa using h1)]
    refine .tup (by simp [e2]) fun i d c hd hc => e3 i d c hd (by simpa using hc)
end

/-- A function's contract, out of its walk. -/
theorem hspec_of {P : Program} {f : FuncId} {fn : Func} {c : Code} {x : XC} {xr : List XR} {ds : List DV} {H0 : HL} {R : DV → HL → Prop} (hf : P.funcs[f]? = some fn) (hb : fn.body = some c) (hok : okC P fn.ntmps c x = true) (hxr : okRs P fn.results.toList xr = true) (hN : ds.length ≤ fn.ntmps)
    (hgo : ∀ Γ : Gm, (H0 = [] → ∀ g, ¬ Γ.W0 g) → Go Γ P fn.ntmps (RetQ Γ xr H0.length R) x [] ⟨argsE ds slots0 env0, H0, Γ.g0⟩) : HSpec P f ds H0 R := by
  intro K w vs g0 hI hg hargs
  refine calls_of_wp hf hb ?_
  have hfr : ∀ n, (K.cut w).dom n → n < g0 := hg
  have hR : Rel (lend K w g0 H0) fn.ntmps ⟨argsE ds slots0 env0, H0, g0⟩ (K.cut w) { tmps := vs ++ Array.replicate (fn.ntmps - vs.size) undef, defers := [] } w := by
    refine ⟨hI, hfr, Nat.le_refl _, by simp [hargs.1]; omega, rfl, ?_⟩
    refine argsE_rel ds slots0 env0 (fun s => by rw [env0_get]; exact .any _) (fun i d s hd hs => ?_)
    have e := slots0_nat i s hs
    have hi : i < vs.size := by rw [hargs.1]; exact (List.getElem?_eq_some_iff.1 hd).1
    have : (vs ++ Array.replicate (fn.ntmps - vs.size) undef).getD s.nat undef = vs[i] := by
      rw [e, Array.getD_eq_getD_getElem?, Array.getElem?_append_left hi, Array.getElem?_eq_getElem hi]
      rfl
    rw [this]
    exact hargs.2 i d _ hd (Array.getElem?_eq_getElem hi)
  have hW : H0 = [] → ∀ g, ¬ (lend K w g0 H0).W0 g := by
    rintro rfl g ⟨k, o, h, _⟩
    simp [lget] at h
  refine wp_mono (hgo (lend K w g0 H0) hW c hok _ _ _ hR) ?_
  have hfin : ∀ (a' : Act) (w' : World) (st' : St) (K' : Kr), Rel (lend K w g0 H0) fn.ntmps st' K' a' w' → RetQ (lend K w g0 H0) xr H0.length R st' → a'.defers = [] ∧ ∃ v, (results fn a'.tmps).run P w' = .ok v w' ∧
      ∃ v1 d H1, Ending.returned v = .returned v1 ∧ R d H1 ∧ Inv (lend K w g0 H0) (K.cut w) (lget H1) w' ∧ VRel (K.cut w) w' d v1 := by
    intro a' w' st0' K0' hR0' hret
    obtain ⟨st', hle, r1, r2, r3, r4⟩ := hret
    obtain ⟨K', hR'⟩ := hle fn.ntmps K0' a' w' hR0'
    obtain ⟨v, e1, e2⟩ := run_results hR' hxr r1
    refine ⟨hR'.defers, v, e1, v, _, _, rfl, r4, ?_, ?_⟩
    all_goals
      have hb := hR'.inv.base
      have hreal : ∀ n, K'.real n → n < g0 → (K.cut w).real n ∧ (K.cut w).μ n = K'.μ n := fun n h1 h2 => by
        have h3 := hb.old n h1 h2
        exact ⟨h3, (hb.keep n h3).2.symm⟩
      have hM : ∀ b, b < w'.heap.size → (K.cut w).M b → K'.M b := fun b _ h => (hb.M b h.2).2 h
    · refine ⟨hR'.inv.ext, ⟨fun n h => .inl h, fun n h _ => h, fun n h => ⟨h, rfl⟩, fun g _ => Iff.rfl⟩, fun k o ho => ?_, fun k1 k2 o1 o2 h1 h2 p1 p2 he => ?_, hI.dr, fun n h => ?_, fun k o ho => ?_, fun k o ho hr => ?_⟩
      · have hnf := nfH_get r3 k o ho
        rcases hR'.inv.obj k o (htake_get _ _ _ _ ho) with ⟨q1, q2⟩ | ⟨q1, cs, t, q2, q3, q4, q5⟩
        · exact .inl ⟨fun h => q1 (hb.keep _ h).1, q2⟩
        · have := hreal _ q1 hnf.1
          refine .inr ⟨this.1, cs, t, by rw [this.2]; exact q2, q3, q4, fun i x j d hx hd => ?_⟩
          obtain ⟨c', h1, h2⟩ := q5 i x j d hx hd
          exact ⟨c', h1, vrel_old hreal hM h2 (nfL_get (nfLL_iff.1 hnf.2 x (List.mem_of_getElem? hx)) hd)⟩
      · have k1' := hb.keep _ p1
        have k2' := hb.keep _ p2
        exact hR'.inv.inj k1 k2 o1 o2 (htake_get _ _ _ _ h1) (htake_get _ _ _ _ h2) k1'.1 k2'.1 (k1'.2.trans (he.trans k2'.2.symm))
      · have := hb.keep n h
        have e : (K.cut w).μ n = K'.μ n := this.2.symm
        rw [e]
        exact hR'.inv.lt n this.1
      · have hnf := nfH_get r3 k o ho
        rcases hb.dom _ (hR'.inv.dobj k o (htake_get _ _ _ _ ho)) with h | h
        · exact h
        · exact absurd hnf.1 (by
            have h' : g0 ≤ o.n := h
            omega)
      · have hk := hb.keep _ hr
        have e : (K.cut w).μ o.n = K'.μ o.n := hk.2.symm
        have hlt : (K.cut w).μ o.n < w.heap.size := hI.lt _ hr
        have ho' := hR'.inv.own k o (htake_get _ _ _ _ ho) hk.1
        rw [← e] at ho'
        exact ⟨(hb.M _ hlt).1 ho'.1, ho'.2⟩
    · exact vrel_old hreal hM e2 r2
  rintro e a' w' ⟨st', K', hR', hq⟩
  cases e with
  | normal => exact hfin a' w' st' K' hR' hq
  | ret => exact hfin a' w' st' K' hR' hq
  | exit i => exact hq.elim
  | goto l => exact hq.elim
  | panic ch => exact hq.elim
  | outgrown => exact hq.elim

def bodyOf (fn : Func) : Code := fn.body.getD .skip
theorem hspec_fn {P : Program} {f : FuncId} {fn : Func} {x : XC} {xr : List XR} {ds : List DV} {H0 : HL} {R : DV → HL → Prop} (hf : P.funcs[f]? = some fn) (hb : fn.body = some (bodyOf fn)) (hok : okC P fn.ntmps (bodyOf fn) x = true) (hxr : okRs P fn.results.toList xr = true) (hN : Nat.ble ds.length fn.ntmps = true)
    (hgo : ∀ Γ : Gm, (H0 = [] → ∀ g, ¬ Γ.W0 g) → Go Γ P fn.ntmps (RetQ Γ xr H0.length R) x [] ⟨argsE ds slots0 env0, H0, Γ.g0⟩) : HSpec P f ds H0 R :=
  hspec_of hf hb hok hxr (Nat.le_of_ble_eq_true hN) hgo
theorem ret_spec {Γ : Gm} {xr : List XR} {D : DV} {st : St} (h1 : resOk st xr) (h2 : nfD Γ.g0 (resV (resDs st xr))) (h3 : resV (resDs st xr) = D) : RetQ Γ xr 0 (fun d H => d = D ∧ H = []) st := retq_now ⟨h1, h2, trivial, h3, rfl⟩
theorem dint {k : IntKind} {a b : Int} (h : a = b) : DV.v (.int k a) = DV.v (.int k b) := by rw [h]
theorem dbool {a b : Bool} (h : a = b) : DV.v (.bool a) = DV.v (.bool b) := by rw [h]
/-! Loops, the head's state out of the state that the walk has come to. -/
def appS : List Sl → List Sl → List Sl
  | [], l => l
  | x :: r, l => x :: appS r l
def dstsX : List XOp → List Sl
  | [] => []
  | ⟨some s, _, _⟩ :: r => s :: dstsX r
  | ⟨none, _, _⟩ :: r => dstsX r
def writesX : XC → List Sl
  | .skip => []
  | .ret => []
  | .region xs => dstsX xs
  | .regionD _ xs => dstsX xs
  | .seq a b => appS (writesX a) (writesX b)
  | .cond _ a b => appS (writesX a) (writesX b)
  | .block _ a => writesX a
  | .loop a => writesX a
  | .exit _ => []
def havE : Env → List Sl → Env
  | e, [] => e
  | e, s :: r => havE (e.set s .any) r
def setsE : Env → List (Sl × DV) → Env
  | e, [] => e
  | e, (s, d) :: r => setsE (e.set s d) r
theorem go_loopH {Γ : Gm} {P : Program} {N : Nat} {R : St → Prop} {k : List KI} {st : St} {α : Type} {x : XC} (sl : α → List (Sl × DV)) (ho : α → List (Nat × Option AObj)) (gn : α → Nat) (m : α → Nat) (pre : α → Prop) (a0 : α) (h0 : pre a0)
    (hle : Le st ⟨setsE (havE st.tm (writesX x)) (sl a0), updL st.H (ho a0), gn a0⟩)
    (round : ∀ a, pre a → Go Γ P N R x (.loop (fun s => ∃ a', pre a' ∧ m a' < m a ∧ Le s ⟨setsE (havE st.tm (writesX x)) (sl a'), updL st.H (ho a'), gn a'⟩) :: k) ⟨setsE (havE st.tm (writesX x)) (sl a), updL st.H (ho a), gn a⟩) : Go Γ P N R (.loop x) k st :=
  go_loop (fun a => ⟨setsE (havE st.tm (writesX x)) (sl a), updL st.H (ho a), gn a⟩) m pre a0 h0 hle round
/-- A row of the call's own is given up: nobody writes it from here on. -/
theorem leG_freeze {Γ : Gm} {st : St} (hW : ∀ g, ¬ Γ.W0 g) (s : Sl) {k n sz lo len : Nat} {full : Bool} {o : AObj} (hs : st.tm.get s = .sl k n sz lo len full) (ho : lget st.H k = some o) (hid : o.n = n ∧ o.sz = sz ∧ lo + len ≤ o.xs.length) :
    LeG Γ st ⟨st.tm.set s (.snap sz (xtake (xdrop o.xs lo) len) full), lset st.H k none, st.gen⟩ := by
  intro N K a w hR
  obtain ⟨i1, i2, i3⟩ := hid
  have hI := hR.inv
  have hv := hR.tm s
  rw [hs] at hv
  rw [xtake_eq, xdrop_eq]
  have hdrop : Inv Γ K (lget (lset st.H k none)) w := inv_less hI (fun j p hp => by
    rw [lget_lset] at hp
    by_cases e : j = k
    · rw [if_pos e] at hp; cases hp
    · rw [if_neg e] at hp; exact hp)
  have hlen : ((o.xs.drop lo).take len).length = len := by simp; omega
  rcases hI.obj k o ho with ⟨q1, q2⟩ | ⟨q1, cs, tt, q3, q4, q5, q6⟩
  · refine ⟨K, hdrop, hR.fresh, hR.g0, hR.size, hR.defers, fun q => ?_⟩
    show VRel K w ((st.tm.set s _).get q) _
    rw [Env.get_set]
    by_cases e : q = s
    · subst e
      rw [if_pos rfl]
      generalize a.tmps.getD q.nat undef = v at hv
      have hl0 : len = 0 := by rw [q2] at i3; simp at i3; omega
      cases hv with
      | @sl _ _ _ _ _ _ A cap hlc hf h =>
        subst hl0
        refine .snap (fun _ _ => undef) (by simp) hlc hf (fun x hx => by simp at hx) (fun h => by omega) (fun ad i x j d _ hx _ => by simp at hx) (fun i x j d hx => by simp at hx)
    · rw [if_neg e]; exact hR.tm q
  · let K' : Kr := ⟨K.dom, K.real, K.μ, fun g => K.M g ∧ g ≠ K.μ o.n⟩
    have hm : Mono K w K' w := ⟨Ext.refl _ _, fun m h => ⟨h, rfl⟩, fun g _ h => h.1⟩
    have hb : Γ.w0.heap.size ≤ K.μ o.n := ((hI.own k o ho q1).2).resolve_right (hW _)
    have hk : ∀ j p, lget (lset st.H k none) j = some p → j ≠ k ∧ lget st.H j = some p := by
      intro j p hp
      rw [lget_lset] at hp
      by_cases e : j = k
      · rw [if_pos e] at hp; cases hp
      · rw [if_neg e] at hp; exact ⟨e, hp⟩
    refine ⟨K', ⟨hdrop.ext, ⟨hI.base.dom, hI.base.old, hI.base.keep, fun g hg => ?_⟩, fun j p hp => (hdrop.obj j p hp).mono hm id (fun _ => rfl), hdrop.inj, hI.dr, hI.lt, hdrop.dobj, fun j p hp hr => ?_⟩, hR.fresh, hR.g0, hR.size, hR.defers, fun q => ?_⟩
    · rw [← hI.base.M g hg]
      exact ⟨fun h => h.1, fun h => ⟨h, by omega⟩⟩
    · obtain ⟨hj, hp'⟩ := hk j p hp
      have := hI.own j p hp' hr
      exact ⟨⟨this.1, fun e => hj (hI.inj j k p o hp' ho hr q1 e)⟩, this.2⟩
    · show VRel K' w ((st.tm.set s _).get q) _
      rw [Env.get_set]
      by_cases e : q = s
      · subst e
        rw [if_pos rfl]
        generalize a.tmps.getD q.nat undef = v at hv
        cases hv with
        | @sl _ _ _ _ _ _ A cap hlc hf h =>
          have hgetx : ∀ (i : Nat) (x : List DV), ((o.xs.drop lo).take len)[i]? = some x → i < len ∧ o.xs[lo + i]? = some x := by
            intro i x hx
            have hi : i < len := by have := (List.getElem?_eq_some_iff.1 hx).1; rw [hlen] at this; exact this
            rw [List.getElem?_take_of_lt hi, List.getElem?_drop] at hx
            exact ⟨hi, hx⟩
          have hcell : ∀ (i : Nat) (x : List DV) (j : Nat) (d : DV), ((o.xs.drop lo).take len)[i]? = some x → x[j]? = some d → ∃ c, cs[(lo + i) * sz + j]? = some c ∧ VRel K' w d c := by
            intro i x j d hx hd
            obtain ⟨_, hx'⟩ := hgetx i x hx
            obtain ⟨c, g1, g2⟩ := q6 (lo + i) x j d hx' hd
            rw [i2] at g1
            exact ⟨c, g1, g2.mono hm⟩
          refine .snap (fun i j => (cs[(lo + i) * sz + j]?).getD undef) hlen hlc hf (fun x hx => ?_) (fun h0 => ?_) (fun ad i x j d hA hx hd => ?_) (fun i x j d hx hd => ?_)
          · rw [← i2]; exact q5 x (List.mem_of_mem_drop (List.mem_of_mem_take hx))
          · rcases h with h | ⟨hreal, hA, rest⟩
            · omega
            · refine ⟨_, hA, rfl, ?_, ?_⟩
              · show K.μ n < _
                rw [← i1]; exact hI.lt _ q1
              · rintro ⟨_, h2⟩
                exact h2 (by rw [i1])
          · obtain ⟨hi, _⟩ := hgetx i x hx
            obtain ⟨c, g1, _⟩ := hcell i x j d hx hd
            rcases h with h | ⟨hreal, hA', rest⟩
            · omega
            · rw [hA] at hA'
              obtain rfl := Option.some.inj hA'
              rw [addr_add, cell_of_row w _ _ cs tt (0, 0) (by rw [← i1]; exact q3)]
              have e1 : lo * sz + (i * sz + j) = (lo + i) * sz + j := by rw [Nat.add_mul]; omega
              rw [e1, g1]
              rfl
          · obtain ⟨c, g1, g2⟩ := hcell i x j d hx hd
            simp only [g1, Option.getD_some]
            exact g2
      · rw [if_neg e]
        exact (hR.tm q).mono hm
theorem xget_map {α : Type} (f : α → List DV) : ∀ (l : List α) (i : Nat) (x : α), l[i]? = some x → xget (l.map f) i = f x
  | [], i, x, h => by simp at h
  | y :: r, 0, x, h => by simp at h; subst h; rfl
  | y :: r, i + 1, x, h => by simpa [xget] using xget_map f r i x (by simpa using h)
theorem xall {l : List (List DV)} {n : Nat} (h : n = l.length) : xtake (xdrop l 0) n = l := by rw [xtake_eq, h]; cases l <;> simp [xdrop]
theorem nfLL_map {α : Type} {f : α → List DV} {g : Nat} : ∀ {l : List α}, (∀ x, nfL g (f x)) → nfLL g (l.map f)
  | [], h => trivial
  | x :: r, h => ⟨h x, nfLL_map (l := r) h⟩
theorem cellEq_i (k k' : IntKind) (a b : Int) : cellEq 0 (.v (.int k a)) (.v (.int k' b)) = (match kindEq k k' with | true => some (decide (a = b)) | false => none) := rfl
theorem cellEq_b (a b : Bool) : cellEq 1 (.v (.bool a)) (.v (.bool b)) = some (a == b) := rfl
theorem cellEq_s (a b : ByteArray) : cellEq 2 (.v (.string a)) (.v (.string b)) = some (decide (a = b)) := rfl
end Go.Proofs.Ytkpechddgjbfkaa
