/-
  The greatest segment, and options that are moved: what only Mss and Move need.
-/
import Derived.Test.YtegejpieedckiaaTcpX
namespace Go.Proofs.Ytegejpieedckiaa
set_option linter.unusedVariables false
set_option linter.unusedSimpArgs false
theorem plus_spec (a b : Int) (ha : 0 ≤ a ∧ a < 4294967296) (hb : 0 ≤ b ∧ b < 4294967296) : Spec Try.prog 24 [.v (.int .u32 a), .v (.int .u32 b)] (.v (.int .u32 ((a + b) % 4294967296))) := by
  have e1 : IntKind.i64.wrap a = a := IntWalk.i64_in _ (by omega)
  have e2 : IntKind.i64.wrap b = b := IntWalk.i64_in _ (by omega)
  have e3 : IntKind.i64.wrap (a + b) = a + b := IntWalk.i64_in _ (by omega)
  have e4 : (a + b).tmod 4294967296 = (a + b) % 4294967296 := Int.tmod_eq_emod_of_nonneg (by omega)
  have e5 : IntKind.u32.wrap ((a + b) % 4294967296) = (a + b) % 4294967296 := IntWalk.u32_in _ (by omega)
  refine hspec_fn Try.func24 rfl ok_custref_Plus okr_custref_Plus rfl (by kernel_rfl) ?_
  intro Γ hW0 hN0 hL0
  have hW := hW0 rfl
  clear hW0 hN0 hL0
  unfold x_custref_Plus r_custref_Plus
  refine auC ?_
  repeat' (first
    | (refine auS ?_)
    | (simp only [e1, e2, e3, e4, e5])
    | (refine auD ?_)
    | (with_reducible refine runR_b (fun h => ?_) (fun h => ?_) <;> first | exact auH | simp only [h, runR_t, runR_f])
    | (with_reducible refine condK_bl ?_ ?_)
    | (with_reducible refine condK_b (fun h => ?_) (fun h => ?_) <;> first | exact auH | skip)
    | fail)
  (all_goals first | exact auP | skip)
  all_goals refine auF ?_
  all_goals (try first | refine auR ?_ | exact auR0)
  all_goals (try simp only [hsM] at *)
def isMss (t : Op2) : Bool := decide (t.k = 2) && decide (t.d.length = 2)
def mssR (l : List Op2) : Int × Bool := match l.find? isMss with
  | some t => (wordAtI t.d 0, true)
  | none => (0, false)
theorem mss_none {l : List Op2} (h : ∀ t ∈ l, isMss t = false) : mssR l = (0, false) := by
  unfold mssR
  rw [List.find?_eq_none.2 (fun t ht => by rw [h t ht]; exact Bool.false_ne_true)]
theorem mss_at {l : List Op2} {i : Nat} {t : Op2} (h1 : l[i]? = some t) (h2 : isMss t = true) (h3 : ∀ y ∈ l.take i, isMss y = false) : mssR l = (wordAtI t.d 0, true) := by
  unfold mssR
  have hi := (List.getElem?_eq_some_iff.1 h1).1
  have e : l = l.take i ++ t :: l.drop (i + 1) := by
    have h4 : l.drop i = t :: l.drop (i + 1) := by rw [List.drop_eq_getElem_cons hi, show l[i] = t from Option.some.inj ((List.getElem?_eq_getElem hi).symm.trans h1)]
    rw [← h4, List.take_append_drop]
  rw [e, List.find?_append, List.find?_eq_none.2 (fun y hy => by rw [h3 y hy]; exact Bool.false_ne_true)]
  simp [h2]
abbrev dMs (r : Int × Bool) : DV := .tup [.v (.int .i64 r.1), .v (.bool r.2)]
/-- The first n longs of a text, each with so much more. -/
def movN (a : Int) (d : List UInt8) : Nat → List UInt8
  | 0 => []
  | n + 1 => movN a d n ++ lg ((lgAt d (4 * n) + a) % 4294967296)
theorem movN_len (a : Int) (d : List UInt8) : ∀ n, (movN a d n).length = 4 * n
  | 0 => rfl
  | n + 1 => by rw [movN, List.length_append, movN_len a d n, lg_len]; omega
def isMov (t : Op2) : Bool := decide (t.k = 5) && decide (t.d.length % 8 = 0)
def movO (a : Int) (t : Op2) : Op2 := if isMov t then ⟨t.k, movN a t.d (t.d.length / 4)⟩ else t
def mvd (g : Sg) (s a : Int) : Sg :=
  if bits .and .i64 g.flags 16 = 0 then ⟨g.fr, g.to, (g.seq + s) % 4294967296, g.ack, g.flags, g.win, g.urg, g.opts, g.data⟩
  else ⟨g.fr, g.to, (g.seq + s) % 4294967296, (g.ack + a) % 4294967296, g.flags, g.win, g.urg, g.opts.map (movO a), g.data⟩
theorem take_drop_map {l : List Op2} {k : Nat} {t : Op2} (f : Op2 → Op2) (ht : l[k]? = some t) : xget (((l.take k).map f ++ l.drop k).map Op2.enc) k = [.v (.int .i64 t.k), .v (.string (mkS t.d))] := by
  have hk := (List.getElem?_eq_some_iff.1 ht).1
  rw [xget_get, List.getElem?_map, List.getElem?_append_right (by simp; omega)]
  simp only [List.length_map, List.length_take, List.getElem?_drop]
  rw [Nat.min_eq_left (by omega), Nat.sub_self, Nat.add_zero, ht]
  rfl
theorem td_len (l : List Op2) (k : Nat) (f : Op2 → Op2) (hk : k ≤ l.length) : (((l.take k).map f ++ l.drop k).map Op2.enc).length = l.length := by simp; omega
theorem td_set {l : List Op2} {k : Nat} {t u : Op2} (f : Op2 → Op2) (ht : l[k]? = some t) (hu : f t = u) : xset (((l.take k).map f ++ l.drop k).map Op2.enc) k u.enc = ((l.take (k + 1)).map f ++ l.drop (k + 1)).map Op2.enc := by
  have hk := (List.getElem?_eq_some_iff.1 ht).1
  have h1 : l.drop k = t :: l.drop (k + 1) := by rw [List.drop_eq_getElem_cons hk, show l[k] = t from Option.some.inj ((List.getElem?_eq_getElem hk).symm.trans ht)]
  have h2 : (((l.take k).map f).map Op2.enc).length = k := by simp; omega
  have h3 := xset_app t.enc u.enc [] ((l.drop (k + 1)).map Op2.enc) (((l.take k).map f).map Op2.enc)
  rw [h2] at h3
  rw [h1, List.map_append, List.map_cons, take_snoc ht, List.map_append, List.map_append, List.map_append]
  refine h3.trans ?_
  simp [hu]
theorem td_keep {l : List Op2} {k : Nat} {t : Op2} (f : Op2 → Op2) (ht : l[k]? = some t) (hu : f t = t) : ((l.take k).map f ++ l.drop k).map Op2.enc = ((l.take (k + 1)).map f ++ l.drop (k + 1)).map Op2.enc := by
  have hk := (List.getElem?_eq_some_iff.1 ht).1
  have h1 : l.drop k = t :: l.drop (k + 1) := by rw [List.drop_eq_getElem_cons hk, show l[k] = t from Option.some.inj ((List.getElem?_eq_getElem hk).symm.trans ht)]
  rw [h1, take_snoc ht, List.map_append (f := f)]
  simp [hu]
end Go.Proofs.Ytegejpieedckiaa
