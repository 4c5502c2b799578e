/-
  A law's arguments, opened by their shapes, as data and as deep values; a law out of its contract.
-/
import Derived.Test.YtidogmmfakcfgaaBase
import Derived.Test.YtidogmmfakcfgaaFw
namespace Go.Proofs.Ytidogmmfakcfgaa
open Go.RowKit
set_option linter.unusedVariables false
set_option linter.unusedSimpArgs false
def TS : Sh → Type
  | .int _ => Int
  | .bool => Bool
  | .str => ByteArray
  | .nil => Unit
  | .cons s r => TS s × TS r
  | .slice _ _ e => List (TS e)
def encS : (s : Sh) → TS s → List DV
  | .int k, n => [.v (.int k n)]
  | .bool, b => [.v (.bool b)]
  | .str, t => [.v (.string t)]
  | .nil, _ => []
  | .cons s r, (x, y) => encS s x ++ encS r y
  | .slice _ n e, (l : List (TS e)) => [.snap n (l.map (encS e)) false]
def wfS : (s : Sh) → TS s → Prop
  | .int k, n => (Lit.int k n).wf = true
  | .bool, _ => True
  | .str, t => t.size ≤ 140737488351232
  | .nil, _ => True
  | .cons s r, (x, y) => wfS s x ∧ wfS r y
  | .slice b _ e, (l : List (TS e)) => l.length * b ≤ 140737488351232 ∧ l.length ≤ maxLen ∧ ∀ x ∈ l, wfS e x
def Sh.posB : Sh → Bool
  | .cons s r => s.posB && r.posB
  | .slice _ n e => decide (0 < n) && decide (n = e.size) && e.posB
  | _ => true
def K0 : Kr := ⟨fun _ => False, fun _ => False, fun _ => 0, fun _ => False⟩
theorem encS_length : ∀ (s : Sh) (x : TS s), (encS s x).length = s.size
  | .int k, x => rfl
  | .bool, x => rfl
  | .str, x => rfl
  | .nil, x => rfl
  | .cons s r, (x, y) => by simp [encS, Sh.size, encS_length s x, encS_length r y]
  | .slice b n e, x => rfl
theorem opn_typed {w : World} : ∀ (s : Sh) (cs : List Value), s.posB = true → opn w w.heap.size s cs → ∃ x : TS s, cs.length = s.size ∧ wfS s x ∧ ∀ (i : Nat) (d : DV) (c : Value), (encS s x)[i]? = some d → cs[i]? = some c → VRel K0 w d c
  | .int k, cs, _, h => by
    obtain ⟨n, rfl, hw⟩ := h
    refine ⟨n, rfl, hw, fun i d c hd hc => ?_⟩
    cases i with
    | zero => simp [encS] at hd hc; rw [← hd, ← hc]; exact .v _
    | succ i => simp at hc
  | .bool, cs, _, h => by
    obtain ⟨n, rfl⟩ := h
    refine ⟨n, rfl, trivial, fun i d c hd hc => ?_⟩
    cases i with
    | zero => simp [encS] at hd hc; rw [← hd, ← hc]; exact .v _
    | succ i => simp at hc
  | .str, cs, _, h => by
    obtain ⟨n, rfl, hw⟩ := h
    refine ⟨n, rfl, hw, fun i d c hd hc => ?_⟩
    cases i with
    | zero => simp [encS] at hd hc; rw [← hd, ← hc]; exact .v _
    | succ i => simp at hc
  | .nil, cs, _, h => by
    have h' : cs = [] := h
    subst h'
    exact ⟨(), rfl, trivial, fun i d c hd hc => by simp at hc⟩
  | .cons s r, cs, hp, h => by
    simp only [Sh.posB, Bool.and_eq_true] at hp
    obtain ⟨c1, c2, rfl, hl, h1, h2⟩ := h
    obtain ⟨x, x1, x2, x3⟩ := opn_typed s c1 hp.1 h1
    obtain ⟨y, y1, y2, y3⟩ := opn_typed r c2 hp.2 h2
    refine ⟨(x, y), by simp [Sh.size, x1, y1], ⟨x2, y2⟩, fun i d c hd hc => ?_⟩
    simp only [encS] at hd
    have e : (encS s x).length = c1.length := by rw [encS_length, x1]
    by_cases hi : i < c1.length
    · rw [List.getElem?_append_left (by omega)] at hd
      rw [List.getElem?_append_left hi] at hc
      exact x3 i d c hd hc
    · rw [List.getElem?_append_right (by omega), e] at hd
      rw [List.getElem?_append_right (by omega)] at hc
      exact y3 _ d c hd hc
  | .slice b n e, cs, hp, h => by
    simp only [Sh.posB, Bool.and_eq_true, decide_eq_true_eq] at hp
    obtain ⟨⟨hn, hne⟩, hpe⟩ := hp
    obtain ⟨A, len, cap, rfl, hlc, hb, hm, hA, had⟩ := h
    have hel : ∀ i, i < len → ∃ x : TS e, wfS e x ∧ ∀ ad, A = some ad → ∀ (j : Nat) (d : DV), (encS e x)[j]? = some d → ∃ c, w.cell? (ad.add (i * n + j)) = some c ∧ VRel K0 w d c := by
      intro i hi
      cases A with
      | none => have := hA rfl; omega
      | some ad =>
        obtain ⟨_, h2⟩ := had ad rfl
        obtain ⟨es, h3, h4, h5⟩ := h2 i hi
        obtain ⟨x, x1, x2, x3⟩ := opn_typed e es hpe h5
        refine ⟨x, x2, fun ad' e' j d hd => ?_⟩
        obtain rfl := Option.some.inj e'
        have hj : j < n := by rw [hne, ← encS_length e x]; exact (List.getElem?_eq_some_iff.1 hd).1
        have hj2 : j < es.length := by omega
        exact ⟨es[j], by rw [h4 j hj]; exact List.getElem?_eq_getElem hj2, x3 j d _ hd (List.getElem?_eq_getElem hj2)⟩
    obtain ⟨l, hl, hx⟩ := choose_list len hel
    refine ⟨l, rfl, ⟨by rw [hl]; exact Nat.le_trans (Nat.mul_le_mul_right _ hlc) hb, by rw [hl]; omega, fun x hx' => ?_⟩, fun i d c hd hc => ?_⟩
    · obtain ⟨i, hi, rfl⟩ := List.mem_iff_getElem.1 hx'
      exact (hx i hi).1
    · cases i with
      | succ i => simp at hc
      | zero =>
        simp [encS] at hd hc
        subst hd hc
        have key : ∀ (ad : Addr) (i : Nat) (x : List DV) (j : Nat) (d : DV), A = some ad → (l.map (encS e))[i]? = some x → x[j]? = some d → ∃ c, w.cell? (ad.add (i * n + j)) = some c ∧ VRel K0 w d c := by
          intro ad i x j d hA hx' hd
          rw [List.getElem?_map] at hx'
          cases hq : l[i]? with
          | none => rw [hq] at hx'; cases hx'
          | some y =>
            rw [hq] at hx'
            obtain rfl := Option.some.inj hx'
            obtain ⟨hi, he⟩ := List.getElem?_eq_some_iff.1 hq
            have := (hx i hi).2 ad hA j d (by rw [he]; exact hd)
            exact this
        refine .snap (fun i j => match A with | some ad => (w.cell? (ad.add (i * n + j))).getD undef | none => undef) (by simp [hl]) hlc (fun h => by cases h) (fun x hx' => ?_) (fun h0 => ?_) (fun ad i x j d hA hx' hd => ?_) (fun i x j d hx' hd => ?_)
        · obtain ⟨y, _, rfl⟩ := List.mem_map.1 hx'
          rw [encS_length, hne]
        · cases A with
          | none => have := hA rfl; omega
          | some ad =>
            refine ⟨ad, rfl, ?_, (had ad rfl).1 h0, fun h => h⟩
            obtain ⟨es, h3, h4, h5⟩ := (had ad rfl).2 0 h0
            have h6 := h4 0 hn
            rw [Nat.zero_mul, List.getElem?_eq_getElem (by omega : 0 < es.length)] at h6
            have h7 : ad.add 0 = ad := by simp [Addr.add]
            rw [h7] at h6
            unfold World.cell? at h6
            split at h6
            · split at h6
              · cases h6
              · rename_i hsp; simpa using hsp
            · cases h6
        · obtain ⟨c, e1, e2⟩ := key ad i x j d hA hx' hd
          subst hA
          simp [e1]
        · have hi : i < len := by
            have := (List.getElem?_eq_some_iff.1 hx').1
            simpa [hl] using this
          cases A with
          | none => have := hA rfl; omega
          | some ad =>
            obtain ⟨c, e1, e2⟩ := key ad i x j d rfl hx' hd
            simp only [e1, Option.getD_some]
            exact e2
def valS : (s : Sh) → TS s → DV
  | .int k, n => .v (.int k n)
  | .bool, b => .v (.bool b)
  | .str, t => .v (.string t)
  | .nil, _ => .any
  | .cons s r, (x, y) => .agg (encS s x ++ encS r y)
  | .slice _ n e, (l : List (TS e)) => .snap n (l.map (encS e)) false
theorem val_typed {w : World} {s : Sh} {cs : List Value} (hp : s.posB = true) (hs : s ≠ .nil) (h : opn w w.heap.size s cs) : ∃ x : TS s, wfS s x ∧ VRel K0 w (valS s x) (s.val cs) := by
  obtain ⟨x, x1, x2, x3⟩ := opn_typed s cs hp h
  refine ⟨x, x2, ?_⟩
  have one : s.size = 1 → (encS s x).length = 1 → VRel K0 w ((encS s x).headD .any) (cs.headD undef) := by
    intro h1 h2
    obtain ⟨d, hd⟩ := List.length_eq_one_iff.1 h2
    obtain ⟨c, hc⟩ := List.length_eq_one_iff.1 (x1.trans h1)
    rw [hd, hc] at x3 ⊢
    exact x3 0 d c rfl rfl
  cases s with
  | nil => exact absurd rfl hs
  | cons s r =>
    obtain ⟨y, z⟩ := x
    have hl := encS_length (.cons s r) (y, z)
    exact .agg (ds := encS s y ++ encS r z) (by simp only [List.size_toArray]; rw [x1, ← hl]; rfl) (fun i d c hd hc => x3 i d c hd (by simpa using hc))
  | int k => exact one rfl rfl
  | bool => exact one rfl rfl
  | str => exact one rfl rfl
  | slice b n e => exact one rfl rfl
def TSs : List Sh → Type
  | [] => Unit
  | s :: r => TS s × TSs r
def valSs : (ss : List Sh) → TSs ss → List DV
  | [], _ => []
  | s :: r, (x, y) => valS s x :: valSs r y
def wfSs : (ss : List Sh) → TSs ss → Prop
  | [], _ => True
  | s :: r, (x, y) => wfS s x ∧ wfSs r y
def Sh.okB : Sh → Bool
  | .nil => false
  | s => s.posB
theorem all_typed {w : World} : ∀ (ss : List Sh) (vs : List Value), ss.all Sh.okB = true → opnAll w w.heap.size ss vs → ∃ x : TSs ss, wfSs ss x ∧ ArgsRel K0 w (valSs ss x) vs.toArray
  | [], vs, _, h => by
    have h' : vs = [] := h
    subst h'
    exact ⟨(), trivial, rfl, fun i d v hd => by simp [valSs] at hd⟩
  | s :: r, vs, hp, h => by
    simp only [List.all_cons, Bool.and_eq_true] at hp
    obtain ⟨cs, vr, rfl, h1, h2⟩ := h
    have hs : s ≠ .nil := by rintro rfl; simp [Sh.okB] at hp
    have hp1 : s.posB = true := by have := hp.1; cases s <;> first | exact absurd rfl hs | exact this
    obtain ⟨x, x1, x2⟩ := val_typed hp1 hs h1
    obtain ⟨y, y1, y2, y3⟩ := all_typed r vr hp.2 h2
    refine ⟨(x, y), ⟨x1, y1⟩, by simpa [valSs] using y2, fun i d v hd hv => ?_⟩
    cases i with
    | zero => simp [valSs] at hd hv; rw [← hd, ← hv]; exact x2
    | succ i => exact y3 i d v (by simpa [valSs] using hd) (by simpa using hv)
theorem law_core {P : Program} {f : FuncId} {shs : List Sh} {W : World} {args : Array Value} (hok : shs.all Sh.okB = true) (h : opnAll W W.heap.size shs args.toList) (hspec : ∀ x : TSs shs, wfSs shs x → Spec P f (valSs shs x) (.v (.bool true))) (hgl : GlobW W := by exact globW_nil _) :
    Calls P f args W fun e W' => e = .returned (.bool true) ∧ Below W.heap.size W W' := by
  obtain ⟨x, hx, ha⟩ := all_typed shs args.toList hok h
  have ha' : ArgsRel (K0.cut W) W (valSs shs x) args := argsRel_cut (by simpa using ha)
  have hI : Inv (lend K0 W 0 []) (K0.cut W) (lget []) W := ⟨Ext.refl _ _, ⟨fun n h => h.elim, fun n h => h.elim, fun n h => h.elim, fun g _ => Iff.rfl⟩, fun k o h => by simp [lget] at h, fun k k' o o' h => by simp [lget] at h, fun n h => h, fun n h => h.elim, fun k o h => by simp [lget] at h, fun k o h => by simp [lget] at h, fun g cs hg => ⟨fun ⟨_, _, q, _⟩ => by simp [lget] at q, fun q => q.1, hgl g cs hg⟩⟩
  refine ((hspec x hx).2 K0 W args 0 hI (fun n h => h.elim) ha').mono ?_
  rintro e w' ⟨v, d, H1, rfl, ⟨rfl, rfl⟩, hI', hv⟩
  refine ⟨by rw [vrel_v hv], hI'.ext.os, hI'.ext.tape, hI'.ext.output, hI'.ext.size, fun k hk => hI'.ext.keep k hk ?_⟩
  rintro ⟨j, o, h, _⟩
  simp [lend, lget] at h
end Go.Proofs.Ytidogmmfakcfgaa
