/-
  Contracts of the kit's shelf as contracts of the walk: what a function does whose world only grows.
-/
import Derived.Test.YtidogmmfakcfgaaStr
import Derived.Below
namespace Go.Proofs.Ytidogmmfakcfgaa
set_option linter.unusedVariables false
set_option linter.unusedSimpArgs false
theorem ext_below {w w' : World} (h : RowKit.Below w.heap.size w w') : Ext (fun _ => False) w w' :=
  ⟨h.os, h.tape, h.output, h.size, fun g hg _ => h.block g hg, fun g cs t fr hh => ⟨cs, fr, (h.block g (lt_of_heap hh)).trans hh, rfl⟩, .of_eq fun g _ _ hg => h.block g (lt_of_heap hg)⟩
theorem spec_of_calls {P : Program} {f : FuncId} {ds : List DV} {D : DV} (hg : goodF P f = true)
    (h : ∀ (K : Kr) (w : World) (vs : Array Value) (g0 : Nat), Inv (lend K w g0 []) (K.cut w) (lget []) w → ArgsRel (K.cut w) w ds vs → Calls P f vs w fun e w' => ∃ v, e = .returned v ∧ Ext (fun _ => False) w w' ∧ VRel (K.cut w) w' D v) : Spec P f ds D :=
  ⟨hg, fun K w vs g0 hI hlt hargs => (h K w vs g0 hI hargs).mono fun e w' ⟨v, he, hx, hv⟩ => ⟨v, D, [], he, ⟨rfl, rfl⟩, inv_ext hI hx, hv⟩⟩
theorem add_none (b o n : Nat) : (⟨b, o, none⟩ : Addr).add n = ⟨b, o + n, none⟩ := by
  unfold Addr.add
  split
  · rename_i h; rw [h]; rfl
  · rfl
theorem alloc_at (w : World) (ob : Obj) : (w.alloc ob).heap[w.heap.size]? = some ob := by
  show (w.heap.push ob)[w.heap.size]? = some ob
  simp
theorem snap_alloc {K : Kr} {w : World} (xs : List Value) (t : TypeId) (fr : Nat × Nat) : VRel (K.cut w) (w.alloc (.cells xs.toArray t fr)) (.snap 1 (xs.map fun x => [.v x]) false) (.slice (some ⟨w.heap.size, 0, none⟩) xs.length xs.length) := by
  have hget : ∀ (i : Nat) (x : List DV) (j : Nat) (d : DV), (xs.map fun x => [DV.v x])[i]? = some x → x[j]? = some d → ∃ y, xs[i]? = some y ∧ j = 0 ∧ d = .v y := fun i x j d hx hd => by
    rw [List.getElem?_map] at hx
    cases hq : xs[i]? with
    | none => rw [hq] at hx; cases hx
    | some y =>
      rw [hq] at hx
      obtain rfl := Option.some.inj hx
      match j, hd with
      | 0, hd => exact ⟨y, rfl, rfl, (Option.some.inj hd).symm⟩
      | j + 1, hd => simp at hd
  refine .snap (fun i _ => (xs[i]?).getD undef) (by simp) (Nat.le_refl _) (fun h => by cases h) (fun y hy => ?_) (fun _ => ⟨_, rfl, rfl, ?_, fun h => absurd h.2 (Nat.lt_irrefl _)⟩) (fun ad i x j d hA hx hd => ?_) (fun i x j d hx hd => ?_)
  · obtain ⟨x, -, rfl⟩ := List.mem_map.1 hy
    rfl
  · show w.heap.size < (w.heap.push _).size
    simp
  · obtain rfl := Option.some.inj hA
    obtain ⟨y, hy, rfl, rfl⟩ := hget i x j d hx hd
    rw [add_none]
    unfold World.cell?
    dsimp only
    rw [alloc_at]
    simp [hy]
  · obtain ⟨y, hy, rfl, rfl⟩ := hget i x j d hx hd
    rw [hy]
    exact .v y
theorem snap_inv {K : Kr} {w : World} {xs : List ByteArray} {c : Bool} {v : Value} (h : VRel K w (.snap 1 (xs.map fun x => [.v (.string x)]) c) v) : ∃ A cap, v = .slice A xs.length cap ∧ xs.length ≤ cap ∧ (0 < xs.length → ∃ bk o, A = some ⟨bk, o, none⟩ ∧ bk < w.heap.size ∧ ∀ (j : Nat) x, xs[j]? = some x → w.cell? ⟨bk, o + j, none⟩ = some (.string x)) := by
  cases h with
  | snap f hl hlc hc hs ha hcell hrel =>
    rename_i A len cap
    have hlen : len = xs.length := by rw [← hl]; simp
    subst hlen
    refine ⟨A, cap, rfl, hlc, fun h0 => ?_⟩
    obtain ⟨ad, hA, hsp, hlt, -⟩ := ha h0
    obtain ⟨bk, o, sp⟩ := ad
    dsimp only at hsp hlt
    subst hsp
    refine ⟨bk, o, hA, hlt, fun j x hx => ?_⟩
    have hx2 : (xs.map fun x => [DV.v (.string x)])[j]? = some [.v (.string x)] := by rw [List.getElem?_map, hx]; rfl
    have h1 := hcell _ j _ 0 _ hA hx2 rfl
    have h2 := hrel j _ 0 _ hx2 rfl
    generalize f j 0 = y at h1 h2
    cases h2
    rw [add_none] at h1
    simpa using h1
theorem args1 {K : Kr} {w : World} {d : DV} {vs : Array Value} (h : ArgsRel K w [d] vs) : ∃ v, vs = #[v] ∧ VRel K w d v := by
  obtain ⟨hs, ha⟩ := h
  obtain ⟨l⟩ := vs
  match l, hs with
  | [a], _ => exact ⟨a, rfl, ha 0 _ _ rfl rfl⟩
theorem args2 {K : Kr} {w : World} {d1 d2 : DV} {vs : Array Value} (h : ArgsRel K w [d1, d2] vs) : ∃ v1 v2, vs = #[v1, v2] ∧ VRel K w d1 v1 ∧ VRel K w d2 v2 := by
  obtain ⟨hs, ha⟩ := h
  obtain ⟨l⟩ := vs
  match l, hs with
  | [a, b], _ => exact ⟨a, b, rfl, ha 0 _ _ rfl rfl, ha 1 _ _ rfl rfl⟩
theorem args3 {K : Kr} {w : World} {d1 d2 d3 : DV} {vs : Array Value} (h : ArgsRel K w [d1, d2, d3] vs) : ∃ v1 v2 v3, vs = #[v1, v2, v3] ∧ VRel K w d1 v1 ∧ VRel K w d2 v2 ∧ VRel K w d3 v3 := by
  obtain ⟨hs, ha⟩ := h
  obtain ⟨l⟩ := vs
  match l, hs with
  | [a, b, c], _ => exact ⟨a, b, c, rfl, ha 0 _ _ rfl rfl, ha 1 _ _ rfl rfl, ha 2 _ _ rfl rfl⟩
end Go.Proofs.Ytidogmmfakcfgaa
