/-
  A row of texts that a function of the library has written anew.
-/
import Derived.Test.YtlfbjdafnappdaaShB
import Derived.Test.YtlfbjdafnappdaaTriU
import Derived.Test.YtlfbjdafnappdaaPutC
import Derived.Sort.Grow
import Derived.Sort.EncStr
namespace Go.Proofs.Ytlfbjdafnappdaa
set_option linter.unusedVariables false
set_option linter.unusedSimpArgs false
abbrev stR (l : List B8) : List (List DV) := l.map fun b => [.v (.string (mkS b))]
theorem stR_len (l : List B8) : (stR l).length = l.length := List.length_map _
theorem stR_nf (l : List B8) (g : Nat) : nfLL g (stR l) := nfLL_map (fun x => by simp [nfL, nfD])
theorem stR_one (l : List B8) : allOnes (stR l) = true := allOnes_map (f := fun b : B8 => [DV.v (.string (mkS b))]) (fun x => rfl) l
theorem stR_snoc (l : List B8) (b : B8) : stR l ++ [[.v (.string (mkS b))]] = stR (l ++ [b]) := by simp
theorem stR_get {l : List B8} {i j : Nat} {x : List DV} {d : DV} (hx : (stR l)[i]? = some x) (hd : x[j]? = some d) : ∃ b, l[i]? = some b ∧ j = 0 ∧ d = .v (.string (mkS b)) := by
  rw [List.getElem?_map] at hx
  cases hq : l[i]? with
  | none => rw [hq] at hx; cases hx
  | some b =>
    rw [hq] at hx
    obtain rfl := Option.some.inj hx
    match j, hd with
    | 0, hd => exact ⟨b, rfl, rfl, (Option.some.inj hd).symm⟩
    | j + 1, hd => simp at hd
theorem putRow_setRow (w : World) (g : Nat) (zs : List B8) {cs : Array Value} {t : TypeId} {fr : Nat × Nat} (h : w.heap[g]? = some (.cells cs t fr)) : Sort.putRow encStr w g 0 zs.toArray = w.setRow g (Sort.putCells encStr 0 zs.toArray cs) := by
  unfold Sort.putRow Sort.mapBlock World.setRow
  congr 1
  apply Array.ext_getElem?
  intro k
  simp only [Array.getElem?_modify]
  by_cases hk : g = k
  · subst hk
    simp [h, Sort.onCells]
  · simp [hk]
theorem ahead_ext (w : World) (q : Nat) : Ext (fun _ => False) w (Sort.ahead w q) := ⟨rfl, rfl, rfl, Nat.le_refl _, fun _ _ _ => rfl, fun g cs t fr h => ⟨cs, fr, h, rfl⟩, .of_eq fun _ _ _ _ => rfl⟩
theorem grow_ext (w : World) (os : Array Obj) : Ext (fun _ => False) w (Sort.grow w os) :=
  ⟨rfl, rfl, rfl, by simp, fun g hg _ => Sort.heap_grow_old w os hg, fun g cs t fr h => ⟨cs, fr, (Sort.heap_grow_old w os (lt_of_heap h)).trans h, rfl⟩, .of_eq fun g es ck h => Sort.heap_grow_old w os (by
    rcases Nat.lt_or_ge g w.heap.size with q | q
    · exact q
    · rw [Array.getElem?_eq_none q] at h; cases h)⟩
theorem inv_rows {Γ : Gm} {K : Kr} {w : World} {n : Nat} {xs : List B8} (ys zs : List B8) (hI : Inv Γ K (lget [some ⟨n, 1, stR xs⟩]) w) (hr : K.real n) (hzs : zs.length = xs.length) (hyl : ys.length ≤ zs.length) (hpre : ∀ (i : Nat) (b : B8), ys[i]? = some b → zs[i]? = some b) (q : Nat) (os : Array Obj) :
    Inv Γ K (lget [some ⟨n, 1, stR ys⟩]) (Sort.grow (Sort.putRow encStr (Sort.ahead w q) (K.μ n) 0 zs.toArray) os) ∧ Mono K w K (Sort.grow (Sort.putRow encStr (Sort.ahead w q) (K.μ n) 0 zs.toArray) os) := by
  have m0 : ∀ {a b : World}, Ext (fun _ => False) a b → Mono K a K b := fun h => ⟨h.weaken (fun _ _ hf => hf.elim), fun n hn => ⟨hn, rfl⟩, fun g _ hm => hm⟩
  have hI1 := inv_ext hI (ahead_ext w q)
  have ho : lget [some (⟨n, 1, stR xs⟩ : AObj)] 0 = some ⟨n, 1, stR xs⟩ := rfl
  rcases (hI1.obj 0 _ ho).two (fun hm => by have := hm.2.1; simp only at this; omega) with ⟨u1, -⟩ | ⟨-, cs, t, fr, u2, u3, u4, u5, u6⟩
  · exact absurd hr u1
  · have hsz : (Sort.putCells encStr 0 zs.toArray cs).size = cs.size := by simp [Sort.putCells]
    simp only [stR_len, Nat.mul_one] at u4
    obtain ⟨hM, hW⟩ := inv_write hI1 ho hr u2 u3 hsz (xs := stR ys) (by simp only [stR_len, Nat.mul_one]; omega) (fun x hx => by
      obtain ⟨b, -, rfl⟩ := List.mem_map.1 hx
      rfl) (fun i x j d hx hd => by
      obtain ⟨b, hb, rfl, rfl⟩ := stR_get hx hd
      have hz := hpre i b hb
      have hi : i < zs.length := (List.getElem?_eq_some_iff.1 hz).1
      refine ⟨.string (mkS b), ?_, .v _⟩
      simp only [Nat.mul_one, Nat.add_zero]
      unfold Sort.putCells
      rw [Array.getElem?_mapIdx, Array.getElem?_eq_getElem (show i < cs.size by omega), Option.map_some, if_pos ⟨Nat.zero_le _, by simp; omega⟩, Nat.sub_zero, getB zs i hi]
      have : zs[i] = b := Option.some.inj ((List.getElem?_eq_getElem hi).symm.trans hz)
      rw [this]
      rfl)
    rw [← putRow_setRow (Sort.ahead w q) (K.μ n) zs u3] at hM hW
    have e : (fun j => if j = 0 then some (⟨n, 1, stR ys⟩ : AObj) else lget [some (⟨n, 1, stR xs⟩ : AObj)] j) = lget [some ⟨n, 1, stR ys⟩] := by
      funext j
      cases j with
      | zero => rfl
      | succ j => simp [lget]
    have hW : Inv Γ K (fun j => if j = 0 then some (⟨n, 1, stR ys⟩ : AObj) else lget [some (⟨n, 1, stR xs⟩ : AObj)] j) _ := hW
    rw [e] at hW
    exact ⟨inv_ext hW (grow_ext _ os), ((m0 (ahead_ext w q)).trans hM).trans (m0 (grow_ext _ os))⟩
end Go.Proofs.Ytlfbjdafnappdaa
