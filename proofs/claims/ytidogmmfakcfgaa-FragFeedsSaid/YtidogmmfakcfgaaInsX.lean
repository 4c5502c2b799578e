/-
  slices.Insert at a type of three cells, one element, behind some and ahead of others: where there is room, and where there is none.
-/
import Derived.Test.YtidogmmfakcfgaaGen
import Derived.Shelf.Spec.SlicesInsertGrow
namespace Go.Proofs.Ytidogmmfakcfgaa
open Go.RowKit Go.Lib
set_option linter.unusedVariables false
set_option linter.unusedSimpArgs false
theorem run_copyN {P : Program} (w : World) (dT sT ty elem : TypeId) (s g o dLen dCap : Nat) (a : Addr) (sLen sCap : Nat) (cur : Array Value) (t : TypeId) (fz : Nat × Nat) (cs : List Value) (hu : P.underlying dT = some (.slice elem)) (hs : (P.info? elem).map (·.size) = some s)
    (hg : w.heap[g]? = some (.cells cur t fz)) (hnf : NF cur.size fz) (hn : cs.length = Nat.min sLen dLen * s) (hsrc : ∀ j v, cs[j]? = some v → w.cell? (a.add j) = some v) (hfit : o + cs.length ≤ cur.size) (h1 : ∀ v ∈ cs, v.oneCell' = true) :
    (Builtin.copy_ #[dT, sT] ty #[.slice (some ⟨g, o, none⟩) dLen dCap, .slice (some a) sLen sCap]).run P w = .ok (goInt (Nat.min sLen dLen)) (w.setRow g (cur.toList.take o ++ cs ++ cur.toList.drop (o + cs.length)).toArray) := by
  have hl := run_loadCells_list (P := P) w a cs hsrc
  have hst := run_storeCells_atN P g o t fz cs 0 cur w hg hnf (by simpa using hfit) h1
  cases hq : P.info? elem with
  | none => simp [hq] at hs
  | some i =>
    have hi : i.size = s := by simpa [hq] using hs
    simp [Builtin.copy_, run_underlying hu, Builtin.lenOf, Builtin.firstCells, sizeOf, typeInfo, hq, hi, ← hn, hl, hst]
structure HidI (p : Prop) : Prop where
  out : p
theorem frozen_no {w : World} {g off : Nat} {cs : Array Value} {t : TypeId} {fr : Nat × Nat} (h : w.heap[g]? = some (.cells cs t fr)) (hp : fr.2 ≤ fr.1) : w.frozen? ⟨g, off, none⟩ = false := by
  obtain ⟨lo, hi⟩ := fr
  simp only [World.frozen?, h]
  dsimp only at hp
  by_cases h1 : lo ≤ off
  · have : ¬ off < hi := by omega
    simp [h1, this]
  · simp [h1]
theorem cell_at {w : World} {g j : Nat} {cs : Array Value} {t : TypeId} {fr : Nat × Nat} (h : w.heap[g]? = some (.cells cs t fr)) : w.cell? ⟨g, j, none⟩ = cs[j]? := by
  simp [World.cell?, h]
def DT (n : Nat) (l : List Value) (k m : Nat) : List Value := (l.take m).drop k
theorem DT_get (l : List Value) (k m j : Nat) (v : Value) (h : (DT 0 l k m)[j]? = some v) : l[k + j]? = some v := by
  unfold DT at h
  rw [List.getElem?_drop, List.getElem?_take] at h
  split at h
  · exact h
  · cases h
theorem DT_len (l : List Value) (k m : Nat) (h : m ≤ l.length) : (DT 0 l k m).length = m - k := by
  unfold DT
  rw [List.length_drop, List.length_take]
  omega
set_option maxHeartbeats 4000000 in
set_option maxRecDepth 100000 in
theorem ins_shift (w : World) (g n c i vb vc : Nat) (cur vcur : Array Value) (t tv : TypeId) (fz fv : Nat × Nat) (hi : i < n) (hroom : n + 1 ≤ c) (hc : c * 3 = cur.size) (hc63 : n + 1 ≤ 9223372036854775807) (hvb : vb ≠ g) (hg : w.heap[g]? = some (.cells cur t fz)) (hnf : fz.2 ≤ fz.1)
    (hv : w.heap[vb]? = some (.cells vcur tv fv)) (hvf : fv.2 ≤ fv.1) (hvs : 3 ≤ vcur.size) (h1c : ∀ v ∈ DT 0 cur.toList (i * 3) (n * 3), v.oneCell' = true) (h1v : ∀ v ∈ DT 0 vcur.toList 0 3, v.oneCell' = true) :
    Calls Try.prog 38 #[.slice (some ⟨g, 0, none⟩) n c, .int .i64 i, .slice (some ⟨vb, 0, none⟩) 1 vc] w fun e w' =>
      e = .returned (.slice (some ⟨g, 0, none⟩) (n + 1) c) ∧ ∃ c1 c2 : Array Value, c1 = (cur.toList.take ((i + 1) * 3) ++ DT 0 cur.toList (i * 3) (n * 3) ++ cur.toList.drop ((i + 1) * 3 + (DT 0 cur.toList (i * 3) (n * 3)).length)).toArray ∧ c2 = (c1.toList.take (i * 3) ++ DT 0 vcur.toList 0 3 ++ c1.toList.drop (i * 3 + (DT 0 vcur.toList 0 3).length)).toArray ∧ w' = (w.drew.setRow g c1).setRow g c2 := by
  have hu : Try.prog.underlying 36 = some (.slice 47) := Try.underlying36
  have hsz : (Try.prog.info? 47).map (·.size) = some 3 := by kernel_rfl
  have hzz : ∀ W : World, (Go.sizeOf 47).run Try.prog W = .ok 3 W := fun W => by
    cases hq : Try.prog.info? 47 with
    | none => rw [hq] at hsz; cases hsz
    | some i0 =>
      have : i0.size = 3 := by rw [hq] at hsz; exact Option.some.inj hsz
      simp [sizeOf, typeInfo, hq, this]
  have hlD := DT_len cur.toList (i * 3) (n * 3) (by simp; omega)
  have hlV := DT_len vcur.toList 0 3 (by simp; omega)
  have hgD := DT_get cur.toList (i * 3) (n * 3)
  have hgV := DT_get vcur.toList 0 3
  generalize DT 0 cur.toList (i * 3) (n * 3) = D at *
  generalize DT 0 vcur.toList 0 3 = V at *
  have hz1 : ¬ ((1 : Int) = 0) := by omega
  have hz2 : ¬ ((i : Int) = (n : Int)) := by omega
  have hov : ∀ lb cb, (callFunc 53 #[.slice (some ⟨vb, 0, none⟩) 1 vc, .slice (some ⟨g, (i + 1) * 3, none⟩) lb cb]).run Try.prog w = .ok (.value (.bool false)) w := fun lb cb => by
    rw [run_callFunc_extern (fn := Try.f53) Try.func53 (by kernel_rfl) (by kernel_rfl) (by kernel_rfl) (e := Extern.SlicesOverlaps.overlaps #[36, 36] #[4]) (by kernel_rfl),
      Lib.run_overlaps_apart w 36 4 47 hu 3 hzz ⟨vb, 0, none⟩ ⟨g, (i + 1) * 3, none⟩ 1 vc lb cb hvb tv t vcur.size cur.size (by simp [World.shape?, hv]) (by simp [World.shape?, hg]) (by omega) (frozen_no hv hvf) (frozen_no hv hvf)]
    rfl
  have mixed := mixed_ok
  obtain ⟨c1, hc1⟩ : ∃ c1 : Array Value, c1 = (cur.toList.take ((i + 1) * 3) ++ D ++ cur.toList.drop ((i + 1) * 3 + D.length)).toArray := ⟨_, rfl⟩
  have hs1 : c1.size = cur.size := by rw [hc1]; simp; omega
  have hcp1 : ∀ ty dc sc, (Builtin.copy_ #[36, 36] ty #[.slice (some ⟨g, (i + 1) * 3, none⟩) (n - i) dc, .slice (some ⟨g, i * 3, none⟩) (n + 1 - i) sc]).run Try.prog w.drew = .ok (goInt ((n - i : Nat) : Int)) (w.drew.setRow g c1) := fun ty dc sc => by
    have h := run_copyN w.drew 36 36 ty 47 3 g ((i + 1) * 3) (n - i) dc ⟨g, i * 3, none⟩ (n + 1 - i) sc cur t fz D hu hsz hg (.inl hnf) (by rw [hlD]; simp only [Nat.min_def]; split <;> omega) (fun j v hj => by rw [Addr.add_lit]; rw [cell_at (w := w.drew) hg, ← Array.getElem?_toList]; exact hgD j v hj) (by rw [hlD]; omega) h1c
    rw [← hc1, show Nat.min (n + 1 - i) (n - i) = n - i by simp only [Nat.min_def]; split <;> omega] at h
    exact h
  have hg1 : (w.drew.setRow g c1).heap[g]? = some (.cells c1 t fz) := setRow_heap w.drew g cur c1 t fz hg
  have hv1 : (w.drew.setRow g c1).heap[vb]? = some (.cells vcur tv fv) := by rw [setRow_other hvb]; exact hv
  obtain ⟨c2, hc2⟩ : ∃ c2 : Array Value, c2 = (c1.toList.take (i * 3) ++ V ++ c1.toList.drop (i * 3 + V.length)).toArray := ⟨_, rfl⟩
  have hcp2 : ∀ (W : World), W = w.drew.setRow g c1 → ∀ ty dc, (Builtin.copy_ #[36, 36] ty #[.slice (some ⟨g, i * 3, none⟩) (n + 1 - i) dc, .slice (some ⟨vb, 0, none⟩) 1 vc]).run Try.prog W = .ok (goInt 1) ((w.drew.setRow g c1).setRow g c2) := fun W hW ty dc => by
    subst hW
    have h := run_copyN (w.drew.setRow g c1) 36 36 ty 47 3 g (i * 3) (n + 1 - i) dc ⟨vb, 0, none⟩ 1 vc c1 t fz V hu hsz hg1 (.inl hnf) (by rw [hlV]; simp only [Nat.min_def]; split <;> omega) (fun j v hj => by rw [Addr.add_lit]; rw [cell_at hv1, ← Array.getElem?_toList]; exact hgV j v hj) (by rw [hlV]; omega) h1v
    rw [← hc2, show Nat.min 1 (n + 1 - i) = 1 by simp only [Nat.min_def]; split <;> omega] at h
    exact h
  have hw1 : IntKind.i64.wrap ((i : Int) + 1) = (i : Int) + 1 := by rw [IntKind.wrap_i64]; omega
  have hw2 : IntKind.i64.wrap ((n : Int) + 1) = (n : Int) + 1 := by rw [IntKind.wrap_i64]; omega
  have hb1 : (0 : Int) ≤ (i : Int) + 1 := by omega
  have hb5 : (0 : Int) ≤ (n : Int) + 1 := by omega
  have hin : i ≤ n := by omega
  have htn : ((i : Int) + 1).toNat = i + 1 := by omega
  have htm : ((n : Int) + 1).toNat = n + 1 := by omega
  have hb2 : ¬ (c = i + 1) := by omega
  have hb3 : (i : Int) ≤ (n : Int) + 1 := by omega
  have hb4 : ¬ (c = i) := by omega
  have hb6 : ¬ ((c : Int) < (n : Int) + 1) := by omega
  have HC1 := HidI.mk hc1
  have HC2 := HidI.mk hc2
  clear hgD hgV h1c h1v hc1 hc2
  go_enter Try.func38, Try.ntmps38
  go_wp2_with (simp only [hov])
  go_region_law_o (refine step_copy_runI rfl _ _ 36 36 rfl _ _ (by simp [Act.eval, Act.put]) (by simp [Act.eval, Act.put]) (hcp1 _ _ _) ?_)
  go_wp2_with (at_builtin; refine wpList_copy_runI _ rfl _ _ 36 36 rfl _ _ rfl rfl (hcp2 _ rfl _ _) ?_)
  go_ret
  exact ⟨rfl, c1, c2, HC1.out, HC2.out, rfl⟩
theorem part_info : ∃ i0 : TypeInfo, Try.prog.info? 47 = some i0 ∧ i0.zero = some (.agg #[.int .i64 0, .string ⟨#[]⟩, .bool false]) ∧ i0.size = 3 ∧ i0.bytes = 32 := by
  have h : (Try.prog.info? 47).map (fun i => (i.zero, i.size, i.bytes)) = some (some (.agg #[.int .i64 0, .string ⟨#[]⟩, .bool false]), 3, 32) := by kernel_rfl
  cases hq : Try.prog.info? 47 with
  | none => rw [hq] at h; cases h
  | some i0 =>
    rw [hq] at h
    have h := Option.some.inj h
    injection h with h1 h2
    injection h2 with h2 h3
    exact ⟨i0, rfl, h1, h2, h3⟩
def zP (k : Nat) : Array Value := Builtin.zeroCells (Value.agg #[.int .i64 0, .string ⟨#[]⟩, .bool false]).cells k
theorem zP_size (k : Nat) : (zP k).size = k * 3 := by
  unfold zP
  simp [Builtin.zeroCells, Value.cells]
set_option maxHeartbeats 4000000 in
set_option maxRecDepth 100000 in
theorem ins_grow (w : World) (g n c i vb vc : Nat) (cur vcur : Array Value) (t tv : TypeId) (fz fv : Nat × Nat) (hi : i < n) (hnc : n ≤ c) (hroom : c < n + 1) (hbig : (n + 1) * 32 ≤ 140737488355328) (hc : c * 3 = cur.size) (hg : w.heap[g]? = some (.cells cur t fz))
    (hv : w.heap[vb]? = some (.cells vcur tv fv)) (hvs : 3 ≤ vcur.size) (h1c : ∀ v ∈ DT 0 cur.toList (i * 3) (n * 3), v.oneCell' = true) (h1v : ∀ v ∈ DT 0 vcur.toList 0 3, v.oneCell' = true) :
    Calls Try.prog 38 #[.slice (some ⟨g, 0, none⟩) n c, .int .i64 i, .slice (some ⟨vb, 0, none⟩) 1 vc] w fun e w' =>
      ∃ G, n + 1 ≤ G ∧ e = .returned (.slice (some ⟨w.heap.size, 0, none⟩) (n + 1) G) ∧ ∃ R c1 c2 : Array Value, R = (cur.toList.take (i * 3)).toArray ++ zP (n + 1 - i) ++ zP (G - (n + 1)) ∧ c1 = (R.toList.take (i * 3) ++ DT 0 vcur.toList 0 3 ++ R.toList.drop (i * 3 + (DT 0 vcur.toList 0 3).length)).toArray ∧ c2 = (c1.toList.take ((i + 1) * 3) ++ DT 0 cur.toList (i * 3) (n * 3) ++ c1.toList.drop ((i + 1) * 3 + (DT 0 cur.toList (i * 3) (n * 3)).length)).toArray ∧ w' = (((w.alloc (.cells R 47)).drew.setRow w.heap.size c1).drew).setRow w.heap.size c2 := by
  have hu : Try.prog.underlying 36 = some (.slice 47) := Try.underlying36
  have hi3 : Try.prog.underlying 3 = some (.int .i64) := Try.underlying3
  obtain ⟨i0, hi0, hz0, hzs, hzb⟩ := part_info
  have hsz : (Try.prog.info? 47).map (·.size) = some 3 := by rw [hi0]; simp [hzs]
  have hlD := DT_len cur.toList (i * 3) (n * 3) (by simp; omega)
  have hlV := DT_len vcur.toList 0 3 (by simp; omega)
  have hgD := DT_get cur.toList (i * 3) (n * 3)
  have hgV := DT_get vcur.toList 0 3
  generalize DT 0 cur.toList (i * 3) (n * 3) = D at *
  generalize DT 0 vcur.toList 0 3 = V at *
  have hgl := lt_of_heap hg
  have hvl := lt_of_heap hv
  have hz1 : ¬ ((1 : Int) = 0) := by omega
  have hz2 : ¬ ((i : Int) = (n : Int)) := by omega
  have hz3 : (c : Int) < (n : Int) + 1 := by omega
  have hkk : (n : Int) + 1 - (i : Int) = ((n + 1 - i : Nat) : Int) := by omega
  have hik : i + (n + 1 - i) = n + 1 := by omega
  have hold : (Builtin.firstCells i0.size i (.slice (some ⟨g, 0, none⟩) i c)).run Try.prog w.drew = .ok (cur.toList.take (i * 3)).toArray w.drew := by
    rw [hzs]
    exact run_firstCells_some w.drew 3 i ⟨g, 0, none⟩ i c (cur.toList.take (i * 3)) (by rw [List.length_take]; simp; omega) (fun j v hj => by
      rw [Addr.add_lit]
      rw [cell_at (w := w.drew) hg, ← Array.getElem?_toList, Nat.zero_add]
      rw [List.getElem?_take] at hj
      split at hj
      · exact hj
      · cases hj)
  obtain ⟨G, hG⟩ : ∃ G, G = grownCap w (n + 1) c 47 := ⟨_, rfl⟩
  obtain ⟨R, hR⟩ : ∃ R : Array Value, R = (cur.toList.take (i * 3)).toArray ++ zP (n + 1 - i) ++ zP (G - (n + 1)) := ⟨_, rfl⟩
  have hrz : ∀ ty, (Builtin.append_ #[36, 3] ty #[.slice (some ⟨g, 0, none⟩) i c, .int .i64 ((n : Int) + 1 - (i : Int))]).run Try.prog w =
      .ok (.slice (some ⟨w.heap.size, 0, none⟩) (n + 1) G) (w.drew.alloc (.cells R 47)) := fun ty => by
    have h := Lib.run_append_grow_zeros w 36 3 ty 47 i0 _ .i64 .i64 hu hi3 hi0 hz0 (some ⟨g, 0, none⟩) i c (cur.toList.take (i * 3)) hold (n + 1 - i) (by omega) (by rw [hzs]; omega) (by omega) (by omega) (by rw [hzb]; omega) (by rw [hzb, hik]; exact growslice_fits hroom hbig)
    rw [hik, ← hG] at h
    rw [hkk, hR]
    exact h
  have hGn : n + 1 ≤ G := by rw [hG]; exact grownCap_ge w _ _ _
  have hG63 : G ≤ 9223372036854775807 := by
    have := grownCap_le_maxLen w (n + 1) c 47 (by unfold maxLen; omega)
    rw [← hG] at this
    unfold maxLen at this
    omega
  have hRs : R.size = G * 3 := by
    rw [hR]
    simp only [Array.size_append, zP_size, List.size_toArray, List.length_take, Array.length_toList]
    omega
  have mixed := mixed_ok
  obtain ⟨W1, hW1⟩ : ∃ W1, W1 = w.drew.alloc (.cells R 47) := ⟨_, rfl⟩
  have hS : W1.heap[w.heap.size]? = some (.cells R 47 (0, 0)) := by rw [hW1]; exact heap_new w.drew _
  have hg0 : W1.heap[g]? = some (.cells cur t fz) := by rw [hW1]; exact (RowKit.Below.heap_alloc w.drew _ g hgl).trans hg
  have hv0 : W1.heap[vb]? = some (.cells vcur tv fv) := by rw [hW1]; exact (RowKit.Below.heap_alloc w.drew _ vb hvl).trans hv
  obtain ⟨c1, hc1⟩ : ∃ c1 : Array Value, c1 = (R.toList.take (i * 3) ++ V ++ R.toList.drop (i * 3 + V.length)).toArray := ⟨_, rfl⟩
  have hs1 : c1.size = R.size := by rw [hc1]; simp; omega
  have hcpA : ∀ (W : World), W.heap = W1.heap → ∀ ty dc, (Builtin.copy_ #[36, 36] ty #[.slice (some ⟨w.heap.size, i * 3, none⟩) (n + 1 - i) dc, .slice (some ⟨vb, 0, none⟩) 1 vc]).run Try.prog W = .ok (goInt 1) (W.setRow w.heap.size c1) := fun W hW ty dc => by
    have h := run_copyN W 36 36 ty 47 3 w.heap.size (i * 3) (n + 1 - i) dc ⟨vb, 0, none⟩ 1 vc R 47 (0, 0) V hu hsz (by rw [hW]; exact hS) (nf0 _) (by rw [hlV]; simp only [Nat.min_def]; split <;> omega) (fun j v hj => by rw [Addr.add_lit]; rw [cell_at (show W.heap[vb]? = _ by rw [hW]; exact hv0), ← Array.getElem?_toList]; exact hgV j v hj) (by rw [hlV]; omega) h1v
    rw [← hc1, show Nat.min 1 (n + 1 - i) = 1 by simp only [Nat.min_def]; split <;> omega] at h
    exact h
  have hS1 : (W1.setRow w.heap.size c1).heap[w.heap.size]? = some (.cells c1 47 (0, 0)) := setRow_heap W1 _ R c1 _ _ hS
  have hg1 : (W1.setRow w.heap.size c1).heap[g]? = some (.cells cur t fz) := by rw [setRow_other (show g ≠ w.heap.size by omega)]; exact hg0
  obtain ⟨c2, hc2⟩ : ∃ c2 : Array Value, c2 = (c1.toList.take ((i + 1) * 3) ++ D ++ c1.toList.drop ((i + 1) * 3 + D.length)).toArray := ⟨_, rfl⟩
  have hcpB : ∀ (W : World), W.heap = (W1.setRow w.heap.size c1).heap → ∀ ty dc sc, (Builtin.copy_ #[36, 36] ty #[.slice (some ⟨w.heap.size, (i + 1) * 3, none⟩) (n - i) dc, .slice (some ⟨g, i * 3, none⟩) (n - i) sc]).run Try.prog W = .ok (goInt ((n - i : Nat) : Int)) (W.setRow w.heap.size c2) := fun W hW ty dc sc => by
    have h := run_copyN W 36 36 ty 47 3 w.heap.size ((i + 1) * 3) (n - i) dc ⟨g, i * 3, none⟩ (n - i) sc c1 47 (0, 0) D hu hsz (by rw [hW]; exact hS1) (nf0 _) (by rw [hlD]; simp only [Nat.min_def]; split <;> omega) (fun j v hj => by rw [Addr.add_lit]; rw [cell_at (show W.heap[g]? = _ by rw [hW]; exact hg1), ← Array.getElem?_toList]; exact hgD j v hj) (by rw [hlD]; omega) h1c
    rw [← hc2, show Nat.min (n - i) (n - i) = n - i by simp only [Nat.min_def]; split <;> omega] at h
    exact h
  have hw1 : IntKind.i64.wrap ((i : Int) + 1) = (i : Int) + 1 := by rw [IntKind.wrap_i64]; omega
  have hw2 : IntKind.i64.wrap ((n : Int) + 1) = (n : Int) + 1 := by rw [IntKind.wrap_i64]; omega
  have hw3 : IntKind.i64.wrap ((n : Int) + 1 - (i : Int)) = (n : Int) + 1 - (i : Int) := by rw [IntKind.wrap_i64]; omega
  have hb1 : (0 : Int) ≤ (i : Int) + 1 := by omega
  have hin : i ≤ n := by omega
  have htn : ((i : Int) + 1).toNat = i + 1 := by omega
  have hGi : ¬ (G = i) := by omega
  have hGim : ¬ (G = i + 1) := by omega
  have hci : ¬ (c = i) := by omega
  have hb3 : (i : Int) ≤ (n : Int) := by omega
  subst hW1
  have hE1 : ((w.alloc (.cells R 47)).drew).heap = (w.drew.alloc (.cells R 47)).heap := rfl
  have hF1 : (((w.alloc (.cells R 47)).drew.setRow w.heap.size c1).drew).heap = ((w.drew.alloc (.cells R 47)).setRow w.heap.size c1).heap := rfl
  have HC1 := HidI.mk hc1
  have HC2 := HidI.mk hc2
  have HR := HidI.mk hR
  clear hgD hgV h1c h1v hc1 hc2 hR hkk hik hold hG hRs hs1
  go_enter Try.func38, Try.ntmps38
  go_wp2_with (first
    | (at_builtin; refine Lib.wpList_append_run _ rfl _ _ _ _ rfl _ _ rfl rfl _ _ (hrz _) ?_)
    | (at_builtin; refine wpList_copy_runI _ rfl _ _ 36 36 rfl _ _ rfl rfl (hcpA _ hE1 _ _) ?_))
  go_region_law_o (refine step_copy_runI rfl _ _ 36 36 rfl (.slice (some ⟨w.heap.size, (i + 1) * 3, none⟩) (n - i) (G - (i + 1))) (.slice (some ⟨g, i * 3, none⟩) (n - i) (c - i)) (by simp [Act.eval, Act.put]) (by simp [Act.eval, Act.put]) (hcpB _ hF1 3 (G - (i + 1)) (c - i)) ?_)
  go_wp2
  go_ret
  exact ⟨G, hGn, rfl, R, c1, c2, HR.out, HC1.out, HC2.out, rfl⟩
end Go.Proofs.Ytidogmmfakcfgaa
