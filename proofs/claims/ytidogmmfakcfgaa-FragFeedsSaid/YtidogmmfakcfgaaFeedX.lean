/-
  Parts in their order: slices.SortFunc, out of the kit's shelf.
-/
import Derived.Test.YtidogmmfakcfgaaInsY
import Derived.Test.YtidogmmfakcfgaaShelf
namespace Go.Proofs.Ytidogmmfakcfgaa
open Go.RowKit Go.Sort
set_option linter.unusedVariables false
set_option linter.unusedSimpArgs false
abbrev SmPt : Type := { p : Pt // 0 ≤ p.at' ∧ p.at' ≤ 65515 }
instance : Inhabited SmPt := ⟨⟨⟨0, [], false⟩, by decide⟩⟩
def SmPt.vals (p : SmPt) : List Value := p.1.vals
def SmPt.cmp (x y : SmPt) : Int := x.1.at' - y.1.at'
def smL (l : List Pt) (h : ∀ p ∈ l, 0 ≤ p.at' ∧ p.at' ≤ 65515) : List SmPt := l.pmap (fun p hp => ⟨p, hp⟩) h
theorem smL_map (l : List Pt) (h : ∀ p ∈ l, 0 ≤ p.at' ∧ p.at' ≤ 65515) : (smL l h).map (·.1) = l := by
  unfold smL
  rw [List.map_pmap]
  simp
theorem cmp_lt (x y : SmPt) : ltOf SmPt.cmp x y = decide (x.1.at' < y.1.at') := by
  unfold ltOf SmPt.cmp
  by_cases h : x.1.at' < y.1.at'
  · rw [decide_eq_true h, decide_eq_true (by omega)]
  · rw [decide_eq_false h, decide_eq_false (by omega)]
theorem cmp_swo : SWO (ltOf SmPt.cmp) where
  irrefl x := by rw [cmp_lt]; simp
  trans x y z h1 h2 := by rw [cmp_lt] at *; simp at *; omega
  ntrans x y z h1 h2 := by rw [cmp_lt] at *; simp at *; omega
set_option maxHeartbeats 1000000 in
theorem cmp_calls (x y : SmPt) (W : World) : Calls Try.prog 25 #[.agg x.1.vals.toArray, .agg y.1.vals.toArray] W fun e w' => e = .returned (.int .i64 (x.cmp y)) ∧ ∃ q os', w' = grow (W.drewN q) os' := by
  obtain ⟨⟨xa, xd, xl⟩, hx⟩ := x
  obtain ⟨⟨ya, yd, yl⟩, hy⟩ := y
  dsimp only at hx hy
  have hw : IntKind.i64.wrap (xa - ya) = xa - ya := IntWalk.i64_in _ (by omega)
  unfold SmPt.cmp Pt.vals
  dsimp only
  have mixed := mixed_ok
  go_enter Try.func25, Try.ntmps25
  go_wp2
  go_ret
  exact ⟨rfl, 0, _, by rw [alloc_eq_grow, alloc_eq_grow, grow_grow]; rfl⟩
theorem putRow_setF (w : World) (g : Nat) (F : Array Value) {cs : Array Value} {t : TypeId} {fr : Nat × Nat} (h : w.heap[g]? = some (.cells cs t fr)) : putRow id w g 0 F = w.setRow g (putCells id 0 F cs) := by
  unfold putRow mapBlock World.setRow
  congr 1
  apply Array.ext_getElem?
  intro k
  simp only [Array.getElem?_modify]
  by_cases hk : g = k
  · subst hk
    simp [h, onCells]
  · simp [hk]
theorem ahead_ext' (w : World) (q : Nat) : Ext (fun _ => False) w (Sort.ahead w q) := ⟨rfl, rfl, rfl, Nat.le_refl _, fun _ _ _ => rfl, fun g cs t fr h => ⟨cs, fr, h, rfl⟩, .of_eq fun _ _ _ _ => rfl⟩
theorem grow_ext' (w : World) (os : Array Obj) : Ext (fun _ => False) w (grow w os) :=
  ⟨rfl, rfl, rfl, by simp, fun g hg _ => heap_grow_old w os hg, fun g cs t fr h => ⟨cs, fr, (heap_grow_old w os (lt_of_heap h)).trans h, rfl⟩, .of_eq fun g es ck h => heap_grow_old w os (by
    rcases Nat.lt_or_ge g w.heap.size with q | q
    · exact q
    · rw [Array.getElem?_eq_none q] at h; cases h)⟩
theorem valsP_nth : ∀ (l : List Pt) (t : Nat), t < l.length * 3 → ∃ p, l[t / 3]? = some p ∧ (valsP l)[t]? = p.vals[t % 3]?
  | [], t, h => by simp at h
  | p :: r, t, h => by
    by_cases h3 : t < 3
    · refine ⟨p, by rw [show t / 3 = 0 by omega]; rfl, ?_⟩
      rw [valsP, List.getElem?_append_left (by show t < 3; exact h3), Nat.mod_eq_of_lt h3]
    · obtain ⟨q, h1, h2⟩ := valsP_nth r (t - 3) (by simp only [List.length_cons] at h; omega)
      refine ⟨q, ?_, ?_⟩
      · rw [show t / 3 = (t - 3) / 3 + 1 by omega]
        exact h1
      · rw [valsP, List.getElem?_append_right (by show 3 ≤ t; omega), show t % 3 = (t - 3) % 3 by omega]
        exact h2
theorem flat_vals (d : List SmPt) : (flatK SmPt.vals 3 d.toArray).toList = valsP (d.map (·.1)) := by
  apply List.ext_getElem?
  intro t
  by_cases h : t < d.length * 3
  · obtain ⟨p, h1, h2⟩ := valsP_nth (d.map (·.1)) t (by rw [List.length_map]; exact h)
    rw [h2]
    have hd : t / 3 < d.length := by omega
    rw [List.getElem?_map, List.getElem?_eq_getElem hd] at h1
    have h1 := Option.some.inj h1
    have hg := get_flatK SmPt.vals 3 d.toArray t (by simpa using h)
    have hs : t < (flatK SmPt.vals 3 d.toArray).size := by simpa using h
    rw [getElem!_pos (flatK SmPt.vals 3 d.toArray) t hs] at hg
    rw [Array.getElem?_toList, Array.getElem?_eq_getElem hs, hg, getElem!_pos d.toArray (t / 3) (by simpa using hd)]
    have e : (d.toArray[t / 3]'(by simpa using hd)).vals = p.vals := by
      rw [← h1]
      simp [SmPt.vals]
    rw [e]
    have h4 : t % 3 < p.vals.length := by show t % 3 < 3; omega
    rw [getElem!_pos p.vals (t % 3) h4, List.getElem?_eq_getElem h4]
  · rw [List.getElem?_eq_none (by simp; omega), List.getElem?_eq_none (by rw [valsP_len, List.length_map]; omega)]
set_option maxHeartbeats 1000000 in
theorem sort_spec0 (n : Nat) (ps : List Pt) (v : Pt) (hps : chR ps 0 = true) (hv : ptOk v = true) (hs : scanR v ps = none) (hl : ps.length ≤ 64) :
    HSpec Try.prog 24 [.sl 0 n 3 0 (ps.length + 1) false, .fn (.func 25) [] []] [some ⟨n, 3, (ps ++ [v]).map Pt.enc⟩] (fun d H => d = .tup [] ∧ H = [some ⟨n, 3, (insP v ps).map Pt.enc⟩]) := by
  refine ⟨by kernel_rfl, fun K w vs g0 hI hlt hargs => ?_⟩
  obtain ⟨a, b, rfl, ha, hb⟩ := args2 hargs
  have hin : ∀ p ∈ ps ++ [v], 0 ≤ p.at' ∧ p.at' ≤ 65515 := fun p hp => by
    rcases List.mem_append.1 hp with hp | hp
    · have := ptOk_fact (chR_ge hps p hp).2
      exact ⟨this.2.1, this.2.2.2.1⟩
    · obtain rfl := List.mem_singleton.1 hp
      have := ptOk_fact hv
      exact ⟨this.2.1, this.2.2.2.1⟩
  have hch := chR_ins v hv ps 0 hps hs (ptOk_fact hv).2.1
  obtain ⟨hr, cs, t, fr, R, r1, r2, r3⟩ := rowP_real (k := 0) (ps := ps ++ [v]) hI rfl (by simp)
  obtain ⟨cap, rfl, hcap, cs', t', fr', q1, q2, q3⟩ := sl3_inv ha (by omega)
  rw [r2] at q1
  obtain ⟨rfl, rfl, rfl⟩ : cs = cs' ∧ t = t' ∧ fr = fr' := by
    have := Option.some.inj q1
    exact ⟨by injection this, by injection this, by injection this⟩
  have hbv : b = .func (.func 25) #[] #[] := by
    cases hb with
    | fn h1 h2 h3 h4 =>
      rename_i fi ca
      have e1 : fi = #[] := Array.eq_empty_of_size_eq_zero h1
      have e2 : ca = #[] := Array.eq_empty_of_size_eq_zero h2
      rw [e1, e2]
  subst hbv
  obtain ⟨d, hd⟩ : ∃ d, d = smL (ps ++ [v]) hin := ⟨_, rfl⟩
  have hdm : d.map (·.1) = ps ++ [v] := by rw [hd]; exact smL_map _ _
  have hdl : d.length = ps.length + 1 := by
    have := congrArg List.length hdm
    simpa using this
  have hflat := flat_vals d
  rw [hdm] at hflat
  have hH : HoldsK SmPt.vals 3 w ((K.cut w).μ n) 0 d.toArray := fun j hj => by
    have hj' : j < (ps.length + 1) * 3 := by
      have := hj
      simp only [size_flatK, List.size_toArray, hdl] at this
      exact this
    refine ⟨?_, ?_⟩
    · unfold World.cell?
      dsimp only
      rw [r2]
      dsimp only
      rw [Nat.zero_add, getElem!_pos _ j hj, ← Array.getElem?_toList, r3, ← hflat, List.getElem?_append_left (by rw [Array.length_toList]; exact hj), Array.getElem?_toList, Array.getElem?_eq_getElem hj]
      rfl
    · exact frozen_no r2 (r1.plain (by decide))
  have hcmp : CmpLays Try.prog 25 #[] SmPt.vals 3 SmPt.cmp ((K.cut w).μ n) 0 d.toArray.size w := fun m os dk _ x y => cmp_calls x y _
  have eg : ∀ args w, (callFunc 25 args).run Try.prog w = .ok (.enter 25 args) w := enters_of Try.func25 (by kernel_rfl) rfl
  have hcon := AnyQ.slices_SortFunc Try.sortPt 3 Try.isAgg47 Try.sizeOf47 SmPt.vals (fun _ => rfl) (fun x y hy => valsP_one [x.1] y (by rw [valsP]; exact List.mem_append_left _ hy)) SmPt.cmp cmp_swo 25 #[] ((K.cut w).μ n) 0 cap d.toArray w eg hcmp hH (hI.lt n hr) (by simp; omega)
  have hsz : d.toArray.size = ps.length + 1 := by simp [hdl]
  rw [hsz] at hcon
  refine hcon.mono ?_
  rintro e w' ⟨rfl, d', q, os, hp, hso, rfl⟩
  obtain ⟨hp1, -, hp3⟩ := hp
  rw [hsz] at hp1
  have hsame : d'.toList.map (·.1) = insP v ps := by
    refine sorted_ins v ps _ 0 hch ?_ ?_
    · have e1 : d'.extract 0 (ps.length + 1) = d' := by rw [← hp1]; exact Array.extract_size
      have e2 : d.toArray.extract 0 (ps.length + 1) = d.toArray := by rw [← hsz]; exact Array.extract_size
      rw [e1, e2] at hp3
      rw [← hdm]
      exact hp3.map _
    · rw [List.pairwise_map, List.pairwise_iff_getElem]
      intro i j hi hj hij
      have hi' : i < d'.size := by simpa using hi
      have hj' : j < d'.size := by simpa using hj
      have h := hso i j (Nat.zero_le _) hij (by omega)
      rw [cmp_lt, getElem!_pos d' j hj', getElem!_pos d' i hi'] at h
      simpa using h
  have hF := flat_vals d'.toList
  rw [hsame, Array.toArray_toList] at hF
  have hNl : (insP v ps).length = ps.length + 1 := insP_len v ps
  have hFs : (flatK SmPt.vals 3 d').size = (ps.length + 1) * 3 := by rw [size_flatK, hp1]
  have hcs : (ps.length + 1) * 3 ≤ cs.size := by omega
  have hI1 := inv_ext hI (ahead_ext' w q)
  have r2' : (Sort.ahead w q).heap[(K.cut w).μ n]? = some (.cells cs t fr) := r2
  have hwr := inv_write hI1 (k := 0) rfl hr r1 r2' (cs' := putCells id 0 (flatK SmPt.vals 3 d') cs) (by simp [putCells]) (xs := (insP v ps).map Pt.enc) (by rw [List.length_map, hNl]; exact hcs) (fun x hx => by
    obtain ⟨y, -, rfl⟩ := List.mem_map.1 hx
    rfl) (fun i x j e hx he => by
    obtain ⟨c, c1, c2⟩ := valsP_get (insP v ps) [] i x j e hx he
    refine ⟨c, ?_, c2 ▸ .v c⟩
    rw [List.append_nil, ← hF, Array.getElem?_toList] at c1
    have hlt := (Array.getElem?_eq_some_iff.1 c1).1
    show (putCells id 0 (flatK SmPt.vals 3 d') cs)[i * 3 + j]? = some c
    unfold putCells
    rw [Array.getElem?_mapIdx, Array.getElem?_eq_getElem (show i * 3 + j < cs.size by omega), Option.map_some, if_pos ⟨Nat.zero_le _, by omega⟩, Nat.sub_zero, getElem!_pos (flatK SmPt.vals 3 d') (i * 3 + j) hlt]
    rw [Array.getElem?_eq_getElem hlt] at c1
    exact c1)
  have hw' : sortWorldK SmPt.vals 3 w ((K.cut w).μ n) 0 q d' os = grow ((Sort.ahead w q).setRow ((K.cut w).μ n) (putCells id 0 (flatK SmPt.vals 3 d') cs)) os := by
    unfold sortWorldK putRowK
    rw [putRow_setF _ _ _ r2']
  rw [hw']
  have e0 : (fun j => if j = 0 then some (AObj.mk n 3 ((insP v ps).map Pt.enc)) else lget [some (AObj.mk n 3 ((ps ++ [v]).map Pt.enc))] j) = lget [some (AObj.mk n 3 ((insP v ps).map Pt.enc))] := by
    funext j
    cases j with
    | zero => rfl
    | succ j => rfl
  have hfin := inv_ext hwr.2 (grow_ext' _ os)
  dsimp only at hfin
  rw [e0] at hfin
  exact ⟨_, .tup [], [some ⟨n, 3, (insP v ps).map Pt.enc⟩], rfl, ⟨rfl, rfl⟩, hfin, .tup rfl (fun i d c h => by simp at h)⟩
end Go.Proofs.Ytidogmmfakcfgaa
