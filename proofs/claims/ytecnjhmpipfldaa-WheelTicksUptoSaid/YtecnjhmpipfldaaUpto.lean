/-
  For a statement '..UptoSaid': the arguments, opened, where their bulk is at most 1048576: every slice is then short ('wide': its elements may be thought of as 100000000 bytes each).
-/
import Derived.Test.YtecnjhmpipfldaaLawFw
import Derived.Test.YtecnjhmpipfldaaRows
import Derived.JoinedCond
namespace Go.Proofs.Ytecnjhmpipfldaa
open Go.ChangeShapes Go.WideShapes Go.ChangeAt Go.RowKit
set_option linter.unusedVariables false
set_option linter.unusedSimpArgs false

/-- The shape, each slice's elements taken as 100000000 bytes. -/
def Sh.wide : Sh → Sh
  | .cons s r => .cons s.wide r.wide
  | .slice _ n e => .slice 100000000 n e.wide
  | s => s
theorem wide_size : ∀ s : Sh, s.wide.size = s.size
  | .int _ => rfl
  | .bool => rfl
  | .str => rfl
  | .nil => rfl
  | .cons s r => by simp [Sh.wide, Sh.size, wide_size s, wide_size r]
  | .slice _ _ _ => rfl
theorem wide_val (s : Sh) (cs : List Value) : s.wide.val cs = s.val cs := by cases s <;> rfl

theorem bulk_pos {H : Type} (d : DataW H) : 1 ≤ Rows.uptoBulk d := by
  cases d with
  | lit l => cases l <;> simp [Rows.uptoBulk]
  | nil => simp [Rows.uptoBulk]
  | ptr d => simp [Rows.uptoBulk]
  | slice elems spare => simp [Rows.uptoBulk]
  | agg parts => simp [Rows.uptoBulk]
  | iface t d => simp [Rows.uptoBulk]
  | map entries => simp [Rows.uptoBulk]
  | held h => simp [Rows.uptoBulk]
theorem bulk_mem {H : Type} : ∀ {l : List (DataW H)} {d : DataW H}, d ∈ l → Rows.uptoBulk d ≤ Rows.uptoBulkAll l
  | [], _, h => by cases h
  | x :: r, d, h => by
    simp only [Rows.uptoBulkAll]
    rcases List.mem_cons.1 h with e | e
    · subst e; omega
    · have := bulk_mem e; omega
theorem bulk_length {H : Type} : ∀ l : List (DataW H), l.length ≤ Rows.uptoBulkAll l
  | [] => by simp
  | x :: r => by
    have := bulk_pos x
    have := bulk_length r
    simp only [Rows.uptoBulkAll, List.length_cons]
    omega

section
variable {H : Type} {enc : TypeId × Value → H} {P : Program} {w : World} {B : Nat}

theorem members_bulk {base : Nat} {spare : Nat → Bool} {held : Bool} {t : TypeId} {ts : List (Nat × TypeId)} (hm : members P t = some ts) {fuel : Nat} {cs : List Value} {d : DataW H} {ps : List MemPlace}
    (h : DataW.trod enc P w base spare held fuel t cs = some (d, ps)) {M : Nat} (hwt : Rows.uptoBulk d ≤ M) (hb : ∀ p ∈ ps, p.block < B) :
    ∃ (xs : List (DataW H × List MemPlace)) (n : Nat), cs.length = P.cellsOf t ∧ xs.length = ts.length ∧
      (∀ (i : Nat) (m : Nat × TypeId), ts[i]? = some m → DataW.trod enc P w base spare held n m.2 ((cs.drop m.1).take (P.cellsOf m.2)) = xs[i]?) ∧
      (∀ x ∈ xs, Rows.uptoBulk x.1 ≤ M) ∧ ∀ x ∈ xs, ∀ p ∈ x.2, p.block < B := by
  unfold members at hm
  split at hm
  · rename_i fs hu
    injection hm with hm
    subst hm
    obtain ⟨xs, n, _, hx, hl, hxl, hf⟩ := DataW.trod_struct hu h
    simp only [Prod.mk.injEq] at hx
    obtain ⟨rfl, rfl⟩ := hx
    refine ⟨xs, n, hl, by simpa using hxl, fun i m hi => ?_, fun x hx => ?_, fun x hx p hp => hb p (List.mem_flatMap.2 ⟨x, hx, hp⟩)⟩
    · rw [List.getElem?_map] at hi
      cases hfi : fs[i]? with
      | none => rw [show fs.toList[i]? = fs[i]? by simp, hfi] at hi; simp at hi
      | some f => rw [show fs.toList[i]? = fs[i]? by simp, hfi] at hi; simp at hi; subst hi; exact hf i f hfi
    · simp only [Rows.uptoBulk] at hwt
      have := bulk_mem (List.mem_map.2 ⟨x, hx, rfl⟩ : x.1 ∈ xs.map (·.1))
      omega
  · rename_i k e hu
    injection hm with hm
    subst hm
    obtain ⟨xs, n, _, hx, hl, hxl, hf⟩ := DataW.trod_array hu h
    simp only [Prod.mk.injEq] at hx
    obtain ⟨rfl, rfl⟩ := hx
    refine ⟨xs, n, hl, by simpa using hxl, fun i m hi => ?_, fun x hx => ?_, fun x hx p hp => hb p (List.mem_flatMap.2 ⟨x, hx, hp⟩)⟩
    · by_cases hik : i < k
      · simp [List.getElem?_map, List.getElem?_range hik] at hi; subst hi; exact hf i hik
      · simp [List.getElem?_map, List.getElem?_eq_none (show (List.range k).length ≤ i by simpa using hik)] at hi
    · simp only [Rows.uptoBulk] at hwt
      have := bulk_mem (List.mem_map.2 ⟨x, hx, rfl⟩ : x.1 ∈ xs.map (·.1))
      omega
  · cases hm

theorem opn_bulk (sh : Sh) : (∀ {t : TypeId} {fuel : Nat} {cs : List Value} {d : DataW H} {ps : List MemPlace}, sh.fit P none t = true → DataW.trod enc P w 0 (fun _ => true) true fuel t cs = some (d, ps) →
      Rows.uptoBulk d ≤ 1048576 → (∀ p ∈ ps, p.block < B) → opn w B sh.wide cs ∧ cs.length = sh.size) ∧
    (∀ {o : Nat} {ts : List (Nat × TypeId)} {t : TypeId} {fuel : Nat} {cs : List Value} {xs : List (DataW H × List MemPlace)}, sh.fit P (some (o, ts)) t = true → xs.length = ts.length →
      (∀ (i : Nat) (m : Nat × TypeId), ts[i]? = some m → DataW.trod enc P w 0 (fun _ => true) true fuel m.2 ((cs.drop m.1).take (P.cellsOf m.2)) = xs[i]?) →
      (∀ x ∈ xs, Rows.uptoBulk x.1 ≤ 1048576) → (∀ x ∈ xs, ∀ p ∈ x.2, p.block < B) → cs.length = o + sh.size → opn w B sh.wide (cs.drop o)) := by
  induction sh with
  | int k =>
    refine ⟨fun {t fuel cs d ps} hf h hw hb => ?_, fun {o ts t fuel cs xs} hf => by simp [Sh.fit] at hf⟩
    simp only [Sh.fit] at hf
    split at hf
    · rename_i k' hu
      obtain rfl := of_decide_eq_true hf
      obtain ⟨n, rfl, _, hwf⟩ := DataW.trod_int hu h
      exact ⟨⟨n, rfl, hwf⟩, rfl⟩
    · cases hf
  | bool =>
    refine ⟨fun {t fuel cs d ps} hf h hw hb => ?_, fun {o ts t fuel cs xs} hf => by simp [Sh.fit] at hf⟩
    simp only [Sh.fit] at hf
    split at hf
    · rename_i hu
      obtain ⟨b, rfl, _⟩ := DataW.trod_bool hu h
      exact ⟨⟨b, rfl⟩, rfl⟩
    · cases hf
  | str =>
    refine ⟨fun {t fuel cs d ps} hf h hw hb => ?_, fun {o ts t fuel cs xs} hf => by simp [Sh.fit] at hf⟩
    simp only [Sh.fit] at hf
    split at hf
    · rename_i hu
      obtain ⟨s, rfl, hx, hwf⟩ := DataW.trod_string hu h
      simp only [Prod.mk.injEq] at hx
      obtain ⟨rfl, rfl⟩ := hx
      refine ⟨⟨s, rfl, ?_⟩, rfl⟩
      simp only [Rows.uptoBulk] at hw
      simp at hw
      omega
    · cases hf
  | nil =>
    refine ⟨fun {t fuel cs d ps} hf => by simp [Sh.fit] at hf, fun {o ts t fuel cs xs} hf hxl h1 h2 h3 hl => ?_⟩
    show cs.drop o = []
    exact List.drop_eq_nil_of_le (by rw [hl]; simp [Sh.size])
  | cons s r ihs ihr =>
    have key : ∀ {o o' : Nat} {t' : TypeId} {ts : List (Nat × TypeId)} {t : TypeId} {fuel : Nat} {cs : List Value} {xs : List (DataW H × List MemPlace)}, o' = o → P.cellsOf t' = s.size → s.fit P none t' = true → r.fit P (some (o + s.size, ts)) t = true →
        xs.length = ((o', t') :: ts).length → (∀ (i : Nat) (m : Nat × TypeId), ((o', t') :: ts)[i]? = some m → DataW.trod enc P w 0 (fun _ => true) true fuel m.2 ((cs.drop m.1).take (P.cellsOf m.2)) = xs[i]?) →
        (∀ x ∈ xs, Rows.uptoBulk x.1 ≤ 1048576) → (∀ x ∈ xs, ∀ p ∈ x.2, p.block < B) → cs.length = o + (s.size + r.size) → opn w B (.cons s.wide r.wide) (cs.drop o) := by
      intro o o' t' ts t fuel cs xs ho hc hs hr hxl h1 h2 h3 hl
      subst ho
      match xs, hxl with
      | x0 :: xr, hxl =>
        have a1 := h1 0 (o', t') rfl
        simp only [hc] at a1
        have a2 := h2 x0 (by simp)
        obtain ⟨p1, p2⟩ := ihs.1 hs a1 a2 (fun p hp => h3 x0 (by simp) p hp)
        refine ⟨(cs.drop o').take s.size, cs.drop (o' + s.size), ?_, by rw [wide_size]; exact p2, p1, ?_⟩
        · rw [← List.drop_drop]; exact (List.take_append_drop _ _).symm
        · exact ihr.2 hr (by simpa using hxl) (fun i m hi => h1 (i + 1) m (by simpa using hi)) (fun x hx => h2 x (by simp [hx])) (fun x hx => h3 x (by simp [hx])) (by omega)
    refine ⟨fun {t fuel cs d ps} hf h hw hb => ?_, fun {o ts t fuel cs xs} hf hxl h1 h2 h3 hl => ?_⟩
    · simp only [Sh.fit] at hf
      split at hf
      · rename_i o t' ts hm
        simp only [Bool.and_eq_true, decide_eq_true_eq] at hf
        obtain ⟨⟨⟨⟨e1, e2⟩, e3⟩, e4⟩, e5⟩ := hf
        obtain ⟨xs, n, hl, hxl, h1, h2, h3⟩ := members_bulk hm h hw hb
        have hk := key e1 e2 e3 (by simpa using e4) hxl h1 h2 h3 (by rw [hl, e5]; omega)
        exact ⟨by show opn w B (.cons s.wide r.wide) cs; simpa using hk, by rw [hl, e5]; rfl⟩
      · cases hf
    · match ts, hf, hxl, h1, h2 with
      | [], hf, _, _, _ => simp [Sh.fit] at hf
      | (o', t') :: ts, hf, hxl, h1, h2 =>
        simp only [Sh.fit, Bool.and_eq_true, decide_eq_true_eq] at hf
        obtain ⟨⟨⟨e1, e2⟩, e3⟩, e4⟩ := hf
        exact key e1 e2 e3 e4 hxl h1 h2 h3 hl
  | slice b n e ihe =>
    refine ⟨fun {t fuel cs d ps} hf h hw hb => ?_, fun {o ts t fuel cs xs} hf => by simp [Sh.fit] at hf⟩
    simp only [Sh.fit] at hf
    split at hf
    · rename_i te hu
      simp only [Bool.and_eq_true, decide_eq_true_eq] at hf
      obtain ⟨⟨⟨e1, e2⟩, e3⟩, e4⟩ := hf
      rcases Go.Deep.open_slice hu h with ⟨rfl, _⟩ | ⟨a, len, cap, m, k, D, Pl, rfl, _, hlc, hcm, hm, hx, hi⟩
      · exact ⟨⟨none, 0, 0, rfl, Nat.le_refl _, by rw [Nat.zero_mul]; exact Nat.zero_le _, Nat.zero_le _, fun _ => rfl, fun ad h => by cases h⟩, rfl⟩
      · have hm' : m = cap := by simpa using hm
        subst hm'
        simp only [Prod.mk.injEq] at hx
        obtain ⟨rfl, rfl⟩ := hx
        simp only [Rows.uptoBulk] at hw
        have w1 := bulk_length ((List.range len).map D)
        have w3 := bulk_length ((List.range (m - len)).map fun j => D (len + j))
        simp only [List.length_map, List.length_range] at w1 w3
        refine ⟨⟨some a, len, m, rfl, hlc, by omega, hcm, (fun h => by cases h), fun ad had => ?_⟩, rfl⟩
        · obtain rfl := Option.some.inj had
          refine ⟨fun h0 => ?_, fun i hil => ?_⟩
          · exact hb (.cell a.block (a.off + 0)) (List.mem_append.2 (.inl (List.mem_map.2 ⟨0, List.mem_range.2 (by rw [e1]; exact Nat.mul_pos (by omega) e3), rfl⟩)))
          · obtain ⟨es, hc, ht⟩ := hi i (by omega)
            obtain ⟨_, hcl, hat⟩ := World.cells?_some hc
            rw [e1] at hcl hat
            refine ⟨es, hcl, fun j hj => ?_, ?_⟩
            · rw [← Go.Deep.add_add]
              exact hat j hj
            · have := bulk_mem (List.mem_map.2 ⟨i, List.mem_range.2 hil, rfl⟩ : D i ∈ (List.range len).map D)
              exact (ihe.1 e4 ht (by omega) (fun p hp => hb p (List.mem_append.2 (.inr (List.mem_flatMap.2 ⟨i, List.mem_range.2 (by omega), hp⟩))))).1
    · cases hf
end

theorem opnAll_bulk {H : Type} {enc : TypeId × Value → H} {P : Program} {w : World} {B : Nat} : ∀ {shs : List Sh} {ts : List TypeId} {vs : List Value} {ds : List (DataW H)} {ps : List MemPlace} {r : Reach} {b : Nat},
    shs.length = ts.length → (∀ (i : Nat) (s : Sh) (t : TypeId), shs[i]? = some s → ts[i]? = some t → s.fit P none t = true) → (∀ (j : Nat) t v, ts[j]? = some t → vs[j]? = some v → Value.okWide P w r b t v) → DataW.TrodAll enc P w 0 (fun _ => true) true ts vs ds ps →
      Rows.uptoBulkAll ds ≤ 1048576 → (∀ p ∈ ps, p.block < B) → opnAll w B (shs.map Sh.wide) vs
  | [], [], _, _, _, _, _, _, _, _, h, _, _ => by
    obtain ⟨rfl, _, _⟩ := trodAll_nil h
    rfl
  | [], _ :: _, _, _, _, _, _, hl, _, _, _, _, _ => by simp at hl
  | _ :: _, [], _, _, _, _, _, hl, _, _, _, _, _ => by simp at hl
  | s :: ss, t :: ts, _, _, _, _, _, hl, hf, hok, h, hw, hb => by
    obtain ⟨v, vs1, d, ds1, a, b, rfl, rfl, rfl, h1, h2⟩ := trodAll_cons h
    obtain ⟨fuel, h1⟩ := h1
    simp only [Rows.uptoBulkAll] at hw
    have hv := val_of s (hf 0 s t rfl rfl) (hok 0 t v rfl rfl)
    refine ⟨v.cells.toList, vs1, by rw [wide_val, ← hv], ((opn_bulk s).1 (hf 0 s t rfl rfl) h1 (by omega) (fun p hp => hb p (List.mem_append.2 (.inl hp)))).1, ?_⟩
    exact opnAll_bulk (by simpa using hl) (fun i s' t' hi hi' => hf (i + 1) s' t' (by simpa using hi) (by simpa using hi')) (fun j t' v' hj hj' => hok (j + 1) t' v' (by simpa using hj) (by simpa using hj')) h2 (by omega) (fun p hp => hb p (List.mem_append.2 (.inr hp)))

theorem law_lifted_upto {C : Checked} {os : Os} {f : FuncId} {fn : Func} {s : ChangeSpec} {H : Type} {enc : TypeId × Value → H} {F : Stop.Interp} (own : ownKnob C.prog.godebug = none) (started : os.Started) (noInit : C.prog.inits.idxOf? f = none) (hfn : C.prog.funcs[f]? = some fn)
    (witness : ∃ (w : World) (tape : Tape) (i : Input), w.os = os ∧ (w.forCall tape i).Shaped C.prog ∧ i.vars = [] ∧ Input.okWide C.prog (w.forCall tape i) .any w.heap.size f i ∧
      (Rows.OpenSpec.upto s).pre6 enc C.prog fn [] false (w.forCall tape i).memory i.args ∧ ({} : Assume).holds C.prog (lone (Frame.enter C.prog f i.args .normal) [] (w.forCall tape i)))
    (shs : List Sh) (hsz : shs.length = fn.params.toList.length) (hfit : (List.range shs.length).all (fun i => match shs[i]?, fn.params.toList[i]? with | some s, some t => s.fit C.prog none t | _, _ => false) = true)
    (hvars : s.vars = []) (hspec : ∀ ds : List (DataW H), ds.length = shs.length → (s.fn H (ds ++ [])).results = [.lit (.bool true)] ∧ (s.fn H (ds ++ [])).args = ds ∧ (s.fn H (ds ++ [])).vars = []) (tb : TypeId) (hres : fn.resultTypes = #[tb]) (htb : C.prog.underlying tb = some .bool)
    (hl : laidOutB C.prog = true) (hrd : fn.params.toList.all (fun t => C.prog.readableRec t && decide (t < C.prog.types.size)) = true)
    (core : ∀ (W : World) (args : Array Value), opnAll W W.heap.size (shs.map Sh.wide) args.toList → Calls C.prog f args W fun e W' => e = .returned (.bool true) ∧ Below W.heap.size W W') :
    ReturnsInHanded {} C os f .any ((Rows.OpenSpec.upto s).pre6 enc C.prog fn [] false) (((Rows.OpenSpec.upto s).at F).post enc C.prog fn false true false false) := by
  refine returnsInHanded_of_cond (k := Rows.uptoSmall) rfl own started noInit hfn witness ?_
  intro W base args ds gs before hval hW hcnd hk _
  have hlt : ∀ p ∈ before, p.block < W.heap.size := fun p hp => hW.lt p hp
  have hW' := hW
  obtain ⟨p, q, hA, hV, rfl, hfz, hnd⟩ := hW
  have hvars' : (Rows.OpenSpec.upto s).vars = [] := hvars
  rw [hvars'] at hV
  obtain ⟨rfl, rfl⟩ := trodVars_none hV
  have hlen := trodAll_length hA
  obtain ⟨s1, s2, s3⟩ := hspec ds (by rw [hlen, hsz])
  have hwt' : Rows.uptoBulkAll ds ≤ 1048576 := by
    have h := of_decide_eq_true hk
    rw [List.append_nil] at h
    exact h
  have hop := opnAll_bulk (B := W.heap.size) (shs := shs) hsz (fun i s' t' hi ht => by
    have h := List.all_eq_true.1 hfit i (List.mem_range.2 (List.getElem?_eq_some_iff.1 hi).1)
    simp only [hi, ht] at h
    exact h) (fun j t v hj hv => hval j t v (by simpa using hj) (by simpa using hv)) hA hwt' (fun x hx => hlt x (List.mem_append.2 (.inl hx)))
  refine (core W args hop).mono fun e W' ⟨he, hb⟩ => ?_
  subst he
  refine ⟨_, rfl, ds, [], _, [], p, [], hW', ?_, ?_, ?_, hb.frame _, fun h => by cases h⟩
  · rw [hres]
    show DataW.TrodAll _ _ _ _ _ _ _ _ (s.fn H (ds ++ [])).results _
    rw [s1]
    exact trodAll_cons_mk (shut_bool htb _) trodAll_mk0
  · show DataW.TrodAll _ _ _ _ _ _ _ _ (s.fn H (ds ++ [])).args _
    rw [s2]
    exact stays_all hl hb hrd hA (fun x hx => hlt x (List.mem_append.2 (.inl hx)))
  · have e1 : (((Rows.OpenSpec.upto s).at F).fn H (ds ++ [])).vars = [] := s3
    have e2 : ((Rows.OpenSpec.upto s).at F).vars = [] := hvars
    rw [e1, e2]
    rfl
end Go.Proofs.Ytecnjhmpipfldaa
