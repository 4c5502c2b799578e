/-
  The frame of a law whose row lists package-level variables.
-/
import Derived.Test.YtegnfpmbmbbaiaaDoorLawFw
import Derived.Test.YtegnfpmbmbbaiaaDoorRows
import Derived.Test.YtegnfpmbmbbaiaaDoorTie
import Derived.Test.YtegnfpmbmbbaiaaDoorCards
import Derived.SevenTiedAt
import Derived.LaidLaws
import Derived.LaidHandle
import Derived.LaidMore
import Derived.MakeChecks
import Derived.OpenShut
import Derived.Stop.Joined
namespace Go.Proofs.YtegnfpmbmbbaiaaDoor
open Go.ChangeShapes Go.WideShapes Go.ChangeAt Go.RowKit
set_option linter.unusedVariables false
set_option linter.unusedSimpArgs false
/-- A law out of its contract, where variables are laid. -/
theorem law_core_g {P : Program} {f : FuncId} {shs : List Sh} {W : World} {args : Array Value} (hok : shs.all Sh.okB = true) (h : opnAll W W.heap.size shs args.toList) (hgl : GlobW W) (hspec : ∀ x : TSs shs, wfSs shs x → Spec P f (valSs shs x) (.v (.bool true))) :
    Calls P f args W fun e W' => e = .returned (.bool true) ∧ Below W.heap.size W W' := law_core hok h hspec hgl
theorem law_lifted_laid {C : Checked} {os : Os} {f : FuncId} {fn : Func} {s : ChangeSpec} {H : Type} {enc : TypeId × Value → H} {laid : List (String × DataW Unit)} (own : ownKnob C.prog.godebug = none) (started : os.Started) (noInit : C.prog.inits.idxOf? f = none) (hfn : C.prog.funcs[f]? = some fn)
    (witness : ∃ (w : World) (tape : Tape) (i : Input), w.os = os ∧ (w.forCall tape i).Shaped C.prog ∧ i.vars = [] ∧ Input.okWide C.prog (w.forCall tape i) .any w.heap.size f i ∧
      ((s.pre enc C.prog fn [] false (w.forCall tape i).memory i.args ∧ laidMetH C.prog laid (w.forCall tape i).memory) ∧ sizedMet enc C.prog fn (OpenSpec.ofChange s) false (w.forCall tape i).memory i.args) ∧ ({} : Assume).holds C.prog (lone (Frame.enter C.prog f i.args .normal) [] (w.forCall tape i)))
    (shs : List Sh) (hsz : shs.length = fn.params.toList.length) (hfit : (List.range shs.length).all (fun i => match shs[i]?, fn.params.toList[i]? with | some s, some t => s.fit C.prog none t | _, _ => false) = true)
    (hvars : s.vars = []) (hspec : ∀ ds : List (DataW H), ds.length = shs.length → (s.fn H (ds ++ [])).results = [.lit (.bool true)] ∧ (s.fn H (ds ++ [])).args = ds ∧ (s.fn H (ds ++ [])).vars = []) (tb : TypeId) (hres : fn.resultTypes = #[tb]) (htb : C.prog.underlying tb = some .bool)
    (hl : laidOutB C.prog = true) (hrd : fn.params.toList.all (fun t => C.prog.readableRec t && decide (t < C.prog.types.size)) = true)
    (core : ∀ (W : World) (args : Array Value), laidMetH C.prog laid W → opnAll W W.heap.size shs args.toList → Calls C.prog f args W fun e W' => e = .returned (.bool true) ∧ Below W.heap.size W W') :
    ReturnsInHanded {} C os f .any (fun w args => (s.pre enc C.prog fn [] false w args ∧ laidMetH C.prog laid w) ∧ sizedMet enc C.prog fn (OpenSpec.ofChange s) false w args) (s.post enc C.prog fn false true false false) := by
  refine returnsInHanded_of_change_and (X := fun w _ => laidMetH C.prog laid w) (fun _ _ _ hh h => h.of_heap hh) own started noInit hfn witness ?_
  intro W base args ds gs before hval hW hcnd hwt hL _
  have hlt : ∀ p ∈ before, p.block < W.heap.size := fun p hp => hW.lt p hp
  have hW' := hW
  obtain ⟨p, q, hA, hV, rfl, hfz, hnd⟩ := hW
  rw [hvars] at hV
  obtain ⟨rfl, rfl⟩ := trodVars_none hV
  have hlen := trodAll_length hA
  obtain ⟨s1, s2, s3⟩ := hspec ds (by rw [hlen, hsz])
  have hwt' : (DataW.weightsEach C.prog fn.params.toList ds).all (· ≤ reachBytes) = true := by
    have hv : s.plain.varTypes C.prog = [] := by
      show s.vars.filterMap _ = []
      rw [hvars]; rfl
    rw [hv, List.append_nil, List.append_nil] at hwt
    exact hwt
  have hop := opnAll_of (B := W.heap.size) (shs := shs) hsz (fun i s' t' hi ht => by
    have h := List.all_eq_true.1 hfit i (List.mem_range.2 (List.getElem?_eq_some_iff.1 hi).1)
    simp only [hi, ht] at h
    exact h) (fun j t v hj hv => hval j t v (by simpa using hj) (by simpa using hv)) hA hwt' (fun x hx => hlt x (List.mem_append.2 (.inl hx)))
  refine (core W args hL hop).mono fun e W' ⟨he, hb⟩ => ?_
  subst he
  refine ⟨_, rfl, ds, [], _, [], p, [], hW', ?_, ?_, ?_, hb.frame _, fun h => by cases h⟩
  · rw [hres, s1]
    exact trodAll_cons_mk (shut_bool htb _) trodAll_mk0
  · rw [s2]
    exact stays_all hl hb hrd hA (fun x hx => hlt x (List.mem_append.2 (.inl hx)))
  · rw [s3, hvars]
    rfl
/-- The cells of a listed array of integers. -/
theorem ints_of_trod {H : Type} {enc : TypeId × Value → H} {P : Program} {w : World} {base : Nat} {sp : Nat → Bool} {held : Bool} {t e fuel : Nat} {k : IntKind} {cs : List Value} {p : List MemPlace} (ns : List Int) (ht : P.underlying t = some (.array ns.length e)) (he : P.underlying e = some (.int k)) (hc : P.cellsOf e = 1)
    (h : DataW.trod enc P w base sp held fuel t cs = some (.agg (ns.map fun n => .lit (.int k n)), p)) (i : Nat) (c : Value) (hi : (ns.map (Value.int k))[i]? = some c) : cs[i]? = some c := by
  obtain ⟨xs, m, _, hx, _, hn, hel⟩ := DataW.trod_array ht h
  rw [List.getElem?_map] at hi
  cases hq : ns[i]? with
  | none => rw [hq] at hi; cases hi
  | some n =>
    rw [hq] at hi
    obtain rfl := Option.some.inj hi
    have hlt : i < ns.length := (List.getElem?_eq_some_iff.1 hq).1
    have h1 := hel i hlt
    rw [hc, Nat.mul_one] at h1
    obtain ⟨x, hx'⟩ : ∃ x, xs[i]? = some x := ⟨_, List.getElem?_eq_getElem (by omega)⟩
    rw [hx'] at h1
    obtain ⟨n', q1, q2, _⟩ := DataW.trod_int he h1
    have h2 : (ns.map fun n => DataW.lit (H := H) (.int k n)) = xs.map (·.1) := by
      simp only [Prod.mk.injEq, DataW.agg.injEq] at hx
      exact hx.1
    have h3 := congrArg (fun l => l[i]?) h2
    simp only [List.getElem?_map, hq, hx', Option.map_some, q2, Option.some.injEq, DataW.lit.injEq, Lit.int.injEq, true_and] at h3
    subst h3
    have h4 : (cs.drop i).take 1 = [Value.int k n] := q1
    have h5 := congrArg (fun l => l[0]?) h4
    simpa [List.getElem?_take, List.getElem?_drop] using h5
theorem glob_of_laid {W : World} (h : laidMetH Tryd.prog [("math/bits.deBruijn64tab", Rows.laid_math_bits_deBruijn64tab)] W) : GlobW W := by
  rw [MakeChecks.laidMetH_plain _ _ _ (by kernel_rfl)] at h
  obtain ⟨ps, ⟨g0, t0, cs0, f0, p0, q0, hg0, ht0, hv0, hd0, _, _⟩, _, _⟩ := h
  obtain rfl := Option.some.inj ((show Tryd.prog.globalNamed "math/bits.deBruijn64tab" = some 0 by kernel_rfl).symm.trans hg0)
  obtain rfl := Option.some.inj ((show (Tryd.prog.globals[0]?).map (·.type) = some 86 by kernel_rfl).symm.trans ht0)
  have hcell : ∀ (i : Nat) (c : Value), deBrL[i]? = some c → W.cell? ⟨0, i, none⟩ = some c := fun i c hi => by
    rw [World.var?_cell hg0 hv0 i, ← Array.getElem?_toList]
    refine ints_of_trod (deBrN.map (fun (n : Nat) => (n : Int))) Tryd.underlying86 Tryd.underlying5 (by kernel_rfl) hd0 i c ?_
    rw [List.map_map]
    exact hi
  intro g cs hg
  have hg' : (g, cs) = (0, deBrL) := by unfold gtab at hg; simpa using hg
  obtain ⟨rfl, rfl⟩ := Prod.mk.inj hg'
  refine ⟨?_, hcell⟩
  have := hcell 0 _ rfl
  unfold World.cell? at this
  rcases Nat.lt_or_ge 0 W.heap.size with hlt | hge
  · exact hlt
  · rw [Array.getElem?_eq_none hge] at this; cases this
end Go.Proofs.YtegnfpmbmbbaiaaDoor
