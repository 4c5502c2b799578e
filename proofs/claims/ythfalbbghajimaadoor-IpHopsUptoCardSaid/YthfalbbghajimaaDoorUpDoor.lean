/-
  The frame of a law whose row lists package-level variables and whose arguments are small.
-/
import Derived.Test.YthfalbbghajimaaDoorUpto
import Derived.Test.YthfalbbghajimaaDoorTie
import Derived.Test.YthfalbbghajimaaDoorCards
import Derived.SevenTiedAt
import Derived.LaidLaws
import Derived.LaidHandle
import Derived.LaidMore
import Derived.Lay
import Derived.MakeChecks
import Derived.OpenShut
import Derived.Deep.DeepHandedRow
namespace Go.Proofs.YthfalbbghajimaaDoor
open Go.ChangeShapes Go.WideShapes Go.ChangeAt Go.RowKit
set_option linter.unusedVariables false
set_option linter.unusedSimpArgs false
/-- A text among the arguments is short. -/
def ShortS (shs : List Sh) (vs : List Value) : Prop := ∀ (j : Nat) (s : ByteArray), shs[j]? = some .str → vs[j]? = some (.string s) → s.size ≤ 1048576
theorem shortS_of {H : Type} {enc : TypeId × Value → H} {P : Program} {w : World} : ∀ {shs : List Sh} {ts : List TypeId} {vs : List Value} {ds : List (DataW H)} {ps : List MemPlace},
    shs.length = ts.length → (∀ (i : Nat) (s : Sh) (t : TypeId), shs[i]? = some s → ts[i]? = some t → s.fit P none t = true) → DataW.TrodAll enc P w 0 (fun _ => true) true ts vs ds ps →
      Rows.uptoBulkAll ds ≤ 1048576 → ShortS shs vs
  | [], [], _, _, _, _, _, h, _ => fun j s h1 _ => by simp at h1
  | [], _ :: _, _, _, _, hl, _, _, _ => by simp at hl
  | _ :: _, [], _, _, _, hl, _, _, _ => by simp at hl
  | s :: ss, t :: ts, _, _, _, hl, hf, h, hw => by
    obtain ⟨v, vs1, d, ds1, a, b, rfl, rfl, rfl, h1, h2⟩ := trodAll_cons h
    obtain ⟨fuel, h1⟩ := h1
    simp only [Rows.uptoBulkAll] at hw
    have ih := shortS_of (by simpa using hl) (fun i s' t' hi hi' => hf (i + 1) s' t' (by simpa using hi) (by simpa using hi')) h2 (by omega)
    intro j x hj hv
    match j, hj, hv with
    | j + 1, hj, hv => exact ih j x (by simpa using hj) (by simpa using hv)
    | 0, hj, hv =>
      obtain rfl := Option.some.inj hj
      obtain rfl := Option.some.inj hv
      have hf0 := hf 0 .str t rfl rfl
      simp only [Sh.fit] at hf0
      split at hf0
      · rename_i hu
        obtain ⟨y, hy, hx, -⟩ := DataW.trod_string hu h1
        simp only [Prod.mk.injEq] at hx
        obtain ⟨rfl, rfl⟩ := hx
        have e : x = y := by
          have h3 : [Value.string x] = [Value.string y] := hy
          simpa using h3
        subst e
        simp only [Rows.uptoBulk] at hw
        simp at hw
        omega
      · cases hf0
theorem law_lifted_uptolaid {C : Checked} {os : Os} {f : FuncId} {fn : Func} {s : ChangeSpec} {H : Type} {enc : TypeId × Value → H} {F : Stop.Interp} {laid : List (String × DataW Unit)} (own : ownKnob C.prog.godebug = none) (started : os.Started) (noInit : C.prog.inits.idxOf? f = none) (hfn : C.prog.funcs[f]? = some fn)
    (witness : ∃ (w : World) (tape : Tape) (i : Input), w.os = os ∧ (w.forCall tape i).Shaped C.prog ∧ i.vars = [] ∧ Input.okWide C.prog (w.forCall tape i) .any w.heap.size f i ∧
      (Rows.OpenSpec.upto s).preRow enc C.prog fn [] false laid (w.forCall tape i).memory i.args ∧ ({} : Assume).holds C.prog (lone (Frame.enter C.prog f i.args .normal) [] (w.forCall tape i)))
    (shs : List Sh) (hsz : shs.length = fn.params.toList.length) (hfit : (List.range shs.length).all (fun i => match shs[i]?, fn.params.toList[i]? with | some s, some t => s.fit C.prog none t | _, _ => false) = true)
    (hvars : s.vars = []) (hspec : ∀ ds : List (DataW H), ds.length = shs.length → (s.fn H (ds ++ [])).results = [.lit (.bool true)] ∧ (s.fn H (ds ++ [])).args = ds ∧ (s.fn H (ds ++ [])).vars = []) (tb : TypeId) (hres : fn.resultTypes = #[tb]) (htb : C.prog.underlying tb = some .bool)
    (hl : laidOutB C.prog = true) (hrd : fn.params.toList.all (fun t => C.prog.readableRec t && decide (t < C.prog.types.size)) = true)
    (core : ∀ (W : World) (args : Array Value), laidMetH C.prog laid W → ShortS shs args.toList → opnAll W W.heap.size (shs.map Sh.wide) args.toList → Calls C.prog f args W fun e W' => e = .returned (.bool true) ∧ Below W.heap.size W W') :
    ReturnsInHanded {} C os f .any ((Rows.OpenSpec.upto s).preRow enc C.prog fn [] false laid) (((Rows.OpenSpec.upto s).at F).post enc C.prog fn false true false false) := by
  refine returnsInHanded_of_row own started noInit hfn witness ?_
  intro W base args ds gs before hval hW hcnd hk _ hL _ _
  have hlt : ∀ p ∈ before, p.block < W.heap.size := fun p hp => hW.lt p hp
  have hW' := hW
  obtain ⟨p, q, hA, hV, rfl, hfz, hnd⟩ := hW
  have hvars' : (Rows.OpenSpec.upto s).vars = [] := hvars
  rw [hvars'] at hV
  obtain ⟨rfl, rfl⟩ := trodVars_none hV
  have hlen := trodAll_length hA
  obtain ⟨s1, s2, s3⟩ := hspec ds (by rw [hlen, hsz])
  have hwt' : Rows.uptoBulkAll ds ≤ 1048576 := by
    have h := of_decide_eq_true (hk Rows.uptoSmall rfl)
    rw [List.append_nil] at h
    exact h
  have hfit' : ∀ (i : Nat) (s' : Sh) (t' : TypeId), shs[i]? = some s' → fn.params.toList[i]? = some t' → s'.fit C.prog none t' = true := fun i s' t' hi ht => by
    have h := List.all_eq_true.1 hfit i (List.mem_range.2 (List.getElem?_eq_some_iff.1 hi).1)
    simp only [hi, ht] at h
    exact h
  have hop := opnAll_bulk (B := W.heap.size) (shs := shs) hsz hfit' (fun j t v hj hv => hval j t v (by simpa using hj) (by simpa using hv)) hA hwt' (fun x hx => hlt x (List.mem_append.2 (.inl hx)))
  have hst := shortS_of hsz hfit' hA hwt'
  refine (core W args hL hst hop).mono fun e W' ⟨he, hb⟩ => ?_
  subst he
  refine ⟨_, rfl, ds, [], _, [], p, [], hW', ?_, ?_, ?_, hb.frame _, fun h => by cases h⟩
  · rw [hres]
    show DataW.TrodAll _ _ _ _ _ _ _ _ (s.fn H (ds ++ [])).results _
    rw [s1]
    exact trodAll_cons_mk (shut_bool htb _) trodAll_mk0
  · show DataW.TrodAll _ _ _ _ _ _ _ _ (s.fn H (ds ++ [])).args _
    rw [s2]
    exact stays_all hl hb hrd hA (fun x hx => hlt x (List.mem_append.2 (.inl hx)))
  · have e1 : (((Rows.OpenSpec.upto s).at F).fn H (ds ++ [])).vars = [] := s3
    have e2 : ((Rows.OpenSpec.upto s).at F).vars = [] := hvars
    rw [e1, e2]
    rfl
theorem witness_row_shaped {H : Type} {enc : TypeId × Value → H} {C : Checked} {os : Os} {f : FuncId} {fn : Func} {s : OpenSpec} {laid : List (String × DataW Unit)} (w0 : World) (args : Array Value) (hos : w0.os = os)
    (hsh : (w0.forCall (fun _ _ => 0) ⟨#[], args, []⟩).Shaped C.prog)
    (hok : Input.okWideB C.prog (w0.forCall (fun _ _ => 0) ⟨#[], args, []⟩) f ⟨#[], args, []⟩ = true)
    (hrow : s.preRow enc C.prog fn [] false laid (w0.forCall (fun _ _ => 0) ⟨#[], args, []⟩).memory args) :
    ∃ (w : World) (tape : Tape) (i : Input), w.os = os ∧ (w.forCall tape i).Shaped C.prog ∧ i.vars = [] ∧ Input.okWide C.prog (w.forCall tape i) .any w.heap.size f i ∧
      s.preRow enc C.prog fn [] false laid (w.forCall tape i).memory i.args ∧ ({} : Assume).holds C.prog (lone (Frame.enter C.prog f i.args .normal) [] (w.forCall tape i)) :=
  ⟨w0, fun _ _ => 0, ⟨#[], args, []⟩, hos, hsh, (Input.okWide_of_okWideB (base := 0) hok).1, (Input.okWide_of_okWideB hok).2, hrow, by
    simp only [Assume.holds]
    exact ⟨by simp, by simp, fun h => by simp at h, by simp, by simp⟩⟩
/-- A law out of its contract; the arguments' values are at hand. -/
theorem law_core_a {P : Program} {f : FuncId} {shs : List Sh} {W : World} {args : Array Value} (hok : shs.all Sh.okB = true) (h : opnAll W W.heap.size shs args.toList) (hspec : ∀ x : TSs shs, wfSs shs x → ArgsRel K0 W (valSs shs x) args → Spec P f (valSs shs x) (.v (.bool true))) (hgl : GlobW W := by exact globW_nil _) :
    Calls P f args W fun e W' => e = .returned (.bool true) ∧ Below W.heap.size W W' := by
  obtain ⟨x, hx, ha⟩ := all_typed shs args.toList hok h
  have ha : ArgsRel K0 W (valSs shs x) args := by simpa using ha
  have ha' : ArgsRel (K0.cut W) W (valSs shs x) args := argsRel_cut ha
  have hI : Inv (lend K0 W 0 []) (K0.cut W) (lget []) W := ⟨Ext.refl _ _, ⟨fun n h => h.elim, fun n h => h.elim, fun n h => h.elim, fun g _ => Iff.rfl⟩, fun k o h => by simp [lget] at h, fun k k' o o' h => by simp [lget] at h, fun n h => h, fun n h => h.elim, fun k o h => by simp [lget] at h, fun k o h => by simp [lget] at h, fun g cs hg => ⟨fun ⟨_, _, q, _⟩ => by simp [lget] at q, fun q => q.1, hgl g cs hg⟩⟩
  refine ((hspec x hx ha).2 K0 W args 0 hI (fun n h => h.elim) ha').mono ?_
  rintro e w' ⟨v, d, H1, rfl, ⟨rfl, rfl⟩, hI', hv⟩
  refine ⟨by rw [vrel_v hv], hI'.ext.os, hI'.ext.tape, hI'.ext.output, hI'.ext.size, fun k hk => hI'.ext.keep k hk ?_⟩
  rintro ⟨j, o, h, _⟩
  simp [lend, lget] at h
end Go.Proofs.YthfalbbghajimaaDoor
