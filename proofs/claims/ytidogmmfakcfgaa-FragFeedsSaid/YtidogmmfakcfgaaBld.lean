/-
  strings.Builder: what checks for copies, out of the kit's shelf.
-/
import Derived.Test.YtidogmmfakcfgaaShB
import Derived.Lib.Builder
import Derived.Laws.Externs
namespace Go.Proofs.Ytidogmmfakcfgaa
set_option linter.unusedVariables false
set_option linter.unusedSimpArgs false
open Go.RowKit in
set_option maxHeartbeats 1000000 in
set_option maxRecDepth 100000 in
theorem bldW_used (b : Nat) (w : World) (h0 : w.cell? ⟨b, 0, none⟩ = some (.pointer (some ⟨b, 0, none⟩))) :
    Calls Try.prog 55 #[.pointer (some ⟨b, 0, none⟩)] w fun e w' => e = .returned (.tuple #[]) ∧ w' = w := by
  obtain ⟨j, hj, _⟩ := Option.map_eq_some_iff.1 (show (Try.prog.info? 67).map (·.size) = some 2 by kernel_rfl)
  have mixed := mixed_ok
  go_enter Try.func55, Try.ntmps55
  go_wp2
  rw [Lib.run_neq_ptr_same w _ Try.underlying65 hj]
  go_wp2
  go_end0
  exact ⟨rfl, rfl⟩
open Go.RowKit in
set_option maxHeartbeats 1000000 in
set_option maxRecDepth 100000 in
theorem bldW_fresh (b : Nat) (w : World) (h0 : w.cell? ⟨b, 0, none⟩ = some (.pointer none)) (hsh : w.shape? b = some (67, 2)) (hfz : w.frozen? ⟨b, 0, none⟩ = false) :
    Calls Try.prog 55 #[.pointer (some ⟨b, 0, none⟩)] w fun e w' => e = .returned (.tuple #[]) ∧ w' = w.setCell ⟨b, 0, none⟩ (.pointer (some ⟨b, 0, none⟩)) := by
  obtain ⟨j, hj, hjs⟩ := Option.map_eq_some_iff.1 (show (Try.prog.info? 67).map (·.size) = some 2 by kernel_rfl)
  have hlies : liesAt Try.prog Try.prog.depth 67 (2 / Try.prog.cellsOf 67) 0 67 1 = true := by kernel_rfl
  have mixed := mixed_ok
  go_enter Try.func55, Try.ntmps55
  go_wp2
  rw [Lib.run_to_unsafe w ⟨b, 0, none⟩ Try.underlying65 Try.underlying100 hj (by rw [hjs]; decide) hsh (Nat.zero_lt_succ 1)]
  simp only [Result.andThen]
  rw [Oper.upon_value]
  go_wp2
  rw [run_callFunc_extern (fn := Try.f69) Try.func69 (by kernel_rfl) (by kernel_rfl) (by kernel_rfl) (e := Extern.AbiNoEscape.same) (by kernel_rfl)]
  rw [Lib.run_noEscape]
  simp only [Result.andThen]
  rw [Oper.upon_value]
  go_wp2
  rw [Lib.run_from_unsafe w ⟨b, 0, none⟩ Try.underlying100 Try.underlying65 hj hsh hlies]
  simp only [Result.andThen]
  rw [Oper.upon_value]
  go_wp2
  go_end0
  exact ⟨rfl, rfl⟩
abbrev tBld : TypeId := 67
theorem le_tptr {st : St} (s : Sl) (k : Nat) {n sz : Nat} {T : TypeId} (hs : st.tm.get s = .tptr n sz T) : Le st ⟨st.tm.set s (.ptr k n sz 0 0), st.H, st.gen⟩ := by
  intro Γ N K a w hR
  refine ⟨K, hR.inv, hR.fresh, hR.g0, hR.size, hR.defers, fun q => ?_⟩
  show VRel K w ((st.tm.set s _).get q) _
  rw [Env.get_set]
  by_cases e : q = s
  · rw [if_pos e, e]
    have := hR.tm s
    rw [hs] at this
    generalize a.tmps.getD s.nat undef = v at this ⊢
    cases this with
    | tptr hr hc =>
      obtain ⟨cs, fr, hh, hz⟩ := hc
      have h2 : VRel K w (.ptr k n sz 0 0) (.pointer (some ⟨K.μ n, 0 * sz + 0, none⟩)) := .ptr hr ⟨cs, T, fr, hh⟩
      simpa using h2
  · rw [if_neg e]
    exact hR.tm q
theorem copy0 (nb : Nat) (d : DV) : HSpec Try.prog 55 [.tptr nb 2 tBld] [some ⟨nb, 2, [[.v (.pointer none), d]]⟩] (fun r H => r = .tup [] ∧ H = [some ⟨nb, 2, [[.tptr nb 2 tBld, d]]⟩]) := by
  refine ⟨by kernel_rfl, fun K w vs g0 hI hlt hargs => ?_⟩
  obtain ⟨v, rfl, hv⟩ := args1 hargs
  cases hv with
  | tptr hr hc =>
    obtain ⟨cs, fr, hh, hz⟩ := hc
    rcases (hI.obj 0 _ rfl).two (fun q => by have := q.2.1; cases this) with ⟨q1, q2⟩ | ⟨q1, cs', t', fr', q2, q3, q4, q5, q6⟩
    · exact absurd hr q1
    · dsimp only at q2 q3 q4 q6
      rw [hh] at q3
      obtain ⟨rfl, rfl, rfl⟩ : cs = cs' ∧ _ = t' ∧ fr = fr' := by
        have := Option.some.inj q3
        exact ⟨by injection this, by injection this, by injection this⟩
      obtain ⟨c0, hc0, hv0⟩ := q6 0 _ 0 _ rfl rfl
      obtain ⟨c1, hc1, hv1⟩ := q6 0 _ 1 d rfl rfl
      cases hv0
      have h0 : w.cell? ⟨(K.cut w).μ nb, 0, none⟩ = some (.pointer none) := by simp [World.cell?, hh, hc0]
      have hsh : w.shape? ((K.cut w).μ nb) = some (tBld, 2) := by simp [World.shape?, hh, hz]
      have hfz : w.frozen? ⟨(K.cut w).μ nb, 0, none⟩ = false := by
        obtain ⟨lo, hi⟩ := fr
        have hn := q2.1
        simp only [World.frozen?, hh, Bool.and_eq_false_iff, decide_eq_false_iff_not]
        simp only [NF] at hn
        omega
      have hcall := bldW_fresh ((K.cut w).μ nb) w h0 hsh hfz
      refine hcall.mono ?_
      rintro e w' ⟨rfl, rfl⟩
      have hw := setCell_eq_setRow w ((K.cut w).μ nb) 0 cs tBld fr (.pointer (some ⟨(K.cut w).μ nb, 0, none⟩)) hh
      have hM : Mono (K.cut w) w (K.cut w) (w.setRow ((K.cut w).μ nb) (cs.setIfInBounds 0 (.pointer (some ⟨(K.cut w).μ nb, 0, none⟩)))) := ⟨setRow_ext hh (by simp) (hI.own 0 _ rfl hr).1, fun n h => ⟨h, rfl⟩, fun g _ h => h⟩
      have hnew := setRow_heap w ((K.cut w).μ nb) cs (cs.setIfInBounds 0 (.pointer (some ⟨(K.cut w).μ nb, 0, none⟩))) tBld fr hh
      have hoth : ∀ g, g ≠ (K.cut w).μ nb → (w.setRow ((K.cut w).μ nb) (cs.setIfInBounds 0 (.pointer (some ⟨(K.cut w).μ nb, 0, none⟩)))).heap[g]? = w.heap[g]? := fun g hg => setRow_other hg
      rw [hw]
      generalize w.setRow ((K.cut w).μ nb) (cs.setIfInBounds 0 (.pointer (some ⟨(K.cut w).μ nb, 0, none⟩))) = w' at *
      have hp : VRel (K.cut w) w' (.tptr nb 2 tBld) (.pointer (some ⟨(K.cut w).μ nb, 0, none⟩)) := .tptr hr ⟨_, fr, hnew, by simp [hz]⟩
      have hrel : ORel (K.cut w) w' ⟨nb, 2, [[.tptr nb 2 tBld, d]]⟩ := by
        refine .inr (.inl ⟨hr, _, tBld, fr, by rw [Array.size_setIfInBounds]; exact q2, hnew, by simp [hz], fun x hx => ?_, fun i x j e hx he => ?_⟩)
        · simp at hx
          rw [hx]
          rfl
        · match i, hx with
          | 0, hx =>
            obtain rfl := Option.some.inj hx
            match j, he with
            | 0, he =>
              obtain rfl := Option.some.inj he
              exact ⟨_, by simp [hz], hp⟩
            | 1, he =>
              obtain rfl := Option.some.inj he
              exact ⟨c1, by simpa using hc1, hv1.mono hM⟩
            | j + 2, he => simp at he
          | i + 1, hx => simp at hx
      have hI2 := inv_writeG hI (k := 0) rfl hr hM hoth hrel
      refine ⟨.tuple #[], .tup [], _, rfl, ⟨rfl, rfl⟩, ?_, .tup rfl (fun i d c h => by simp at h)⟩
      have e : (fun j => if j = 0 then some (AObj.mk nb 2 [[.tptr nb 2 tBld, d]]) else lget [some (AObj.mk nb 2 [[.v (.pointer none), d]])] j) = lget [some (AObj.mk nb 2 [[.tptr nb 2 tBld, d]])] := by
        funext j
        cases j with
        | zero => rfl
        | succ j => rfl
      rw [← e]
      exact hI2
theorem copy1 (nb : Nat) (d : DV) : HSpec Try.prog 55 [.tptr nb 2 tBld] [some ⟨nb, 2, [[.tptr nb 2 tBld, d]]⟩] (fun r H => r = .tup [] ∧ H = [some ⟨nb, 2, [[.tptr nb 2 tBld, d]]⟩]) := by
  refine ⟨by kernel_rfl, fun K w vs g0 hI hlt hargs => ?_⟩
  obtain ⟨v, rfl, hv⟩ := args1 hargs
  cases hv with
  | tptr hr hc =>
    obtain ⟨cs, fr, hh, hz⟩ := hc
    rcases (hI.obj 0 _ rfl).two (fun q => by have := q.2.1; cases this) with ⟨q1, q2⟩ | ⟨q1, cs', t', fr', q2, q3, q4, q5, q6⟩
    · exact absurd hr q1
    · dsimp only at q2 q3 q4 q6
      rw [hh] at q3
      obtain ⟨rfl, rfl, rfl⟩ : cs = cs' ∧ _ = t' ∧ fr = fr' := by
        have := Option.some.inj q3
        exact ⟨by injection this, by injection this, by injection this⟩
      obtain ⟨c0, hc0, hv0⟩ := q6 0 _ 0 _ rfl rfl
      cases hv0
      have h0 : w.cell? ⟨(K.cut w).μ nb, 0, none⟩ = some (.pointer (some ⟨(K.cut w).μ nb, 0, none⟩)) := by simp [World.cell?, hh, hc0]
      refine (bldW_used ((K.cut w).μ nb) w h0).mono ?_
      rintro e w' ⟨rfl, rfl⟩
      exact ⟨.tuple #[], .tup [], _, rfl, ⟨rfl, rfl⟩, hI, .tup rfl (fun i d c h => by simp at h)⟩
end Go.Proofs.Ytidogmmfakcfgaa
