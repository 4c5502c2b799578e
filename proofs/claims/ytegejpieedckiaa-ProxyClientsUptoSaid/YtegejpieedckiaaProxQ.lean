/-
  A guard hears a client, in the reference: what it says.
-/
import Derived.Test.YtegejpieedckiaaProxS
import Derived.Test.YtegejpieedckiaaTcpZ
namespace Go.Proofs.Ytegejpieedckiaa
set_option linter.unusedVariables false
set_option linter.unusedSimpArgs false
/-- A segment that goes out: moved; without options; with one; with one, of askOf. -/
inductive SegK where
  | f (g : Sg)
  | n (g : Sg)
  | o (g : Sg)
  | a (g : Sg)
def SegK.row (c : Bool) : SegK → List DV
  | .f g => g.enc
  | .n g => g.encN
  | .o g => g.encC c
  | .a g => g.encC c
/-- The program's row of it; the reference's. -/
def dKp : Option SegK → DV
  | none => nilS
  | some k => .snap 9 [k.row true] false
def dKr : Option SegK → DV
  | none => nilS
  | some (.a g) => .snap 9 [g.encC false] true
  | some k => .snap 9 [k.row false] false
abbrev mvC (g : Sg) (t : Gd) : Sg := mvd g 0 ((0 - t.dl) % 4294967296)
abbrev Out := (List Gd × Option SegK × Option SegK) × Int
def cliT (g : Sg) (now : Int) (q : List Gd) (t : Gd) : Out :=
  if hasF g 4 = true then ((butR t.rd q, none, if t.op = true then some (.f (mvC g t)) else none), 0)
  else if hasF g 2 = true then ((q, none, none), 0)
  else if t.op = true then ((butR t.rd q ++ [t.heardAt now], none, some (.f (mvC g t))), 0)
  else if hasF g 16 = true then ((q, none, some (.a (sgAsk t 536))), 0) else ((q, none, none), 0)
def cliS (k0 k1 sz : Int) (ms : List Gd) (r : Rd) (g : Sg) (now : Int) (q : List Gd) : Out :=
  if hasF g 2 = true ∧ hasF g 16 = false ∧ hasF g 1 = false ∧ hasF g 4 = false then ((q, some (.o (sgSyn sz g (synC k0 k1 r g now))), none), 0)
  else if hasF g 16 = true ∧ hasF g 2 = false ∧ hasF g 4 = false then
    (if ¬ (opnC k0 k1 r g now).2 = 0 then ((q, some (.n (sgRst g)), none), 0)
     else if q.length = 64 then ((ms, none, none), 6)
     else ((q ++ [newT r g now], none, some (.a (sgAsk (newT r g now) (opnC k0 k1 r g now).1))), 0))
  else ((q, none, none), 0)
def cliR (k0 k1 sz : Int) (ms : List Gd) (r : Rd) (g : Sg) (now : Int) : Out :=
  if ¬ refG sz ms r g now = 0 then ((ms, none, none), refG sz ms r g now)
  else if (fndL r (yngG now ms)).2 = true then cliT g now (yngG now ms) (fndL r (yngG now ms)).1
  else cliS k0 k1 sz ms r g now (yngG now ms)
theorem askOf_spec (t : Gd) (size : Int) (h0 : 0 ≤ size) : Spec Try.prog 31 [.agg t.enc, .v (.int .i64 size)] (.snap 9 [(sgAsk t size).encC false] true) := by
  have hw := word_spec size h0
  refine hspec_fn Try.func31 rfl ok_custref_askOf okr_custref_askOf rfl (by kernel_rfl) ?_
  intro Γ hW0 hN0 hL0
  have hW := hW0 rfl
  clear hW0 hN0 hL0
  unfold x_custref_askOf r_custref_askOf
  refine auC ?_
  repeat' (first
    | (refine auS ?_)
    | (with_reducible refine runR_call hw ?_)
    | (refine auD ?_)
    | (with_reducible refine runR_b (fun h => ?_) (fun h => ?_) <;> first | exact auH | simp only [h, runR_t, runR_f])
    | (with_reducible refine condK_bl ?_ ?_)
    | (with_reducible refine condK_b (fun h => ?_) (fun h => ?_) <;> first | exact auH | skip)
    | fail)
  (all_goals first | exact auP | skip)
  refine retq_le (leG_freezeO hW 2 1 (by decide) (ys := [(sgAsk t size).encC false]) rfl rfl ⟨⟨rfl, rfl, rfl, rfl, rfl, rfl, rfl, .inl ⟨rfl, rfl, Nat.le_refl _, rfl⟩, rfl, rfl⟩, rfl⟩) ?_
  refine retq_le (leG_freeze hW ⟨.d0, .d0, .d4⟩ rfl rfl ⟨rfl, rfl, Nat.le_refl _⟩) ?_
  simp only [one_row]
  all_goals refine auF ?_
  all_goals (try first | refine auR ?_ | exact auR0)
  all_goals (try simp only [hsM] at *)
theorem opR_nn (a b f t p q s k n : Int) : 0 ≤ (opR a b f t p q s k n).1 := by
  have h8 : ∀ i, 0 ≤ sz8 i := fun i => by
    match i with
    | 0 | 1 | 2 | 3 | 4 | 5 | 6 | 7 => decide
    | i + 8 => simp [sz8]
  unfold opR
  split
  · exact Int.le_refl _
  split
  · exact Int.le_refl _
  split
  · exact Int.le_refl _
  · exact h8 _
abbrev dHc (k0 k1 sz : Int) (R : Out) : DV := .agg [.v (.int .u64 k0), .v (.int .u64 k1), .v (.int .i64 sz), .snap 9 (R.1.1.map Gd.enc) false, dKr R.1.2.1, dKr R.1.2.2, .v (.int .i64 R.2)]
abbrev HCspec (k0 k1 sz now : Int) (ms : List Gd) (r : Rd) (g : Sg) (R : Out) : Prop := Spec Try.prog 10 [dPx k0 k1 sz ms, .agg r.enc, dG g, .v (.int .i64 now)] (dHc k0 k1 sz R)
set_option maxRecDepth 8000 in
set_option maxHeartbeats 4000000 in
theorem heardC_ref (k0 k1 sz now : Int) (ms : List Gd) (r : Rd) (g : Sg) (hl : ms.length ≤ maxLen) (hr : U32 r.fr ∧ U32 r.to) (hg : SegOk g) (he : ¬ refG sz ms r g now = 0) : HCspec k0 k1 sz now ms r g ((ms, none, none), refG sz ms r g now) := by
  have hrf := pxrefused_spec k0 k1 sz now ms r g hl hr hg
  have hnf : ∀ g (l : List Gd), nfLL g (l.map Gd.enc) := nf_gd
  generalize refG sz ms r g now = e at *
  dsimp only [HCspec, dHc, dKr]
  refine hspec_fn Try.func10 rfl ok_custref_HeardClient okr_custref_HeardClient rfl (by kernel_rfl) ?_
  intro Γ hW0 hN0 hL0
  have hW := hW0 rfl
  clear hW0 hN0 hL0
  unfold x_custref_HeardClient r_custref_HeardClient
  refine auC ?_
  repeat' (first
    | (refine auS ?_)
    | (first | (with_reducible refine runR_call hrf ?_) | (with_reducible refine runR_call hyt ?_) | (with_reducible refine runR_call hmi0 ?_) | (with_reducible refine runR_call hmv ?_) | (with_reducible refine runR_call hb0 ?_) | (with_reducible refine runR_call has ?_) | (with_reducible refine runR_call hms ?_) | (with_reducible refine runR_call ksizes_spec ?_) | (with_reducible refine runR_call hmk ?_) | (with_reducible refine runR_call hp3 ?_) | (with_reducible refine runR_call hwd ?_) | (with_reducible refine runR_call hmi1 ?_) | (with_reducible refine runR_call hmi2 ?_) | (with_reducible refine runR_call hop ?_) | (simp only [e4, e2, e16, e1]) | (simp only [w1]) | (simp only [w2]) | (simp only [hlen]) | ((with_reducible refine runR_callH 7 ?_ (hb1 _ _) (fun _ _ _ h => h) ?_); (exact rfl)) | ((with_reducible refine runR_callH 12 ?_ (hb1 _ _) (fun _ _ _ h => h) ?_); (exact rfl)))
    | (refine auD ?_)
    | (with_reducible refine runR_b (fun h => ?_) (fun h => ?_) <;> first | exact auH | simp only [h, runR_t, runR_f])
    | (with_reducible refine condK_bl ?_ ?_)
    | (with_reducible refine condK_b (fun h => ?_) (fun h => ?_) <;> first | exact auH | skip)
    | fail)
  (all_goals first | exact auP | skip)
  all_goals first
    | (exfalso; simp_all; done)
    | skip
  all_goals with_reducible refine ret_spec2 (by (try first | refine auR ?_ | exact auR0); (repeat' (first | exact trivial | exact rfl | exact nfLL_map (fun x => by simp [nfL, nfD, nfD, nfL, hnf]) | decide | apply And.intro))) ?_
  all_goals (try first | refine auR ?_ | exact auR0)
  all_goals (try simp only [hsM] at *)
set_option maxRecDepth 8000 in
set_option maxHeartbeats 8000000 in
theorem heardC_talk (k0 k1 sz now : Int) (ms : List Gd) (r : Rd) (g : Sg) (t : Gd) (hl : ms.length ≤ maxLen) (hr : U32 r.fr ∧ U32 r.to) (hg : SegOk g) (hg2 : SegArg g) (htq : GdOk t) (he : refG sz ms r g now = 0) (hf : fndL r (yngG now ms) = (t, true)) (hrd : t.rd = r) : HCspec k0 k1 sz now ms r g (cliT g now (yngG now ms) t) := by
  have hrf := pxrefused_spec k0 k1 sz now ms r g hl hr hg
  have hnf : ∀ g (l : List Gd), nfLL g (l.map Gd.enc) := nf_gd
  have hno := nf_opt
  rw [he] at hrf
  obtain ⟨hl64, hap, hat, hnow⟩ := ref_ok he
  clear he
  have hyt := youngTalks_spec k0 k1 sz now ms r hl64 hnow hat
  have hql : (yngG now ms).length ≤ 64 := Nat.le_trans (List.length_filter_le _ _) hl64
  have e1 := has_pos g 1 (and_nn g.flags 1 (by decide))
  have e2 := has_pos g 2 (and_nn g.flags 2 (by decide))
  have e4 := has_pos g 4 (and_nn g.flags 4 (by decide))
  have e16 := has_pos g 16 (and_nn g.flags 16 (by decide))
  rw [hf] at hyt
  clear hf
  generalize yngG now ms = q at *
  clear hap hat
  obtain ⟨hsq, hck, hdl⟩ := htq
  have hb0 := but0_spec k0 k1 sz q r hql
  have hmi0 := minus_spec 0 t.dl (by decide) hdl
  have hmv := moved_spec g 0 ((0 - t.dl) % 4294967296) hg2.1 hg2.2.1 hg2.2.2.1 (by decide) (by omega) hg2.2.2.2.1 hg2.2.2.2.2
  have has := askOf_spec t 536 (by decide)
  have hb1 := fun fu n => but1_spec k0 k1 sz q r (t.heardAt now) fu 7 n hql
  unfold cliT
  rw [hrd]
  clear hrd
  obtain ⟨tfr, tto, tfp, ttp, tseq, tck, tdl, top, tat⟩ := t
  dsimp only at *
  generalize hh4 : hasF g 4 = b4 at *
  generalize hh2 : hasF g 2 = b2 at *
  generalize hh16 : hasF g 16 = b16 at *
  generalize hh1 : hasF g 1 = b1 at *
  clear hh4 hh2 hh16 hh1
  generalize butR r q = B at *
  cases b4 with
  | true =>
    rw [if_pos rfl]
    cases top with
    | true =>
      simp only [if_true]
      dsimp only [HCspec, dHc, dKr, SegK.row]
      refine hspec_fn Try.func10 rfl ok_custref_HeardClient okr_custref_HeardClient rfl (by kernel_rfl) ?_
      intro Γ hW0 hN0 hL0
      have hW := hW0 rfl
      clear hW0 hN0 hL0
      unfold x_custref_HeardClient r_custref_HeardClient
      refine auC ?_
      repeat' (first
        | (refine auS ?_)
        | (first | (with_reducible refine runR_call hrf ?_) | (with_reducible refine runR_call hyt ?_) | (with_reducible refine runR_call hmi0 ?_) | (with_reducible refine runR_call hmv ?_) | (with_reducible refine runR_call hb0 ?_) | (with_reducible refine runR_call has ?_) | (with_reducible refine runR_call hms ?_) | (with_reducible refine runR_call ksizes_spec ?_) | (with_reducible refine runR_call hmk ?_) | (with_reducible refine runR_call hp3 ?_) | (with_reducible refine runR_call hwd ?_) | (with_reducible refine runR_call hmi1 ?_) | (with_reducible refine runR_call hmi2 ?_) | (with_reducible refine runR_call hop ?_) | (simp only [e4, e2, e16, e1]) | (simp only [w1]) | (simp only [w2]) | (simp only [hlen]) | ((with_reducible refine runR_callH 7 ?_ (hb1 _ _) (fun _ _ _ h => h) ?_); (exact rfl)) | ((with_reducible refine runR_callH 12 ?_ (hb1 _ _) (fun _ _ _ h => h) ?_); (exact rfl)))
        | (refine auD ?_)
        | (with_reducible refine runR_b (fun h => ?_) (fun h => ?_) <;> first | exact auH | simp only [h, runR_t, runR_f])
        | (with_reducible refine condK_bl ?_ ?_)
        | (with_reducible refine condK_b (fun h => ?_) (fun h => ?_) <;> first | exact auH | skip)
        | fail)
      (all_goals first | exact auP | skip)
      all_goals first
        | (exfalso; simp_all; done)
        | skip
      refine retq_le (leG_freezeO hW 3 6 (by decide) (ys := [[.v (.int .u64 k0), .v (.int .u64 k1), .v (.int .i64 sz), .snap 9 ((B).map Gd.enc) false, nilS, .snap 9 [(mvd g 0 ((0 - tdl) % 4294967296)).enc] false, .v (.int .i64 0)]]) rfl rfl ⟨⟨rfl, rfl, rfl, rfl, rfl, .inl ⟨rfl, rfl, Nat.le_refl _, rfl⟩, rfl, rfl⟩, rfl⟩) ?_
      all_goals with_reducible refine ret_spec2 (by (try first | refine auR ?_ | exact auR0); (repeat' (first | exact trivial | exact rfl | exact nfLL_map (fun x => by simp [nfL, nfD, nfD, nfL, hnf, hno]) | decide | apply And.intro))) ?_
      all_goals (try first | refine auR ?_ | exact auR0)
      all_goals (try simp only [hsM] at *)
    | false =>
      simp only [Bool.false_eq_true, if_false]
      dsimp only [HCspec, dHc, dKr, SegK.row]
      refine hspec_fn Try.func10 rfl ok_custref_HeardClient okr_custref_HeardClient rfl (by kernel_rfl) ?_
      intro Γ hW0 hN0 hL0
      have hW := hW0 rfl
      clear hW0 hN0 hL0
      unfold x_custref_HeardClient r_custref_HeardClient
      refine auC ?_
      repeat' (first
        | (refine auS ?_)
        | (first | (with_reducible refine runR_call hrf ?_) | (with_reducible refine runR_call hyt ?_) | (with_reducible refine runR_call hmi0 ?_) | (with_reducible refine runR_call hmv ?_) | (with_reducible refine runR_call hb0 ?_) | (with_reducible refine runR_call has ?_) | (with_reducible refine runR_call hms ?_) | (with_reducible refine runR_call ksizes_spec ?_) | (with_reducible refine runR_call hmk ?_) | (with_reducible refine runR_call hp3 ?_) | (with_reducible refine runR_call hwd ?_) | (with_reducible refine runR_call hmi1 ?_) | (with_reducible refine runR_call hmi2 ?_) | (with_reducible refine runR_call hop ?_) | (simp only [e4, e2, e16, e1]) | (simp only [w1]) | (simp only [w2]) | (simp only [hlen]) | ((with_reducible refine runR_callH 7 ?_ (hb1 _ _) (fun _ _ _ h => h) ?_); (exact rfl)) | ((with_reducible refine runR_callH 12 ?_ (hb1 _ _) (fun _ _ _ h => h) ?_); (exact rfl)))
        | (refine auD ?_)
        | (with_reducible refine runR_b (fun h => ?_) (fun h => ?_) <;> first | exact auH | simp only [h, runR_t, runR_f])
        | (with_reducible refine condK_bl ?_ ?_)
        | (with_reducible refine condK_b (fun h => ?_) (fun h => ?_) <;> first | exact auH | skip)
        | fail)
      (all_goals first | exact auP | skip)
      all_goals first
        | (exfalso; simp_all; done)
        | skip
      all_goals with_reducible refine ret_spec2 (by (try first | refine auR ?_ | exact auR0); (repeat' (first | exact trivial | exact rfl | exact nfLL_map (fun x => by simp [nfL, nfD, nfD, nfL, hnf]) | decide | apply And.intro))) ?_
      all_goals (try first | refine auR ?_ | exact auR0)
      all_goals (try simp only [hsM] at *)
  | false =>
    rw [if_neg Bool.false_ne_true]
    cases b2 with
    | true =>
      rw [if_pos rfl]
      dsimp only [HCspec, dHc, dKr, SegK.row]
      cases top with
      | true =>
        refine hspec_fn Try.func10 rfl ok_custref_HeardClient okr_custref_HeardClient rfl (by kernel_rfl) ?_
        intro Γ hW0 hN0 hL0
        have hW := hW0 rfl
        clear hW0 hN0 hL0
        unfold x_custref_HeardClient r_custref_HeardClient
        refine auC ?_
        repeat' (first
          | (refine auS ?_)
          | (first | (with_reducible refine runR_call hrf ?_) | (with_reducible refine runR_call hyt ?_) | (with_reducible refine runR_call hmi0 ?_) | (with_reducible refine runR_call hmv ?_) | (with_reducible refine runR_call hb0 ?_) | (with_reducible refine runR_call has ?_) | (with_reducible refine runR_call hms ?_) | (with_reducible refine runR_call ksizes_spec ?_) | (with_reducible refine runR_call hmk ?_) | (with_reducible refine runR_call hp3 ?_) | (with_reducible refine runR_call hwd ?_) | (with_reducible refine runR_call hmi1 ?_) | (with_reducible refine runR_call hmi2 ?_) | (with_reducible refine runR_call hop ?_) | (simp only [e4, e2, e16, e1]) | (simp only [w1]) | (simp only [w2]) | (simp only [hlen]) | ((with_reducible refine runR_callH 7 ?_ (hb1 _ _) (fun _ _ _ h => h) ?_); (exact rfl)) | ((with_reducible refine runR_callH 12 ?_ (hb1 _ _) (fun _ _ _ h => h) ?_); (exact rfl)))
          | (refine auD ?_)
          | (with_reducible refine runR_b (fun h => ?_) (fun h => ?_) <;> first | exact auH | simp only [h, runR_t, runR_f])
          | (with_reducible refine condK_bl ?_ ?_)
          | (with_reducible refine condK_b (fun h => ?_) (fun h => ?_) <;> first | exact auH | skip)
          | fail)
        (all_goals first | exact auP | skip)
        all_goals first
          | (exfalso; simp_all; done)
          | skip
        all_goals with_reducible refine ret_spec2 (by (try first | refine auR ?_ | exact auR0); (repeat' (first | exact trivial | exact rfl | exact nfLL_map (fun x => by simp [nfL, nfD, nfD, nfL, hnf]) | decide | apply And.intro))) ?_
        all_goals (try first | refine auR ?_ | exact auR0)
        all_goals (try simp only [hsM] at *)
      | false =>
        refine hspec_fn Try.func10 rfl ok_custref_HeardClient okr_custref_HeardClient rfl (by kernel_rfl) ?_
        intro Γ hW0 hN0 hL0
        have hW := hW0 rfl
        clear hW0 hN0 hL0
        unfold x_custref_HeardClient r_custref_HeardClient
        refine auC ?_
        repeat' (first
          | (refine auS ?_)
          | (first | (with_reducible refine runR_call hrf ?_) | (with_reducible refine runR_call hyt ?_) | (with_reducible refine runR_call hmi0 ?_) | (with_reducible refine runR_call hmv ?_) | (with_reducible refine runR_call hb0 ?_) | (with_reducible refine runR_call has ?_) | (with_reducible refine runR_call hms ?_) | (with_reducible refine runR_call ksizes_spec ?_) | (with_reducible refine runR_call hmk ?_) | (with_reducible refine runR_call hp3 ?_) | (with_reducible refine runR_call hwd ?_) | (with_reducible refine runR_call hmi1 ?_) | (with_reducible refine runR_call hmi2 ?_) | (with_reducible refine runR_call hop ?_) | (simp only [e4, e2, e16, e1]) | (simp only [w1]) | (simp only [w2]) | (simp only [hlen]) | ((with_reducible refine runR_callH 7 ?_ (hb1 _ _) (fun _ _ _ h => h) ?_); (exact rfl)) | ((with_reducible refine runR_callH 12 ?_ (hb1 _ _) (fun _ _ _ h => h) ?_); (exact rfl)))
          | (refine auD ?_)
          | (with_reducible refine runR_b (fun h => ?_) (fun h => ?_) <;> first | exact auH | simp only [h, runR_t, runR_f])
          | (with_reducible refine condK_bl ?_ ?_)
          | (with_reducible refine condK_b (fun h => ?_) (fun h => ?_) <;> first | exact auH | skip)
          | fail)
        (all_goals first | exact auP | skip)
        all_goals first
          | (exfalso; simp_all; done)
          | skip
        all_goals with_reducible refine ret_spec2 (by (try first | refine auR ?_ | exact auR0); (repeat' (first | exact trivial | exact rfl | exact nfLL_map (fun x => by simp [nfL, nfD, nfD, nfL, hnf]) | decide | apply And.intro))) ?_
        all_goals (try first | refine auR ?_ | exact auR0)
        all_goals (try simp only [hsM] at *)
    | false =>
      rw [if_neg Bool.false_ne_true]
      cases top with
      | true =>
        rw [if_pos rfl]
        dsimp only [HCspec, dHc, dKr, SegK.row]
        refine hspec_fn Try.func10 rfl ok_custref_HeardClient okr_custref_HeardClient rfl (by kernel_rfl) ?_
        intro Γ hW0 hN0 hL0
        have hW := hW0 rfl
        clear hW0 hN0 hL0
        unfold x_custref_HeardClient r_custref_HeardClient
        refine auC ?_
        repeat' (first
          | (refine auS ?_)
          | (first | (with_reducible refine runR_call hrf ?_) | (with_reducible refine runR_call hyt ?_) | (with_reducible refine runR_call hmi0 ?_) | (with_reducible refine runR_call hmv ?_) | (with_reducible refine runR_call hb0 ?_) | (with_reducible refine runR_call has ?_) | (with_reducible refine runR_call hms ?_) | (with_reducible refine runR_call ksizes_spec ?_) | (with_reducible refine runR_call hmk ?_) | (with_reducible refine runR_call hp3 ?_) | (with_reducible refine runR_call hwd ?_) | (with_reducible refine runR_call hmi1 ?_) | (with_reducible refine runR_call hmi2 ?_) | (with_reducible refine runR_call hop ?_) | (simp only [e4, e2, e16, e1]) | (simp only [w1]) | (simp only [w2]) | (simp only [hlen]) | ((with_reducible refine runR_callH 7 ?_ (hb1 _ _) (fun _ _ _ h => h) ?_); (exact rfl)) | ((with_reducible refine runR_callH 12 ?_ (hb1 _ _) (fun _ _ _ h => h) ?_); (exact rfl)))
          | (refine auD ?_)
          | (with_reducible refine runR_b (fun h => ?_) (fun h => ?_) <;> first | exact auH | simp only [h, runR_t, runR_f])
          | (with_reducible refine condK_bl ?_ ?_)
          | (with_reducible refine condK_b (fun h => ?_) (fun h => ?_) <;> first | exact auH | skip)
          | fail)
        (all_goals first | exact auP | skip)
        all_goals first
          | (exfalso; simp_all; done)
          | skip
        refine retq_le (leG_freezeO hW 3 6 (by decide) (ys := [[.v (.int .u64 k0), .v (.int .u64 k1), .v (.int .i64 sz), .snap 9 (((B ++ [Gd.mk tfr tto tfp ttp tseq tck tdl true now])).map Gd.enc) false, nilS, .snap 9 [(mvd g 0 ((0 - tdl) % 4294967296)).enc] false, .v (.int .i64 0)]]) rfl rfl ⟨⟨rfl, rfl, rfl, rfl, rfl, .inl ⟨rfl, rfl, Nat.le_refl _, rfl⟩, rfl, rfl⟩, rfl⟩) ?_
        all_goals with_reducible refine ret_spec2 (by (try first | refine auR ?_ | exact auR0); (repeat' (first | exact trivial | exact rfl | exact nfLL_map (fun x => by simp [nfL, nfD, nfD, nfL, hnf, hno]) | decide | apply And.intro))) ?_
        all_goals (try first | refine auR ?_ | exact auR0)
        all_goals (try simp only [hsM] at *)
      | false =>
        rw [if_neg Bool.false_ne_true]
        cases b16 with
        | true =>
          rw [if_pos rfl]
          dsimp only [HCspec, dHc, dKr, SegK.row]
          refine hspec_fn Try.func10 rfl ok_custref_HeardClient okr_custref_HeardClient rfl (by kernel_rfl) ?_
          intro Γ hW0 hN0 hL0
          have hW := hW0 rfl
          clear hW0 hN0 hL0
          unfold x_custref_HeardClient r_custref_HeardClient
          refine auC ?_
          repeat' (first
            | (refine auS ?_)
            | (first | (with_reducible refine runR_call hrf ?_) | (with_reducible refine runR_call hyt ?_) | (with_reducible refine runR_call hmi0 ?_) | (with_reducible refine runR_call hmv ?_) | (with_reducible refine runR_call hb0 ?_) | (with_reducible refine runR_call has ?_) | (with_reducible refine runR_call hms ?_) | (with_reducible refine runR_call ksizes_spec ?_) | (with_reducible refine runR_call hmk ?_) | (with_reducible refine runR_call hp3 ?_) | (with_reducible refine runR_call hwd ?_) | (with_reducible refine runR_call hmi1 ?_) | (with_reducible refine runR_call hmi2 ?_) | (with_reducible refine runR_call hop ?_) | (simp only [e4, e2, e16, e1]) | (simp only [w1]) | (simp only [w2]) | (simp only [hlen]) | ((with_reducible refine runR_callH 7 ?_ (hb1 _ _) (fun _ _ _ h => h) ?_); (exact rfl)) | ((with_reducible refine runR_callH 12 ?_ (hb1 _ _) (fun _ _ _ h => h) ?_); (exact rfl)))
            | (refine auD ?_)
            | (with_reducible refine runR_b (fun h => ?_) (fun h => ?_) <;> first | exact auH | simp only [h, runR_t, runR_f])
            | (with_reducible refine condK_bl ?_ ?_)
            | (with_reducible refine condK_b (fun h => ?_) (fun h => ?_) <;> first | exact auH | skip)
            | fail)
          (all_goals first | exact auP | skip)
          all_goals first
            | (exfalso; simp_all; done)
            | skip
          all_goals with_reducible refine ret_spec2 (by (try first | refine auR ?_ | exact auR0); (repeat' (first | exact trivial | exact rfl | exact nfLL_map (fun x => by simp [nfL, nfD, nfD, nfL, hnf]) | decide | apply And.intro))) ?_
          all_goals (try first | refine auR ?_ | exact auR0)
          all_goals (try simp only [hsM] at *)
        | false =>
          rw [if_neg Bool.false_ne_true]
          dsimp only [HCspec, dHc, dKr, SegK.row]
          refine hspec_fn Try.func10 rfl ok_custref_HeardClient okr_custref_HeardClient rfl (by kernel_rfl) ?_
          intro Γ hW0 hN0 hL0
          have hW := hW0 rfl
          clear hW0 hN0 hL0
          unfold x_custref_HeardClient r_custref_HeardClient
          refine auC ?_
          repeat' (first
            | (refine auS ?_)
            | (first | (with_reducible refine runR_call hrf ?_) | (with_reducible refine runR_call hyt ?_) | (with_reducible refine runR_call hmi0 ?_) | (with_reducible refine runR_call hmv ?_) | (with_reducible refine runR_call hb0 ?_) | (with_reducible refine runR_call has ?_) | (with_reducible refine runR_call hms ?_) | (with_reducible refine runR_call ksizes_spec ?_) | (with_reducible refine runR_call hmk ?_) | (with_reducible refine runR_call hp3 ?_) | (with_reducible refine runR_call hwd ?_) | (with_reducible refine runR_call hmi1 ?_) | (with_reducible refine runR_call hmi2 ?_) | (with_reducible refine runR_call hop ?_) | (simp only [e4, e2, e16, e1]) | (simp only [w1]) | (simp only [w2]) | (simp only [hlen]) | ((with_reducible refine runR_callH 7 ?_ (hb1 _ _) (fun _ _ _ h => h) ?_); (exact rfl)) | ((with_reducible refine runR_callH 12 ?_ (hb1 _ _) (fun _ _ _ h => h) ?_); (exact rfl)))
            | (refine auD ?_)
            | (with_reducible refine runR_b (fun h => ?_) (fun h => ?_) <;> first | exact auH | simp only [h, runR_t, runR_f])
            | (with_reducible refine condK_bl ?_ ?_)
            | (with_reducible refine condK_b (fun h => ?_) (fun h => ?_) <;> first | exact auH | skip)
            | fail)
          (all_goals first | exact auP | skip)
          all_goals first
            | (exfalso; simp_all; done)
            | skip
          all_goals with_reducible refine ret_spec2 (by (try first | refine auR ?_ | exact auR0); (repeat' (first | exact trivial | exact rfl | exact nfLL_map (fun x => by simp [nfL, nfD, nfD, nfL, hnf]) | decide | apply And.intro))) ?_
          all_goals (try first | refine auR ?_ | exact auR0)
          all_goals (try simp only [hsM] at *)
end Go.Proofs.Ytegejpieedckiaa
