/-
  A guard hears a client that no talk knows, in the reference.
-/
import Derived.Test.YtegejpieedckiaaProxQ
namespace Go.Proofs.Ytegejpieedckiaa
set_option linter.unusedVariables false
set_option linter.unusedSimpArgs false
theorem fnd_no (q : List Gd) (r : Rd) (hp : Apart q) (h : (fndL r q).2 = false) : fndL r q = (gd0, false) ∧ butR r q = q ∧ firstI (onR r) q 0 = -1 := by
  rcases firstI_cases (onR r) q 0 with ⟨h1, h2⟩ | ⟨i, t, h1, h2, h3, h4⟩
  · refine ⟨fnd_none r q _ h2, filter_all q (fun o ho => by rw [h2 o ho]; rfl), h1⟩
  · rcases roadL q r hp with ⟨g1, g2⟩ | ⟨j, u, g1, g2, g3, g4⟩
    · rw [h4] at g1
      omega
    · rw [g4] at h
      cases h
set_option maxRecDepth 8000 in
set_option maxHeartbeats 8000000 in
theorem heardC_S3 (k0 k1 sz now : Int) (ms : List Gd) (r : Rd) (g : Sg) (hl : ms.length ≤ maxLen) (hr : U32 r.fr ∧ U32 r.to) (hg : SegOk g) (hg2 : SegArg g) (he : refG sz ms r g now = 0) (hf : (fndL r (yngG now ms)).2 = false) (hs1 : ¬ (hasF g 2 = true ∧ hasF g 16 = false ∧ hasF g 1 = false ∧ hasF g 4 = false)) (hs2 : ¬ (hasF g 16 = true ∧ hasF g 2 = false ∧ hasF g 4 = false)) : HCspec k0 k1 sz now ms r g ((yngG now ms, none, none), 0) := by
  have hrf := pxrefused_spec k0 k1 sz now ms r g hl hr hg
  have hnf : ∀ g (l : List Gd), nfLL g (l.map Gd.enc) := nf_gd
  have hno := nf_opt
  rw [he] at hrf
  obtain ⟨hl64, hap, hat, hnow⟩ := ref_ok he
  clear he
  have hyt := youngTalks_spec k0 k1 sz now ms r hl64 hnow hat
  have hql : (yngG now ms).length ≤ 64 := Nat.le_trans (List.length_filter_le _ _) hl64
  have e1 := has_pos g 1 (and_nn g.flags 1 (by decide))
  have e2 := has_pos g 2 (and_nn g.flags 2 (by decide))
  have e4 := has_pos g 4 (and_nn g.flags 4 (by decide))
  have e16 := has_pos g 16 (and_nn g.flags 16 (by decide))
  obtain ⟨hf1, hbq, -⟩ := fnd_no (yngG now ms) r (apart_yng hap) hf
  rw [hf1] at hyt
  unfold gd0 at hyt
  clear hf hf1
  generalize yngG now ms = q at *
  clear hap hat
  have hmi0 := minus_spec 0 0 (by decide) (by decide)
  have hmv := moved_spec g 0 ((0 - 0) % 4294967296) hg2.1 hg2.2.1 hg2.2.2.1 (by decide) (by decide) hg2.2.2.2.1 hg2.2.2.2.2
  have w1 : IntKind.i64.wrap (now.tdiv 64) = now / 64 := by rw [Int.tdiv_eq_ediv_of_nonneg hnow.1, IntWalk.i64_in _ (by omega)]
  have w2 : (now / 64).tmod 32 = cnt now := Int.tmod_eq_emod_of_nonneg (by omega)
  have hlen : (q.map Gd.enc).length = q.length := List.length_map _
  have hp3 := plus_spec g.seq 1 hg2.2.2.2.1 (by decide)
  have hmi1 := minus_spec g.seq 1 hg2.2.2.2.1 (by decide)
  have hmi2 := minus_spec g.ack 1 hg2.2.2.2.2 (by decide)
  have hop := opened_spec k0 k1 r.fr r.to r.fp r.tp ((g.seq - 1) % 4294967296) ((g.ack - 1) % 4294967296) (cnt now) hr.1 hr.2 (by omega) (by omega)
  generalize hh4 : hasF g 4 = b4 at *
  generalize hh2 : hasF g 2 = b2 at *
  generalize hh16 : hasF g 16 = b16 at *
  generalize hh1 : hasF g 1 = b1 at *
  clear hh4 hh2 hh16 hh1
  dsimp only [HCspec, dHc, dKr]
  cases b2 <;> cases b16 <;> cases b1 <;> cases b4
  all_goals first
    | (exfalso; simp at hs1; done)
    | (exfalso; simp at hs2; done)
    | skip
  all_goals
    clear hs1 hs2
    refine hspec_fn Try.func10 rfl ok_custref_HeardClient okr_custref_HeardClient rfl (by kernel_rfl) ?_
    intro Γ hW0 hN0 hL0
    have hW := hW0 rfl
    clear hW0 hN0 hL0
    unfold x_custref_HeardClient r_custref_HeardClient
    refine auC ?_
    repeat' (first
      | (refine auS ?_)
      | (first | (with_reducible refine runR_call hrf ?_) | (with_reducible refine runR_call hyt ?_) | (with_reducible refine runR_call hmi0 ?_) | (with_reducible refine runR_call hmv ?_) | (with_reducible refine runR_call hb0 ?_) | (with_reducible refine runR_call has ?_) | (with_reducible refine runR_call hms ?_) | (with_reducible refine runR_call ksizes_spec ?_) | (with_reducible refine runR_call hmk ?_) | (with_reducible refine runR_call hp3 ?_) | (with_reducible refine runR_call hwd ?_) | (with_reducible refine runR_call hmi1 ?_) | (with_reducible refine runR_call hmi2 ?_) | (with_reducible refine runR_call hop ?_) | (simp only [e4, e2, e16, e1]) | (simp only [w1]) | (simp only [w2]) | (simp only [hlen]) | ((with_reducible refine runR_callH 7 ?_ (hb1 _ _) (fun _ _ _ h => h) ?_); (exact rfl)) | ((with_reducible refine runR_callH 12 ?_ (hb1 _ _) (fun _ _ _ h => h) ?_); (exact rfl)))
      | (refine auD ?_)
      | (with_reducible refine runR_b (fun h => ?_) (fun h => ?_) <;> first | exact auH | simp only [h, runR_t, runR_f])
      | (with_reducible refine condK_bl ?_ ?_)
      | (with_reducible refine condK_b (fun h => ?_) (fun h => ?_) <;> first | exact auH | skip)
      | fail)
    (all_goals first | exact auP | skip)
    all_goals first
      | (exfalso; simp_all; done)
      | skip
    all_goals with_reducible refine ret_spec2 (by (try first | refine auR ?_ | exact auR0); (repeat' (first | exact trivial | exact rfl | exact nfLL_map (fun x => by simp [nfL, nfD, nfD, nfL, hnf]) | decide | apply And.intro))) ?_
    all_goals (try first | refine auR ?_ | exact auR0)
    all_goals (try simp only [hsM] at *)
set_option maxRecDepth 8000 in
set_option maxHeartbeats 8000000 in
theorem heardC_S2 (k0 k1 sz now : Int) (ms : List Gd) (r : Rd) (g : Sg) (hl : ms.length ≤ maxLen) (hr : U32 r.fr ∧ U32 r.to) (hg : SegOk g) (hg2 : SegArg g) (he : refG sz ms r g now = 0) (hf : (fndL r (yngG now ms)).2 = false) (hs2 : hasF g 16 = true ∧ hasF g 2 = false ∧ hasF g 4 = false) : HCspec k0 k1 sz now ms r g (if ¬ (opnC k0 k1 r g now).2 = 0 then ((yngG now ms, some (.n (sgRst g)), none), 0)
     else if (yngG now ms).length = 64 then ((ms, none, none), 6)
     else ((yngG now ms ++ [newT r g now], none, some (.a (sgAsk (newT r g now) (opnC k0 k1 r g now).1))), 0)) := by
  have hrf := pxrefused_spec k0 k1 sz now ms r g hl hr hg
  have hnf : ∀ g (l : List Gd), nfLL g (l.map Gd.enc) := nf_gd
  have hno := nf_opt
  rw [he] at hrf
  obtain ⟨hl64, hap, hat, hnow⟩ := ref_ok he
  clear he
  have hyt := youngTalks_spec k0 k1 sz now ms r hl64 hnow hat
  have hql : (yngG now ms).length ≤ 64 := Nat.le_trans (List.length_filter_le _ _) hl64
  have e1 := has_pos g 1 (and_nn g.flags 1 (by decide))
  have e2 := has_pos g 2 (and_nn g.flags 2 (by decide))
  have e4 := has_pos g 4 (and_nn g.flags 4 (by decide))
  have e16 := has_pos g 16 (and_nn g.flags 16 (by decide))
  obtain ⟨hf1, hbq, -⟩ := fnd_no (yngG now ms) r (apart_yng hap) hf
  rw [hf1] at hyt
  unfold gd0 at hyt
  clear hf hf1
  generalize yngG now ms = q at *
  clear hap hat
  have hmi0 := minus_spec 0 0 (by decide) (by decide)
  have hmv := moved_spec g 0 ((0 - 0) % 4294967296) hg2.1 hg2.2.1 hg2.2.2.1 (by decide) (by decide) hg2.2.2.2.1 hg2.2.2.2.2
  have w1 : IntKind.i64.wrap (now.tdiv 64) = now / 64 := by rw [Int.tdiv_eq_ediv_of_nonneg hnow.1, IntWalk.i64_in _ (by omega)]
  have w2 : (now / 64).tmod 32 = cnt now := Int.tmod_eq_emod_of_nonneg (by omega)
  have hlen : (q.map Gd.enc).length = q.length := List.length_map _
  have hp3 := plus_spec g.seq 1 hg2.2.2.2.1 (by decide)
  have hmi1 := minus_spec g.seq 1 hg2.2.2.2.1 (by decide)
  have hmi2 := minus_spec g.ack 1 hg2.2.2.2.2 (by decide)
  have hop := opened_spec k0 k1 r.fr r.to r.fp r.tp ((g.seq - 1) % 4294967296) ((g.ack - 1) % 4294967296) (cnt now) hr.1 hr.2 (by omega) (by omega)
  generalize hh4 : hasF g 4 = b4 at *
  generalize hh2 : hasF g 2 = b2 at *
  generalize hh16 : hasF g 16 = b16 at *
  generalize hh1 : hasF g 1 = b1 at *
  clear hh4 hh2 hh16 hh1
  obtain ⟨rfl, rfl, rfl⟩ := hs2
  unfold opnC
  have hnn := opR_nn k0 k1 r.fr r.to r.fp r.tp ((g.seq - 1) % 4294967296) ((g.ack - 1) % 4294967296) (cnt now)
  generalize opR k0 k1 r.fr r.to r.fp r.tp ((g.seq - 1) % 4294967296) ((g.ack - 1) % 4294967296) (cnt now) = x at *
  obtain ⟨x1, x2⟩ := x
  dsimp only at *
  have hb1 := fun fu n => but1_spec k0 k1 sz q r (newT r g now) fu 12 n hql
  rw [hbq] at hb1
  have has := askOf_spec (newT r g now) x1 hnn
  by_cases hx : x2 = 0
  rotate_left
  · rw [if_pos hx]
    dsimp only [HCspec, dHc, dKr, SegK.row]
    refine hspec_fn Try.func10 rfl ok_custref_HeardClient okr_custref_HeardClient rfl (by kernel_rfl) ?_
    intro Γ hW0 hN0 hL0
    have hW := hW0 rfl
    clear hW0 hN0 hL0
    unfold x_custref_HeardClient r_custref_HeardClient
    refine auC ?_
    repeat' (first
      | (refine auS ?_)
      | (first | (with_reducible refine runR_call hrf ?_) | (with_reducible refine runR_call hyt ?_) | (with_reducible refine runR_call hmi0 ?_) | (with_reducible refine runR_call hmv ?_) | (with_reducible refine runR_call hb0 ?_) | (with_reducible refine runR_call has ?_) | (with_reducible refine runR_call hms ?_) | (with_reducible refine runR_call ksizes_spec ?_) | (with_reducible refine runR_call hmk ?_) | (with_reducible refine runR_call hp3 ?_) | (with_reducible refine runR_call hwd ?_) | (with_reducible refine runR_call hmi1 ?_) | (with_reducible refine runR_call hmi2 ?_) | (with_reducible refine runR_call hop ?_) | (simp only [e4, e2, e16, e1]) | (simp only [w1]) | (simp only [w2]) | (simp only [hlen]) | ((with_reducible refine runR_callH 7 ?_ (hb1 _ _) (fun _ _ _ h => h) ?_); (exact rfl)) | ((with_reducible refine runR_callH 12 ?_ (hb1 _ _) (fun _ _ _ h => h) ?_); (exact rfl)))
      | (refine auD ?_)
      | (with_reducible refine runR_b (fun h => ?_) (fun h => ?_) <;> first | exact auH | simp only [h, runR_t, runR_f])
      | (with_reducible refine condK_bl ?_ ?_)
      | (with_reducible refine condK_b (fun h => ?_) (fun h => ?_) <;> first | exact auH | skip)
      | fail)
    (all_goals first | exact auP | skip)
    all_goals first
      | (exfalso; simp_all; done)
      | skip
    refine retq_le (leG_freezeO hW 3 11 (by decide) (ys := [[.v (.int .u64 k0), .v (.int .u64 k1), .v (.int .i64 sz), .snap 9 ((q).map Gd.enc) false, .snap 9 [(sgRst g).encN] false, nilS, .v (.int .i64 0)]]) rfl rfl ⟨⟨rfl, rfl, rfl, rfl, .inl ⟨rfl, rfl, Nat.le_refl _, rfl⟩, rfl, rfl, rfl⟩, rfl⟩) ?_
    all_goals with_reducible refine ret_spec2 (by (try first | refine auR ?_ | exact auR0); (repeat' (first | exact trivial | exact rfl | exact nfLL_map (fun x => by simp [nfL, nfD, nfD, nfL, hnf, hno]) | decide | apply And.intro))) ?_
    all_goals (try first | refine auR ?_ | exact auR0)
    all_goals (try simp only [hsM] at *)
  rw [if_neg (not_not_intro hx)]
  subst hx
  by_cases h64 : q.length = 64
  · rw [if_pos h64]
    dsimp only [HCspec, dHc, dKr, SegK.row]
    refine hspec_fn Try.func10 rfl ok_custref_HeardClient okr_custref_HeardClient rfl (by kernel_rfl) ?_
    intro Γ hW0 hN0 hL0
    have hW := hW0 rfl
    clear hW0 hN0 hL0
    unfold x_custref_HeardClient r_custref_HeardClient
    refine auC ?_
    repeat' (first
      | (refine auS ?_)
      | (first | (with_reducible refine runR_call hrf ?_) | (with_reducible refine runR_call hyt ?_) | (with_reducible refine runR_call hmi0 ?_) | (with_reducible refine runR_call hmv ?_) | (with_reducible refine runR_call hb0 ?_) | (with_reducible refine runR_call has ?_) | (with_reducible refine runR_call hms ?_) | (with_reducible refine runR_call ksizes_spec ?_) | (with_reducible refine runR_call hmk ?_) | (with_reducible refine runR_call hp3 ?_) | (with_reducible refine runR_call hwd ?_) | (with_reducible refine runR_call hmi1 ?_) | (with_reducible refine runR_call hmi2 ?_) | (with_reducible refine runR_call hop ?_) | (simp only [e4, e2, e16, e1]) | (simp only [w1]) | (simp only [w2]) | (simp only [hlen]) | ((with_reducible refine runR_callH 7 ?_ (hb1 _ _) (fun _ _ _ h => h) ?_); (exact rfl)) | ((with_reducible refine runR_callH 12 ?_ (hb1 _ _) (fun _ _ _ h => h) ?_); (exact rfl)))
      | (refine auD ?_)
      | (with_reducible refine runR_b (fun h => ?_) (fun h => ?_) <;> first | exact auH | simp only [h, runR_t, runR_f])
      | (with_reducible refine condK_bl ?_ ?_)
      | (with_reducible refine condK_b (fun h => ?_) (fun h => ?_) <;> first | exact auH | skip)
      | fail)
    (all_goals first | exact auP | skip)
    all_goals first
      | (exfalso; simp_all; done)
      | skip
    all_goals with_reducible refine ret_spec2 (by (try first | refine auR ?_ | exact auR0); (repeat' (first | exact trivial | exact rfl | exact nfLL_map (fun x => by simp [nfL, nfD, nfD, nfL, hnf]) | decide | apply And.intro))) ?_
    all_goals (try first | refine auR ?_ | exact auR0)
    all_goals (try simp only [hsM] at *)
  · rw [if_neg h64]
    dsimp only [HCspec, dHc, dKr, SegK.row]
    refine hspec_fn Try.func10 rfl ok_custref_HeardClient okr_custref_HeardClient rfl (by kernel_rfl) ?_
    intro Γ hW0 hN0 hL0
    have hW := hW0 rfl
    clear hW0 hN0 hL0
    unfold x_custref_HeardClient r_custref_HeardClient
    refine auC ?_
    repeat' (first
      | (refine auS ?_)
      | (first | (with_reducible refine runR_call hrf ?_) | (with_reducible refine runR_call hyt ?_) | (with_reducible refine runR_call hmi0 ?_) | (with_reducible refine runR_call hmv ?_) | (with_reducible refine runR_call hb0 ?_) | (with_reducible refine runR_call has ?_) | (with_reducible refine runR_call hms ?_) | (with_reducible refine runR_call ksizes_spec ?_) | (with_reducible refine runR_call hmk ?_) | (with_reducible refine runR_call hp3 ?_) | (with_reducible refine runR_call hwd ?_) | (with_reducible refine runR_call hmi1 ?_) | (with_reducible refine runR_call hmi2 ?_) | (with_reducible refine runR_call hop ?_) | (simp only [e4, e2, e16, e1]) | (simp only [w1]) | (simp only [w2]) | (simp only [hlen]) | ((with_reducible refine runR_callH 7 ?_ (hb1 _ _) (fun _ _ _ h => h) ?_); (exact rfl)) | ((with_reducible refine runR_callH 12 ?_ (hb1 _ _) (fun _ _ _ h => h) ?_); (exact rfl)))
      | (refine auD ?_)
      | (with_reducible refine runR_b (fun h => ?_) (fun h => ?_) <;> first | exact auH | simp only [h, runR_t, runR_f])
      | (with_reducible refine condK_bl ?_ ?_)
      | (with_reducible refine condK_b (fun h => ?_) (fun h => ?_) <;> first | exact auH | skip)
      | fail)
    (all_goals first | exact auP | skip)
    all_goals first
      | (exfalso; simp_all; done)
      | skip
    all_goals with_reducible refine ret_spec2 (by (try first | refine auR ?_ | exact auR0); (repeat' (first | exact trivial | exact rfl | exact nfLL_map (fun x => by simp [nfL, nfD, nfD, nfL, hnf]) | decide | apply And.intro))) ?_
    all_goals (try first | refine auR ?_ | exact auR0)
    all_goals (try simp only [hsM] at *)
set_option maxRecDepth 8000 in
set_option maxHeartbeats 8000000 in
theorem heardC_S1 (k0 k1 sz now : Int) (ms : List Gd) (r : Rd) (g : Sg) (hl : ms.length ≤ maxLen) (hr : U32 r.fr ∧ U32 r.to) (hg : SegOk g) (hg2 : SegArg g) (hsz : 0 ≤ sz) (he : refG sz ms r g now = 0) (hf : (fndL r (yngG now ms)).2 = false) (hs1 : hasF g 2 = true ∧ hasF g 16 = false ∧ hasF g 1 = false ∧ hasF g 4 = false) : HCspec k0 k1 sz now ms r g ((yngG now ms, some (.o (sgSyn sz g (synC k0 k1 r g now))), none), 0) := by
  have hrf := pxrefused_spec k0 k1 sz now ms r g hl hr hg
  have hnf : ∀ g (l : List Gd), nfLL g (l.map Gd.enc) := nf_gd
  have hno := nf_opt
  rw [he] at hrf
  obtain ⟨hl64, hap, hat, hnow⟩ := ref_ok he
  clear he
  have hyt := youngTalks_spec k0 k1 sz now ms r hl64 hnow hat
  have hql : (yngG now ms).length ≤ 64 := Nat.le_trans (List.length_filter_le _ _) hl64
  have e1 := has_pos g 1 (and_nn g.flags 1 (by decide))
  have e2 := has_pos g 2 (and_nn g.flags 2 (by decide))
  have e4 := has_pos g 4 (and_nn g.flags 4 (by decide))
  have e16 := has_pos g 16 (and_nn g.flags 16 (by decide))
  obtain ⟨hf1, hbq, -⟩ := fnd_no (yngG now ms) r (apart_yng hap) hf
  rw [hf1] at hyt
  unfold gd0 at hyt
  clear hf hf1
  generalize yngG now ms = q at *
  clear hap hat
  have hmi0 := minus_spec 0 0 (by decide) (by decide)
  have hmv := moved_spec g 0 ((0 - 0) % 4294967296) hg2.1 hg2.2.1 hg2.2.2.1 (by decide) (by decide) hg2.2.2.2.1 hg2.2.2.2.2
  have w1 : IntKind.i64.wrap (now.tdiv 64) = now / 64 := by rw [Int.tdiv_eq_ediv_of_nonneg hnow.1, IntWalk.i64_in _ (by omega)]
  have w2 : (now / 64).tmod 32 = cnt now := Int.tmod_eq_emod_of_nonneg (by omega)
  have hlen : (q.map Gd.enc).length = q.length := List.length_map _
  have hp3 := plus_spec g.seq 1 hg2.2.2.2.1 (by decide)
  have hmi1 := minus_spec g.seq 1 hg2.2.2.2.1 (by decide)
  have hmi2 := minus_spec g.ack 1 hg2.2.2.2.2 (by decide)
  have hop := opened_spec k0 k1 r.fr r.to r.fp r.tp ((g.seq - 1) % 4294967296) ((g.ack - 1) % 4294967296) (cnt now) hr.1 hr.2 (by omega) (by omega)
  generalize hh4 : hasF g 4 = b4 at *
  generalize hh2 : hasF g 2 = b2 at *
  generalize hh16 : hasF g 16 = b16 at *
  generalize hh1 : hasF g 1 = b1 at *
  clear hh4 hh2 hh16 hh1
  obtain ⟨rfl, rfl, rfl, rfl⟩ := hs1
  have hms := mssOf_spec g hg2.1
  have hmk := cookieOf_spec k0 k1 r.fr r.to r.fp r.tp g.seq (cnt now) (atI (mssN g) 8) hr.1 hr.2 hg2.2.2.2.1
  have hwd := word_spec sz hsz
  unfold synC
  generalize ckR k0 k1 r.fr r.to r.fp r.tp g.seq (cnt now) (atI (mssN g) 8) = x at *
  obtain ⟨x1, x2⟩ := x
  generalize hai : atI (mssN g) 8 = ai at *
  unfold mssN at hai
  generalize mssR g.opts = y at *
  obtain ⟨y1, y2⟩ := y
  dsimp only at *
  dsimp only [HCspec, dHc, dKr, SegK.row]
  cases y2 with
  | true =>
    rw [if_pos rfl] at hai
    generalize hsz1 : y1 = sz1 at *
    refine hspec_fn Try.func10 rfl ok_custref_HeardClient okr_custref_HeardClient rfl (by kernel_rfl) ?_
    intro Γ hW0 hN0 hL0
    have hW := hW0 rfl
    clear hW0 hN0 hL0
    unfold x_custref_HeardClient r_custref_HeardClient
    refine auC ?_
    repeat' (first
      | (refine auS ?_)
      | (first | (with_reducible refine runR_call hrf ?_) | (with_reducible refine runR_call hyt ?_) | (with_reducible refine runR_call hmi0 ?_) | (with_reducible refine runR_call hmv ?_) | (with_reducible refine runR_call hb0 ?_) | (with_reducible refine runR_call has ?_) | (with_reducible refine runR_call hms ?_) | (with_reducible refine runR_call ksizes_spec ?_) | (with_reducible refine runR_call hmk ?_) | (with_reducible refine runR_call hp3 ?_) | (with_reducible refine runR_call hwd ?_) | (with_reducible refine runR_call hmi1 ?_) | (with_reducible refine runR_call hmi2 ?_) | (with_reducible refine runR_call hop ?_) | (simp only [e4, e2, e16, e1]) | (simp only [w1]) | (simp only [w2]) | (simp only [hlen]) | ((with_reducible refine runR_callH 7 ?_ (hb1 _ _) (fun _ _ _ h => h) ?_); (exact rfl)) | ((with_reducible refine runR_callH 12 ?_ (hb1 _ _) (fun _ _ _ h => h) ?_); (exact rfl)))
      | (refine auD ?_)
      | (with_reducible refine runR_b (fun h => ?_) (fun h => ?_) <;> first | exact auH | simp only [h, runR_t, runR_f])
      | (with_reducible refine condK_bl ?_ ?_)
      | (with_reducible refine condK_b (fun h => ?_) (fun h => ?_) <;> first | exact auH | skip)
      | fail)
    (all_goals first | exact auP | skip)
    all_goals first
      | (exfalso; simp_all; done)
      | skip
    refine go_loopH (α := Nat) (fun i => [(⟨.d0, .d2, .d4⟩, .v (.int .i64 (atI sz1 i))), (⟨.d2, .d1, .d0⟩, .v (.int .i64 (i : Nat)))]) (fun _ => []) (fun _ => Γ.g0 + 7) (fun i => 8 - i) (fun i => i ≤ 8) 0 (by decide) ?_ ?_
    · skip
      refine le_mk ?_ ?_ (Nat.le_refl _)
      all_goals first | refine auE ?_ | exact auE0
      all_goals (repeat' (first | exact trivial | exact rfl | apply And.intro))
    intro i hi
    dsimp only at hi ⊢
    refine auL ?_
    by_cases hlt : i < 8
    · have ex := szR_at i hlt
      by_cases hn : sz8 i ≤ sz1
      · have ha := atI_yes hn
        generalize sz8 i = z at *
        repeat' (first
          | (refine auS ?_)
          | (simp only [Int.toNat_natCast, ex])
          | (refine auD ?_)
          | (with_reducible refine runR_b (fun h => ?_) (fun h => ?_) <;> first | exact auH | simp only [h, runR_t, runR_f])
          | (with_reducible refine condK_bl ?_ ?_)
          | (with_reducible refine condK_b (fun h => ?_) (fun h => ?_) <;> first | exact auH | skip)
          | fail)
        (all_goals first | exact auP | skip)
        all_goals first
          | (exfalso; simp_all; done)
          | skip
        refine nx_loop ⟨i + 1, hlt, by omega, ?_⟩
        rw [ha]
        refine le_mk ?_ ?_ (Nat.le_refl _)
        all_goals first | refine auE ?_ | exact auE0
        all_goals (repeat' (first | exact trivial | exact rfl | apply And.intro))
        all_goals exact dint ((IntWalk.i64_in _ (by omega)).trans (by omega))
      · have ha := atI_no hn
        generalize sz8 i = z at *
        repeat' (first
          | (refine auS ?_)
          | (simp only [Int.toNat_natCast, ex])
          | (refine auD ?_)
          | (with_reducible refine runR_b (fun h => ?_) (fun h => ?_) <;> first | exact auH | simp only [h, runR_t, runR_f])
          | (with_reducible refine condK_bl ?_ ?_)
          | (with_reducible refine condK_b (fun h => ?_) (fun h => ?_) <;> first | exact auH | skip)
          | fail)
        (all_goals first | exact auP | skip)
        all_goals first
          | (exfalso; simp_all; done)
          | skip
        refine nx_loop ⟨i + 1, hlt, by omega, ?_⟩
        rw [ha]
        refine le_mk ?_ ?_ (Nat.le_refl _)
        all_goals first | refine auE ?_ | exact auE0
        all_goals (repeat' (first | exact trivial | exact rfl | apply And.intro))
        all_goals exact dint ((IntWalk.i64_in _ (by omega)).trans (by omega))
    obtain rfl : i = 8 := by omega
    rw [hai]
    repeat' (first
      | (refine auS ?_)
      | (first | (with_reducible refine runR_call hrf ?_) | (with_reducible refine runR_call hyt ?_) | (with_reducible refine runR_call hmi0 ?_) | (with_reducible refine runR_call hmv ?_) | (with_reducible refine runR_call hb0 ?_) | (with_reducible refine runR_call has ?_) | (with_reducible refine runR_call hms ?_) | (with_reducible refine runR_call ksizes_spec ?_) | (with_reducible refine runR_call hmk ?_) | (with_reducible refine runR_call hp3 ?_) | (with_reducible refine runR_call hwd ?_) | (with_reducible refine runR_call hmi1 ?_) | (with_reducible refine runR_call hmi2 ?_) | (with_reducible refine runR_call hop ?_) | (simp only [e4, e2, e16, e1]) | (simp only [w1]) | (simp only [w2]) | (simp only [hlen]) | ((with_reducible refine runR_callH 7 ?_ (hb1 _ _) (fun _ _ _ h => h) ?_); (exact rfl)) | ((with_reducible refine runR_callH 12 ?_ (hb1 _ _) (fun _ _ _ h => h) ?_); (exact rfl)))
      | (refine auD ?_)
      | (with_reducible refine runR_b (fun h => ?_) (fun h => ?_) <;> first | exact auH | simp only [h, runR_t, runR_f])
      | (with_reducible refine condK_bl ?_ ?_)
      | (with_reducible refine condK_b (fun h => ?_) (fun h => ?_) <;> first | exact auH | skip)
      | fail)
    (all_goals first | exact auP | skip)
    all_goals first
      | (exfalso; simp_all; done)
      | skip
    refine retq_le (leG_freezeO hW 9 8 (by decide) (ys := [(sgSyn sz g x1).encC false]) rfl rfl ⟨⟨rfl, rfl, rfl, rfl, rfl, rfl, rfl, .inl ⟨rfl, rfl, Nat.le_refl _, rfl⟩, rfl, rfl⟩, rfl⟩) ?_
    refine retq_le (leG_freezeO hW 3 9 (by decide) (ys := [[.v (.int .u64 k0), .v (.int .u64 k1), .v (.int .i64 sz), .snap 9 ((q).map Gd.enc) false, .snap 9 [(sgSyn sz g x1).encC false] false, nilS, .v (.int .i64 0)]]) rfl rfl ⟨⟨rfl, rfl, rfl, rfl, .inl ⟨rfl, rfl, Nat.le_refl _, rfl⟩, rfl, rfl, rfl⟩, rfl⟩) ?_
    all_goals with_reducible refine ret_spec2 (by (try first | refine auR ?_ | exact auR0); (repeat' (first | exact trivial | exact rfl | exact nfLL_map (fun x => by simp [nfL, nfD, nfD, nfL, hnf, hno]) | decide | apply And.intro))) ?_
    all_goals (try first | refine auR ?_ | exact auR0)
    all_goals (try simp only [hsM] at *)
  | false =>
    rw [if_neg Bool.false_ne_true] at hai
    generalize hsz1 : (536 : Int) = sz1 at *
    refine hspec_fn Try.func10 rfl ok_custref_HeardClient okr_custref_HeardClient rfl (by kernel_rfl) ?_
    intro Γ hW0 hN0 hL0
    have hW := hW0 rfl
    clear hW0 hN0 hL0
    unfold x_custref_HeardClient r_custref_HeardClient
    refine auC ?_
    repeat' (first
      | (refine auS ?_)
      | (first | (with_reducible refine runR_call hrf ?_) | (with_reducible refine runR_call hyt ?_) | (with_reducible refine runR_call hmi0 ?_) | (with_reducible refine runR_call hmv ?_) | (with_reducible refine runR_call hb0 ?_) | (with_reducible refine runR_call has ?_) | (with_reducible refine runR_call hms ?_) | (with_reducible refine runR_call ksizes_spec ?_) | (with_reducible refine runR_call hmk ?_) | (with_reducible refine runR_call hp3 ?_) | (with_reducible refine runR_call hwd ?_) | (with_reducible refine runR_call hmi1 ?_) | (with_reducible refine runR_call hmi2 ?_) | (with_reducible refine runR_call hop ?_) | (simp only [e4, e2, e16, e1]) | (simp only [w1]) | (simp only [w2]) | (simp only [hlen]) | ((with_reducible refine runR_callH 7 ?_ (hb1 _ _) (fun _ _ _ h => h) ?_); (exact rfl)) | ((with_reducible refine runR_callH 12 ?_ (hb1 _ _) (fun _ _ _ h => h) ?_); (exact rfl)))
      | (refine auD ?_)
      | (with_reducible refine runR_b (fun h => ?_) (fun h => ?_) <;> first | exact auH | simp only [h, runR_t, runR_f])
      | (with_reducible refine condK_bl ?_ ?_)
      | (with_reducible refine condK_b (fun h => ?_) (fun h => ?_) <;> first | exact auH | skip)
      | fail)
    (all_goals first | exact auP | skip)
    all_goals first
      | (exfalso; simp_all; done)
      | skip
    refine go_loopH (α := Nat) (fun i => [(⟨.d0, .d2, .d4⟩, .v (.int .i64 (atI sz1 i))), (⟨.d2, .d1, .d0⟩, .v (.int .i64 (i : Nat)))]) (fun _ => []) (fun _ => Γ.g0 + 7) (fun i => 8 - i) (fun i => i ≤ 8) 0 (by decide) ?_ ?_
    · skip
      refine le_mk ?_ ?_ (Nat.le_refl _)
      all_goals first | refine auE ?_ | exact auE0
      all_goals (repeat' (first | exact trivial | exact rfl | apply And.intro))
    intro i hi
    dsimp only at hi ⊢
    refine auL ?_
    by_cases hlt : i < 8
    · have ex := szR_at i hlt
      by_cases hn : sz8 i ≤ sz1
      · have ha := atI_yes hn
        generalize sz8 i = z at *
        repeat' (first
          | (refine auS ?_)
          | (simp only [Int.toNat_natCast, ex])
          | (refine auD ?_)
          | (with_reducible refine runR_b (fun h => ?_) (fun h => ?_) <;> first | exact auH | simp only [h, runR_t, runR_f])
          | (with_reducible refine condK_bl ?_ ?_)
          | (with_reducible refine condK_b (fun h => ?_) (fun h => ?_) <;> first | exact auH | skip)
          | fail)
        (all_goals first | exact auP | skip)
        all_goals first
          | (exfalso; simp_all; done)
          | skip
        refine nx_loop ⟨i + 1, hlt, by omega, ?_⟩
        rw [ha]
        refine le_mk ?_ ?_ (Nat.le_refl _)
        all_goals first | refine auE ?_ | exact auE0
        all_goals (repeat' (first | exact trivial | exact rfl | apply And.intro))
        all_goals exact dint ((IntWalk.i64_in _ (by omega)).trans (by omega))
      · have ha := atI_no hn
        generalize sz8 i = z at *
        repeat' (first
          | (refine auS ?_)
          | (simp only [Int.toNat_natCast, ex])
          | (refine auD ?_)
          | (with_reducible refine runR_b (fun h => ?_) (fun h => ?_) <;> first | exact auH | simp only [h, runR_t, runR_f])
          | (with_reducible refine condK_bl ?_ ?_)
          | (with_reducible refine condK_b (fun h => ?_) (fun h => ?_) <;> first | exact auH | skip)
          | fail)
        (all_goals first | exact auP | skip)
        all_goals first
          | (exfalso; simp_all; done)
          | skip
        refine nx_loop ⟨i + 1, hlt, by omega, ?_⟩
        rw [ha]
        refine le_mk ?_ ?_ (Nat.le_refl _)
        all_goals first | refine auE ?_ | exact auE0
        all_goals (repeat' (first | exact trivial | exact rfl | apply And.intro))
        all_goals exact dint ((IntWalk.i64_in _ (by omega)).trans (by omega))
    obtain rfl : i = 8 := by omega
    rw [hai]
    repeat' (first
      | (refine auS ?_)
      | (first | (with_reducible refine runR_call hrf ?_) | (with_reducible refine runR_call hyt ?_) | (with_reducible refine runR_call hmi0 ?_) | (with_reducible refine runR_call hmv ?_) | (with_reducible refine runR_call hb0 ?_) | (with_reducible refine runR_call has ?_) | (with_reducible refine runR_call hms ?_) | (with_reducible refine runR_call ksizes_spec ?_) | (with_reducible refine runR_call hmk ?_) | (with_reducible refine runR_call hp3 ?_) | (with_reducible refine runR_call hwd ?_) | (with_reducible refine runR_call hmi1 ?_) | (with_reducible refine runR_call hmi2 ?_) | (with_reducible refine runR_call hop ?_) | (simp only [e4, e2, e16, e1]) | (simp only [w1]) | (simp only [w2]) | (simp only [hlen]) | ((with_reducible refine runR_callH 7 ?_ (hb1 _ _) (fun _ _ _ h => h) ?_); (exact rfl)) | ((with_reducible refine runR_callH 12 ?_ (hb1 _ _) (fun _ _ _ h => h) ?_); (exact rfl)))
      | (refine auD ?_)
      | (with_reducible refine runR_b (fun h => ?_) (fun h => ?_) <;> first | exact auH | simp only [h, runR_t, runR_f])
      | (with_reducible refine condK_bl ?_ ?_)
      | (with_reducible refine condK_b (fun h => ?_) (fun h => ?_) <;> first | exact auH | skip)
      | fail)
    (all_goals first | exact auP | skip)
    all_goals first
      | (exfalso; simp_all; done)
      | skip
    refine retq_le (leG_freezeO hW 9 8 (by decide) (ys := [(sgSyn sz g x1).encC false]) rfl rfl ⟨⟨rfl, rfl, rfl, rfl, rfl, rfl, rfl, .inl ⟨rfl, rfl, Nat.le_refl _, rfl⟩, rfl, rfl⟩, rfl⟩) ?_
    refine retq_le (leG_freezeO hW 3 9 (by decide) (ys := [[.v (.int .u64 k0), .v (.int .u64 k1), .v (.int .i64 sz), .snap 9 ((q).map Gd.enc) false, .snap 9 [(sgSyn sz g x1).encC false] false, nilS, .v (.int .i64 0)]]) rfl rfl ⟨⟨rfl, rfl, rfl, rfl, .inl ⟨rfl, rfl, Nat.le_refl _, rfl⟩, rfl, rfl, rfl⟩, rfl⟩) ?_
    all_goals with_reducible refine ret_spec2 (by (try first | refine auR ?_ | exact auR0); (repeat' (first | exact trivial | exact rfl | exact nfLL_map (fun x => by simp [nfL, nfD, nfD, nfL, hnf, hno]) | decide | apply And.intro))) ?_
    all_goals (try first | refine auR ?_ | exact auR0)
    all_goals (try simp only [hsM] at *)
end Go.Proofs.Ytegejpieedckiaa
