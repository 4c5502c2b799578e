/-
  A guard hears a server, in the reference.
-/
import Derived.Test.YtegejpieedckiaaProxP
import Derived.Test.YtegejpieedckiaaTcpZ
namespace Go.Proofs.Ytegejpieedckiaa
set_option linter.unusedVariables false
set_option linter.unusedSimpArgs false
theorem but1_spec (k0 k1 sz : Int) (ms : List Gd) (r : Rd) (t1 : Gd) (fu : Bool) (k n : Nat) (hl : ms.length ≤ 64) : HSpec Try.prog 22 [dPx k0 k1 sz ms, .agg r.enc, .sl k n 9 0 1 fu] [some ⟨n, 9, [t1.enc]⟩] (fun d H => d = dPx k0 k1 sz (butR r ms ++ [t1]) ∧ H = [some ⟨n, 9, [t1.enc]⟩]) := by
  refine hspec_args (but1 k0 k1 sz ms r t1 fu n hl) (fun K w vs hv => argsRel_mem hv rfl (fun i d e h1 h2 v hv => ?_))
  match i, h1, h2 with
  | 0, h1, h2 =>
    obtain rfl := Option.some.inj h1
    obtain rfl := Option.some.inj h2
    exact hv
  | 1, h1, h2 =>
    obtain rfl := Option.some.inj h1
    obtain rfl := Option.some.inj h2
    exact hv
  | 2, h1, h2 =>
    obtain rfl := Option.some.inj h1
    obtain rfl := Option.some.inj h2
    exact sl_label hv
  | i + 3, h1, _ => simp at h1
abbrev U32 (x : Int) : Prop := 0 ≤ x ∧ x < 4294967296
abbrev GdOk (t : Gd) : Prop := U32 t.seq ∧ U32 t.ck ∧ U32 t.dl
abbrev dHd (k0 k1 sz : Int) (c : Bool) (R : (List Gd × Option (List DV) × Option (List DV)) × Int) : DV := .agg [.v (.int .u64 k0), .v (.int .u64 k1), .v (.int .i64 sz), .snap 9 (R.1.1.map Gd.enc) false, dO c R.1.2.1, dO c R.1.2.2, .v (.int .i64 R.2)]
set_option maxRecDepth 8000 in
set_option maxHeartbeats 8000000 in
theorem heardServer_spec (k0 k1 sz now : Int) (ms : List Gd) (r : Rd) (g : Sg) (hl : ms.length ≤ maxLen) (hr : U32 r.fr ∧ U32 r.to) (hg : SegOk g) (hg2 : SegArg g) (hd : ∀ t ∈ ms, GdOk t) : Spec Try.prog 6 [dPx k0 k1 sz ms, .agg r.enc, dG g, .v (.int .i64 now)] (dHd k0 k1 sz false (srvR sz ms r g now)) := by
  have hrf := pxrefused_spec k0 k1 sz now ms r g hl hr hg
  have htn := turn_spec r
  have hnf : ∀ g (l : List Gd), nfLL g (l.map Gd.enc) := nf_gd
  have hno := nf_opt
  unfold srvR
  by_cases he : refG sz ms r g now = 0
  rotate_left
  · rw [if_pos he]
    generalize refG sz ms r g now = e at *
    dsimp only [dHd, dO]
    refine hspec_fn Try.func6 rfl ok_custref_HeardServer okr_custref_HeardServer rfl (by kernel_rfl) ?_
    intro Γ hW0 hN0 hL0
    have hW := hW0 rfl
    clear hW0 hN0 hL0
    unfold x_custref_HeardServer r_custref_HeardServer
    repeat' (first
      | (with_reducible first | refine go_seq ?_ | refine go_region ?_ | refine go_regionD mixed_ok ?_ | refine go_cond ?_ | refine go_skip ?_ | refine go_block ?_ | refine nx_code ?_ | refine nx_block ?_ | refine go_ret ?_ | refine nx_nil ?_ | refine go_exit ?_ | refine ex_code ?_ | refine ex_loop ?_ | refine ex_here ?_)
      | ((with_reducible refine ex_past ?_ ?_); (exact by decide))
      | ((with_reducible refine endD_intro ?_ ?_); (exact by kernel_rfl))
      | ((with_reducible refine runR_n ?_ ?_); exact auN)
      | (first | (with_reducible refine runR_call hrf ?_) | (with_reducible refine runR_call htn ?_) | (with_reducible refine runR_call hyt ?_) | (with_reducible refine runR_call hb0 ?_) | (with_reducible refine runR_call hmv ?_) | (with_reducible refine runR_call hp1 ?_) | (with_reducible refine runR_call hp2 ?_) | (with_reducible refine runR_call hp3 ?_) | (with_reducible refine runR_call hmi ?_) | (simp only [e4, e2, e16]) | ((with_reducible refine runR_callH 8 ?_ (hb1 _ _) (fun _ _ _ h => h) ?_); (exact rfl)) | ((with_reducible refine runR_callH 10 ?_ (hb1 _ _) (fun _ _ _ h => h) ?_); (exact rfl)))
      | (refine auD ?_)
      | (with_reducible refine runR_b (fun h => ?_) (fun h => ?_) <;> first | exact auH | simp only [h, runR_t, runR_f])
      | (with_reducible refine condK_bl ?_ ?_)
      | (with_reducible refine condK_b (fun h => ?_) (fun h => ?_) <;> first | exact auH | skip)
      | fail)
    (all_goals first | exact auP | skip)
    all_goals first
      | (exfalso; simp_all; done)
      | skip
    all_goals with_reducible refine ret_spec2 (by (try dsimp only [RetOK, resOk, resDs, resD, resV, cellV, cellO, cellP, cellOk, htake, nfD, nfL, nfLL, nfH, lget, partOf, xget, ddrop, dtake, dget, Env.get, N8.get, env0, List.length_cons, List.length_nil, Env.set, N8.set, lset, updL]); (repeat' (first | exact trivial | exact rfl | exact nfLL_map (fun x => by simp [nfL, nfD, nfD, nfL, hnf]) | decide | apply And.intro))) ?_
    all_goals (try dsimp only [RetOK, resOk, resDs, resD, resV, cellV, cellO, cellP, cellOk, htake, nfD, nfL, nfLL, nfH, lget, partOf, xget, ddrop, dtake, dget, Env.get, N8.get, env0, List.length_cons, List.length_nil, Env.set, N8.set, lset, updL])
    all_goals (try simp only [hsM] at *)
  rw [if_neg (not_not_intro he)]
  rw [he] at hrf
  obtain ⟨hl64, hap, hat, hnow⟩ := ref_ok he
  clear he
  have hyt := youngTalks_spec k0 k1 sz now ms r.turn hl64 hnow hat
  have hql : (yngG now ms).length ≤ 64 := Nat.le_trans (List.length_filter_le _ _) hl64
  have hqm : ∀ t ∈ yngG now ms, GdOk t := fun t ht => hd t (yng_mem ht)
  unfold srvO
  have e2 := has_pos g 2 (and_nn g.flags 2 (by decide))
  have e4 := has_pos g 4 (and_nn g.flags 4 (by decide))
  have e16 := has_pos g 16 (and_nn g.flags 16 (by decide))
  rcases roadL (yngG now ms) r.turn (apart_yng hap) with ⟨-, h2⟩ | ⟨i, t, h1, -, -, h2⟩
  · rw [if_neg (by rw [h2]; simp)]
    generalize yngG now ms = q at *
    generalize fndL r.turn q = f at *
    obtain ⟨f1, f2⟩ := f
    dsimp only at h2
    subst h2
    dsimp only [dHd, dO]
    refine hspec_fn Try.func6 rfl ok_custref_HeardServer okr_custref_HeardServer rfl (by kernel_rfl) ?_
    intro Γ hW0 hN0 hL0
    have hW := hW0 rfl
    clear hW0 hN0 hL0
    unfold x_custref_HeardServer r_custref_HeardServer
    repeat' (first
      | (with_reducible first | refine go_seq ?_ | refine go_region ?_ | refine go_regionD mixed_ok ?_ | refine go_cond ?_ | refine go_skip ?_ | refine go_block ?_ | refine nx_code ?_ | refine nx_block ?_ | refine go_ret ?_ | refine nx_nil ?_ | refine go_exit ?_ | refine ex_code ?_ | refine ex_loop ?_ | refine ex_here ?_)
      | ((with_reducible refine ex_past ?_ ?_); (exact by decide))
      | ((with_reducible refine endD_intro ?_ ?_); (exact by kernel_rfl))
      | ((with_reducible refine runR_n ?_ ?_); exact auN)
      | (first | (with_reducible refine runR_call hrf ?_) | (with_reducible refine runR_call htn ?_) | (with_reducible refine runR_call hyt ?_) | (with_reducible refine runR_call hb0 ?_) | (with_reducible refine runR_call hmv ?_) | (with_reducible refine runR_call hp1 ?_) | (with_reducible refine runR_call hp2 ?_) | (with_reducible refine runR_call hp3 ?_) | (with_reducible refine runR_call hmi ?_) | (simp only [e4, e2, e16]) | ((with_reducible refine runR_callH 8 ?_ (hb1 _ _) (fun _ _ _ h => h) ?_); (exact rfl)) | ((with_reducible refine runR_callH 10 ?_ (hb1 _ _) (fun _ _ _ h => h) ?_); (exact rfl)))
      | (refine auD ?_)
      | (with_reducible refine runR_b (fun h => ?_) (fun h => ?_) <;> first | exact auH | simp only [h, runR_t, runR_f])
      | (with_reducible refine condK_bl ?_ ?_)
      | (with_reducible refine condK_b (fun h => ?_) (fun h => ?_) <;> first | exact auH | skip)
      | fail)
    (all_goals first | exact auP | skip)
    all_goals first
      | (exfalso; simp_all; done)
      | skip
    all_goals with_reducible refine ret_spec2 (by (try dsimp only [RetOK, resOk, resDs, resD, resV, cellV, cellO, cellP, cellOk, htake, nfD, nfL, nfLL, nfH, lget, partOf, xget, ddrop, dtake, dget, Env.get, N8.get, env0, List.length_cons, List.length_nil, Env.set, N8.set, lset, updL]); (repeat' (first | exact trivial | exact rfl | exact nfLL_map (fun x => by simp [nfL, nfD, nfD, nfL, hnf]) | decide | apply And.intro))) ?_
    all_goals (try dsimp only [RetOK, resOk, resDs, resD, resV, cellV, cellO, cellP, cellOk, htake, nfD, nfL, nfLL, nfH, lget, partOf, xget, ddrop, dtake, dget, Env.get, N8.get, env0, List.length_cons, List.length_nil, Env.set, N8.set, lset, updL])
    all_goals (try simp only [hsM] at *)
  · rw [h2, if_pos rfl]
    rw [h2] at hyt
    clear h2
    have htq := hqm t (List.mem_of_getElem? h1)
    generalize yngG now ms = q at *
    clear h1 hqm hap hat hd
    obtain ⟨hsq, hck, hdl⟩ := htq
    have hb0 := but0_spec k0 k1 sz q t.rd hql
    have hmv := moved_spec g t.dl 0 hg2.1 hg2.2.1 hg2.2.2.1 hdl (by decide) hg2.2.2.2.1 hg2.2.2.2.2
    have hp1 := plus_spec t.ck 1 hck (by decide)
    have hp2 := plus_spec t.seq 1 hsq (by decide)
    have hp3 := plus_spec g.seq 1 hg2.2.2.2.1 (by decide)
    have hmi := minus_spec t.ck g.seq hck hg2.2.2.2.1
    obtain ⟨tfr, tto, tfp, ttp, tseq, tck, tdl, top, tat⟩ := t
    dsimp only at *
    unfold srvT
    dsimp only
    generalize hh4 : hasF g 4 = b4 at *
    generalize hh2 : hasF g 2 = b2 at *
    generalize hh16 : hasF g 16 = b16 at *
    clear hh4 hh2 hh16
    generalize hB : butR _ q = B at *
    cases b4 with
    | true =>
      rw [if_pos rfl]
      cases top with
      | true =>
        simp only [if_true]
        dsimp only [dHd, dO]
        refine hspec_fn Try.func6 rfl ok_custref_HeardServer okr_custref_HeardServer rfl (by kernel_rfl) ?_
        intro Γ hW0 hN0 hL0
        have hW := hW0 rfl
        clear hW0 hN0 hL0
        unfold x_custref_HeardServer r_custref_HeardServer
        repeat' (first
          | (with_reducible first | refine go_seq ?_ | refine go_region ?_ | refine go_regionD mixed_ok ?_ | refine go_cond ?_ | refine go_skip ?_ | refine go_block ?_ | refine nx_code ?_ | refine nx_block ?_ | refine go_ret ?_ | refine nx_nil ?_ | refine go_exit ?_ | refine ex_code ?_ | refine ex_loop ?_ | refine ex_here ?_)
          | ((with_reducible refine ex_past ?_ ?_); (exact by decide))
          | ((with_reducible refine endD_intro ?_ ?_); (exact by kernel_rfl))
          | ((with_reducible refine runR_n ?_ ?_); exact auN)
          | (first | (with_reducible refine runR_call hrf ?_) | (with_reducible refine runR_call htn ?_) | (with_reducible refine runR_call hyt ?_) | (with_reducible refine runR_call hb0 ?_) | (with_reducible refine runR_call hmv ?_) | (with_reducible refine runR_call hp1 ?_) | (with_reducible refine runR_call hp2 ?_) | (with_reducible refine runR_call hp3 ?_) | (with_reducible refine runR_call hmi ?_) | (simp only [e4, e2, e16]) | ((with_reducible refine runR_callH 8 ?_ (hb1 _ _) (fun _ _ _ h => h) ?_); (exact rfl)) | ((with_reducible refine runR_callH 10 ?_ (hb1 _ _) (fun _ _ _ h => h) ?_); (exact rfl)))
          | (refine auD ?_)
          | (with_reducible refine runR_b (fun h => ?_) (fun h => ?_) <;> first | exact auH | simp only [h, runR_t, runR_f])
          | (with_reducible refine condK_bl ?_ ?_)
          | (with_reducible refine condK_b (fun h => ?_) (fun h => ?_) <;> first | exact auH | skip)
          | fail)
        (all_goals first | exact auP | skip)
        all_goals first
          | (exfalso; simp_all; done)
          | skip
        refine retq_le (leG_freezeO hW 3 6 (by decide) (ys := [[.v (.int .u64 k0), .v (.int .u64 k1), .v (.int .i64 sz), .snap 9 ((B).map Gd.enc) false, .snap 9 [(mvd g tdl 0).enc] false, nilS, .v (.int .i64 0)]]) rfl rfl ⟨⟨rfl, rfl, rfl, rfl, .inl ⟨rfl, rfl, Nat.le_refl _, rfl⟩, rfl, rfl, rfl⟩, rfl⟩) ?_
        all_goals with_reducible refine ret_spec2 (by (try dsimp only [RetOK, resOk, resDs, resD, resV, cellV, cellO, cellP, cellOk, htake, nfD, nfL, nfLL, nfH, lget, partOf, xget, ddrop, dtake, dget, Env.get, N8.get, env0, List.length_cons, List.length_nil, Env.set, N8.set, lset, updL]); (repeat' (first | exact trivial | exact rfl | exact nfLL_map (fun x => by simp [nfL, nfD, nfD, nfL, hnf, hno]) | decide | apply And.intro))) ?_
        all_goals (try dsimp only [RetOK, resOk, resDs, resD, resV, cellV, cellO, cellP, cellOk, htake, nfD, nfL, nfLL, nfH, lget, partOf, xget, ddrop, dtake, dget, Env.get, N8.get, env0, List.length_cons, List.length_nil, Env.set, N8.set, lset, updL])
        all_goals (try simp only [hsM] at *)
      | false =>
        simp only [Bool.false_eq_true, if_false]
        dsimp only [dHd, dO]
        refine hspec_fn Try.func6 rfl ok_custref_HeardServer okr_custref_HeardServer rfl (by kernel_rfl) ?_
        intro Γ hW0 hN0 hL0
        have hW := hW0 rfl
        clear hW0 hN0 hL0
        unfold x_custref_HeardServer r_custref_HeardServer
        repeat' (first
          | (with_reducible first | refine go_seq ?_ | refine go_region ?_ | refine go_regionD mixed_ok ?_ | refine go_cond ?_ | refine go_skip ?_ | refine go_block ?_ | refine nx_code ?_ | refine nx_block ?_ | refine go_ret ?_ | refine nx_nil ?_ | refine go_exit ?_ | refine ex_code ?_ | refine ex_loop ?_ | refine ex_here ?_)
          | ((with_reducible refine ex_past ?_ ?_); (exact by decide))
          | ((with_reducible refine endD_intro ?_ ?_); (exact by kernel_rfl))
          | ((with_reducible refine runR_n ?_ ?_); exact auN)
          | (first | (with_reducible refine runR_call hrf ?_) | (with_reducible refine runR_call htn ?_) | (with_reducible refine runR_call hyt ?_) | (with_reducible refine runR_call hb0 ?_) | (with_reducible refine runR_call hmv ?_) | (with_reducible refine runR_call hp1 ?_) | (with_reducible refine runR_call hp2 ?_) | (with_reducible refine runR_call hp3 ?_) | (with_reducible refine runR_call hmi ?_) | (simp only [e4, e2, e16]) | ((with_reducible refine runR_callH 8 ?_ (hb1 _ _) (fun _ _ _ h => h) ?_); (exact rfl)) | ((with_reducible refine runR_callH 10 ?_ (hb1 _ _) (fun _ _ _ h => h) ?_); (exact rfl)))
          | (refine auD ?_)
          | (with_reducible refine runR_b (fun h => ?_) (fun h => ?_) <;> first | exact auH | simp only [h, runR_t, runR_f])
          | (with_reducible refine condK_bl ?_ ?_)
          | (with_reducible refine condK_b (fun h => ?_) (fun h => ?_) <;> first | exact auH | skip)
          | fail)
        (all_goals first | exact auP | skip)
        all_goals first
          | (exfalso; simp_all; done)
          | skip
        refine retq_le (leG_freezeO hW 3 7 (by decide) (ys := [[.v (.int .u64 k0), .v (.int .u64 k1), .v (.int .i64 sz), .snap 9 ((B).map Gd.enc) false, .snap 9 [(sgQ g ⟨tfr, tto, tfp, ttp, tseq, tck, tdl, false, tat⟩).encN] false, nilS, .v (.int .i64 0)]]) rfl rfl ⟨⟨rfl, rfl, rfl, rfl, .inl ⟨rfl, rfl, Nat.le_refl _, rfl⟩, rfl, rfl, rfl⟩, rfl⟩) ?_
        all_goals with_reducible refine ret_spec2 (by (try dsimp only [RetOK, resOk, resDs, resD, resV, cellV, cellO, cellP, cellOk, htake, nfD, nfL, nfLL, nfH, lget, partOf, xget, ddrop, dtake, dget, Env.get, N8.get, env0, List.length_cons, List.length_nil, Env.set, N8.set, lset, updL]); (repeat' (first | exact trivial | exact rfl | exact nfLL_map (fun x => by simp [nfL, nfD, nfD, nfL, hnf, hno]) | decide | apply And.intro))) ?_
        all_goals (try dsimp only [RetOK, resOk, resDs, resD, resV, cellV, cellO, cellP, cellOk, htake, nfD, nfL, nfLL, nfH, lget, partOf, xget, ddrop, dtake, dget, Env.get, N8.get, env0, List.length_cons, List.length_nil, Env.set, N8.set, lset, updL])
        all_goals (try simp only [hsM] at *)
    | false =>
      rw [if_neg Bool.false_ne_true]
      cases top with
      | true =>
        rw [if_pos rfl]
        cases b2 with
        | true =>
          rw [if_pos rfl]
          dsimp only [dHd, dO]
          refine hspec_fn Try.func6 rfl ok_custref_HeardServer okr_custref_HeardServer rfl (by kernel_rfl) ?_
          intro Γ hW0 hN0 hL0
          have hW := hW0 rfl
          clear hW0 hN0 hL0
          unfold x_custref_HeardServer r_custref_HeardServer
          repeat' (first
            | (with_reducible first | refine go_seq ?_ | refine go_region ?_ | refine go_regionD mixed_ok ?_ | refine go_cond ?_ | refine go_skip ?_ | refine go_block ?_ | refine nx_code ?_ | refine nx_block ?_ | refine go_ret ?_ | refine nx_nil ?_ | refine go_exit ?_ | refine ex_code ?_ | refine ex_loop ?_ | refine ex_here ?_)
            | ((with_reducible refine ex_past ?_ ?_); (exact by decide))
            | ((with_reducible refine endD_intro ?_ ?_); (exact by kernel_rfl))
            | ((with_reducible refine runR_n ?_ ?_); exact auN)
            | (first | (with_reducible refine runR_call hrf ?_) | (with_reducible refine runR_call htn ?_) | (with_reducible refine runR_call hyt ?_) | (with_reducible refine runR_call hb0 ?_) | (with_reducible refine runR_call hmv ?_) | (with_reducible refine runR_call hp1 ?_) | (with_reducible refine runR_call hp2 ?_) | (with_reducible refine runR_call hp3 ?_) | (with_reducible refine runR_call hmi ?_) | (simp only [e4, e2, e16]) | ((with_reducible refine runR_callH 8 ?_ (hb1 _ _) (fun _ _ _ h => h) ?_); (exact rfl)) | ((with_reducible refine runR_callH 10 ?_ (hb1 _ _) (fun _ _ _ h => h) ?_); (exact rfl)))
            | (refine auD ?_)
            | (with_reducible refine runR_b (fun h => ?_) (fun h => ?_) <;> first | exact auH | simp only [h, runR_t, runR_f])
            | (with_reducible refine condK_bl ?_ ?_)
            | (with_reducible refine condK_b (fun h => ?_) (fun h => ?_) <;> first | exact auH | skip)
            | fail)
          (all_goals first | exact auP | skip)
          all_goals first
            | (exfalso; simp_all; done)
            | skip
          all_goals with_reducible refine ret_spec2 (by (try dsimp only [RetOK, resOk, resDs, resD, resV, cellV, cellO, cellP, cellOk, htake, nfD, nfL, nfLL, nfH, lget, partOf, xget, ddrop, dtake, dget, Env.get, N8.get, env0, List.length_cons, List.length_nil, Env.set, N8.set, lset, updL]); (repeat' (first | exact trivial | exact rfl | exact nfLL_map (fun x => by simp [nfL, nfD, nfD, nfL, hnf]) | decide | apply And.intro))) ?_
          all_goals (try dsimp only [RetOK, resOk, resDs, resD, resV, cellV, cellO, cellP, cellOk, htake, nfD, nfL, nfLL, nfH, lget, partOf, xget, ddrop, dtake, dget, Env.get, N8.get, env0, List.length_cons, List.length_nil, Env.set, N8.set, lset, updL])
          all_goals (try simp only [hsM] at *)
        | false =>
          rw [if_neg Bool.false_ne_true]
          have hb1 := fun fu n => but1_spec k0 k1 sz q ⟨tfr, tto, tfp, ttp⟩ ⟨tfr, tto, tfp, ttp, tseq, tck, tdl, true, now⟩ fu 8 n hql
          rw [hB] at hb1
          dsimp only [dHd, dO]
          refine hspec_fn Try.func6 rfl ok_custref_HeardServer okr_custref_HeardServer rfl (by kernel_rfl) ?_
          intro Γ hW0 hN0 hL0
          have hW := hW0 rfl
          clear hW0 hN0 hL0
          unfold x_custref_HeardServer r_custref_HeardServer
          repeat' (first
            | (with_reducible first | refine go_seq ?_ | refine go_region ?_ | refine go_regionD mixed_ok ?_ | refine go_cond ?_ | refine go_skip ?_ | refine go_block ?_ | refine nx_code ?_ | refine nx_block ?_ | refine go_ret ?_ | refine nx_nil ?_ | refine go_exit ?_ | refine ex_code ?_ | refine ex_loop ?_ | refine ex_here ?_)
            | ((with_reducible refine ex_past ?_ ?_); (exact by decide))
            | ((with_reducible refine endD_intro ?_ ?_); (exact by kernel_rfl))
            | ((with_reducible refine runR_n ?_ ?_); exact auN)
            | (first | (with_reducible refine runR_call hrf ?_) | (with_reducible refine runR_call htn ?_) | (with_reducible refine runR_call hyt ?_) | (with_reducible refine runR_call hb0 ?_) | (with_reducible refine runR_call hmv ?_) | (with_reducible refine runR_call hp1 ?_) | (with_reducible refine runR_call hp2 ?_) | (with_reducible refine runR_call hp3 ?_) | (with_reducible refine runR_call hmi ?_) | (simp only [e4, e2, e16]) | ((with_reducible refine runR_callH 8 ?_ (hb1 _ _) (fun _ _ _ h => h) ?_); (exact rfl)) | ((with_reducible refine runR_callH 10 ?_ (hb1 _ _) (fun _ _ _ h => h) ?_); (exact rfl)))
            | (refine auD ?_)
            | (with_reducible refine runR_b (fun h => ?_) (fun h => ?_) <;> first | exact auH | simp only [h, runR_t, runR_f])
            | (with_reducible refine condK_bl ?_ ?_)
            | (with_reducible refine condK_b (fun h => ?_) (fun h => ?_) <;> first | exact auH | skip)
            | fail)
          (all_goals first | exact auP | skip)
          all_goals first
            | (exfalso; simp_all; done)
            | skip
          refine retq_le (leG_freezeO hW 3 9 (by decide) (ys := [[.v (.int .u64 k0), .v (.int .u64 k1), .v (.int .i64 sz), .snap 9 (((B ++ [Gd.mk tfr tto tfp ttp tseq tck tdl true now])).map Gd.enc) false, .snap 9 [(mvd g tdl 0).enc] false, nilS, .v (.int .i64 0)]]) rfl rfl ⟨⟨rfl, rfl, rfl, rfl, .inl ⟨rfl, rfl, Nat.le_refl _, rfl⟩, rfl, rfl, rfl⟩, rfl⟩) ?_
          all_goals with_reducible refine ret_spec2 (by (try dsimp only [RetOK, resOk, resDs, resD, resV, cellV, cellO, cellP, cellOk, htake, nfD, nfL, nfLL, nfH, lget, partOf, xget, ddrop, dtake, dget, Env.get, N8.get, env0, List.length_cons, List.length_nil, Env.set, N8.set, lset, updL]); (repeat' (first | exact trivial | exact rfl | exact nfLL_map (fun x => by simp [nfL, nfD, nfD, nfL, hnf, hno]) | decide | apply And.intro))) ?_
          all_goals (try dsimp only [RetOK, resOk, resDs, resD, resV, cellV, cellO, cellP, cellOk, htake, nfD, nfL, nfLL, nfH, lget, partOf, xget, ddrop, dtake, dget, Env.get, N8.get, env0, List.length_cons, List.length_nil, Env.set, N8.set, lset, updL])
          all_goals (try simp only [hsM] at *)
      | false =>
        rw [if_neg Bool.false_ne_true]
        by_cases hk : b2 = true ∧ b16 = true ∧ g.ack = (tseq + 1) % 4294967296
        · rw [if_pos hk]
          obtain ⟨rfl, rfl, hak⟩ := hk
          have hb1 := fun fu n => but1_spec k0 k1 sz q ⟨tfr, tto, tfp, ttp⟩ ⟨tfr, tto, tfp, ttp, tseq, tck, (tck - g.seq) % 4294967296, true, now⟩ fu 10 n hql
          rw [hB] at hb1
          dsimp only [dHd, dO]
          refine hspec_fn Try.func6 rfl ok_custref_HeardServer okr_custref_HeardServer rfl (by kernel_rfl) ?_
          intro Γ hW0 hN0 hL0
          have hW := hW0 rfl
          clear hW0 hN0 hL0
          unfold x_custref_HeardServer r_custref_HeardServer
          repeat' (first
            | (with_reducible first | refine go_seq ?_ | refine go_region ?_ | refine go_regionD mixed_ok ?_ | refine go_cond ?_ | refine go_skip ?_ | refine go_block ?_ | refine nx_code ?_ | refine nx_block ?_ | refine go_ret ?_ | refine nx_nil ?_ | refine go_exit ?_ | refine ex_code ?_ | refine ex_loop ?_ | refine ex_here ?_)
            | ((with_reducible refine ex_past ?_ ?_); (exact by decide))
            | ((with_reducible refine endD_intro ?_ ?_); (exact by kernel_rfl))
            | ((with_reducible refine runR_n ?_ ?_); exact auN)
            | (first | (with_reducible refine runR_call hrf ?_) | (with_reducible refine runR_call htn ?_) | (with_reducible refine runR_call hyt ?_) | (with_reducible refine runR_call hb0 ?_) | (with_reducible refine runR_call hmv ?_) | (with_reducible refine runR_call hp1 ?_) | (with_reducible refine runR_call hp2 ?_) | (with_reducible refine runR_call hp3 ?_) | (with_reducible refine runR_call hmi ?_) | (simp only [e4, e2, e16]) | ((with_reducible refine runR_callH 8 ?_ (hb1 _ _) (fun _ _ _ h => h) ?_); (exact rfl)) | ((with_reducible refine runR_callH 10 ?_ (hb1 _ _) (fun _ _ _ h => h) ?_); (exact rfl)))
            | (refine auD ?_)
            | (with_reducible refine runR_b (fun h => ?_) (fun h => ?_) <;> first | exact auH | simp only [h, runR_t, runR_f])
            | (with_reducible refine condK_bl ?_ ?_)
            | (with_reducible refine condK_b (fun h => ?_) (fun h => ?_) <;> first | exact auH | skip)
            | fail)
          (all_goals first | exact auP | skip)
          all_goals first
            | (exfalso; simp_all; done)
            | skip
          refine retq_le (leG_freezeO hW 3 11 (by decide) (ys := [[.v (.int .u64 k0), .v (.int .u64 k1), .v (.int .i64 sz), .snap 9 (((B ++ [Gd.mk tfr tto tfp ttp tseq tck ((tck - g.seq) % 4294967296) true now])).map Gd.enc) false, nilS, .snap 9 [(sgK g).encN] false, .v (.int .i64 0)]]) rfl rfl ⟨⟨rfl, rfl, rfl, rfl, rfl, .inl ⟨rfl, rfl, Nat.le_refl _, rfl⟩, rfl, rfl⟩, rfl⟩) ?_
          all_goals with_reducible refine ret_spec2 (by (try dsimp only [RetOK, resOk, resDs, resD, resV, cellV, cellO, cellP, cellOk, htake, nfD, nfL, nfLL, nfH, lget, partOf, xget, ddrop, dtake, dget, Env.get, N8.get, env0, List.length_cons, List.length_nil, Env.set, N8.set, lset, updL]); (repeat' (first | exact trivial | exact rfl | exact nfLL_map (fun x => by simp [nfL, nfD, nfD, nfL, hnf, hno]) | decide | apply And.intro))) ?_
          all_goals (try dsimp only [RetOK, resOk, resDs, resD, resV, cellV, cellO, cellP, cellOk, htake, nfD, nfL, nfLL, nfH, lget, partOf, xget, ddrop, dtake, dget, Env.get, N8.get, env0, List.length_cons, List.length_nil, Env.set, N8.set, lset, updL])
          all_goals (try simp only [hsM] at *)
        · rw [if_neg hk]
          dsimp only [dHd, dO]
          cases b2 with
          | false =>
            clear hk
            refine hspec_fn Try.func6 rfl ok_custref_HeardServer okr_custref_HeardServer rfl (by kernel_rfl) ?_
            intro Γ hW0 hN0 hL0
            have hW := hW0 rfl
            clear hW0 hN0 hL0
            unfold x_custref_HeardServer r_custref_HeardServer
            repeat' (first
              | (with_reducible first | refine go_seq ?_ | refine go_region ?_ | refine go_regionD mixed_ok ?_ | refine go_cond ?_ | refine go_skip ?_ | refine go_block ?_ | refine nx_code ?_ | refine nx_block ?_ | refine go_ret ?_ | refine nx_nil ?_ | refine go_exit ?_ | refine ex_code ?_ | refine ex_loop ?_ | refine ex_here ?_)
              | ((with_reducible refine ex_past ?_ ?_); (exact by decide))
              | ((with_reducible refine endD_intro ?_ ?_); (exact by kernel_rfl))
              | ((with_reducible refine runR_n ?_ ?_); exact auN)
              | (first | (with_reducible refine runR_call hrf ?_) | (with_reducible refine runR_call htn ?_) | (with_reducible refine runR_call hyt ?_) | (with_reducible refine runR_call hb0 ?_) | (with_reducible refine runR_call hmv ?_) | (with_reducible refine runR_call hp1 ?_) | (with_reducible refine runR_call hp2 ?_) | (with_reducible refine runR_call hp3 ?_) | (with_reducible refine runR_call hmi ?_) | (simp only [e4, e2, e16]) | ((with_reducible refine runR_callH 8 ?_ (hb1 _ _) (fun _ _ _ h => h) ?_); (exact rfl)) | ((with_reducible refine runR_callH 10 ?_ (hb1 _ _) (fun _ _ _ h => h) ?_); (exact rfl)))
              | (refine auD ?_)
              | (with_reducible refine runR_b (fun h => ?_) (fun h => ?_) <;> first | exact auH | simp only [h, runR_t, runR_f])
              | (with_reducible refine condK_bl ?_ ?_)
              | (with_reducible refine condK_b (fun h => ?_) (fun h => ?_) <;> first | exact auH | skip)
              | fail)
            (all_goals first | exact auP | skip)
            all_goals first
              | (exfalso; simp_all; done)
              | skip
            all_goals with_reducible refine ret_spec2 (by (try dsimp only [RetOK, resOk, resDs, resD, resV, cellV, cellO, cellP, cellOk, htake, nfD, nfL, nfLL, nfH, lget, partOf, xget, ddrop, dtake, dget, Env.get, N8.get, env0, List.length_cons, List.length_nil, Env.set, N8.set, lset, updL]); (repeat' (first | exact trivial | exact rfl | exact nfLL_map (fun x => by simp [nfL, nfD, nfD, nfL, hnf]) | decide | apply And.intro))) ?_
            all_goals (try dsimp only [RetOK, resOk, resDs, resD, resV, cellV, cellO, cellP, cellOk, htake, nfD, nfL, nfLL, nfH, lget, partOf, xget, ddrop, dtake, dget, Env.get, N8.get, env0, List.length_cons, List.length_nil, Env.set, N8.set, lset, updL])
            all_goals (try simp only [hsM] at *)
          | true =>
            cases b16 with
            | false =>
              clear hk
              refine hspec_fn Try.func6 rfl ok_custref_HeardServer okr_custref_HeardServer rfl (by kernel_rfl) ?_
              intro Γ hW0 hN0 hL0
              have hW := hW0 rfl
              clear hW0 hN0 hL0
              unfold x_custref_HeardServer r_custref_HeardServer
              repeat' (first
                | (with_reducible first | refine go_seq ?_ | refine go_region ?_ | refine go_regionD mixed_ok ?_ | refine go_cond ?_ | refine go_skip ?_ | refine go_block ?_ | refine nx_code ?_ | refine nx_block ?_ | refine go_ret ?_ | refine nx_nil ?_ | refine go_exit ?_ | refine ex_code ?_ | refine ex_loop ?_ | refine ex_here ?_)
                | ((with_reducible refine ex_past ?_ ?_); (exact by decide))
                | ((with_reducible refine endD_intro ?_ ?_); (exact by kernel_rfl))
                | ((with_reducible refine runR_n ?_ ?_); exact auN)
                | (first | (with_reducible refine runR_call hrf ?_) | (with_reducible refine runR_call htn ?_) | (with_reducible refine runR_call hyt ?_) | (with_reducible refine runR_call hb0 ?_) | (with_reducible refine runR_call hmv ?_) | (with_reducible refine runR_call hp1 ?_) | (with_reducible refine runR_call hp2 ?_) | (with_reducible refine runR_call hp3 ?_) | (with_reducible refine runR_call hmi ?_) | (simp only [e4, e2, e16]) | ((with_reducible refine runR_callH 8 ?_ (hb1 _ _) (fun _ _ _ h => h) ?_); (exact rfl)) | ((with_reducible refine runR_callH 10 ?_ (hb1 _ _) (fun _ _ _ h => h) ?_); (exact rfl)))
                | (refine auD ?_)
                | (with_reducible refine runR_b (fun h => ?_) (fun h => ?_) <;> first | exact auH | simp only [h, runR_t, runR_f])
                | (with_reducible refine condK_bl ?_ ?_)
                | (with_reducible refine condK_b (fun h => ?_) (fun h => ?_) <;> first | exact auH | skip)
                | fail)
              (all_goals first | exact auP | skip)
              all_goals first
                | (exfalso; simp_all; done)
                | skip
              all_goals with_reducible refine ret_spec2 (by (try dsimp only [RetOK, resOk, resDs, resD, resV, cellV, cellO, cellP, cellOk, htake, nfD, nfL, nfLL, nfH, lget, partOf, xget, ddrop, dtake, dget, Env.get, N8.get, env0, List.length_cons, List.length_nil, Env.set, N8.set, lset, updL]); (repeat' (first | exact trivial | exact rfl | exact nfLL_map (fun x => by simp [nfL, nfD, nfD, nfL, hnf]) | decide | apply And.intro))) ?_
              all_goals (try dsimp only [RetOK, resOk, resDs, resD, resV, cellV, cellO, cellP, cellOk, htake, nfD, nfL, nfLL, nfH, lget, partOf, xget, ddrop, dtake, dget, Env.get, N8.get, env0, List.length_cons, List.length_nil, Env.set, N8.set, lset, updL])
              all_goals (try simp only [hsM] at *)
            | true =>
              have hak : ¬ g.ack = (tseq + 1) % 4294967296 := fun h => hk ⟨rfl, rfl, h⟩
              clear hk
              refine hspec_fn Try.func6 rfl ok_custref_HeardServer okr_custref_HeardServer rfl (by kernel_rfl) ?_
              intro Γ hW0 hN0 hL0
              have hW := hW0 rfl
              clear hW0 hN0 hL0
              unfold x_custref_HeardServer r_custref_HeardServer
              repeat' (first
                | (with_reducible first | refine go_seq ?_ | refine go_region ?_ | refine go_regionD mixed_ok ?_ | refine go_cond ?_ | refine go_skip ?_ | refine go_block ?_ | refine nx_code ?_ | refine nx_block ?_ | refine go_ret ?_ | refine nx_nil ?_ | refine go_exit ?_ | refine ex_code ?_ | refine ex_loop ?_ | refine ex_here ?_)
                | ((with_reducible refine ex_past ?_ ?_); (exact by decide))
                | ((with_reducible refine endD_intro ?_ ?_); (exact by kernel_rfl))
                | ((with_reducible refine runR_n ?_ ?_); exact auN)
                | (first | (with_reducible refine runR_call hrf ?_) | (with_reducible refine runR_call htn ?_) | (with_reducible refine runR_call hyt ?_) | (with_reducible refine runR_call hb0 ?_) | (with_reducible refine runR_call hmv ?_) | (with_reducible refine runR_call hp1 ?_) | (with_reducible refine runR_call hp2 ?_) | (with_reducible refine runR_call hp3 ?_) | (with_reducible refine runR_call hmi ?_) | (simp only [e4, e2, e16]) | ((with_reducible refine runR_callH 8 ?_ (hb1 _ _) (fun _ _ _ h => h) ?_); (exact rfl)) | ((with_reducible refine runR_callH 10 ?_ (hb1 _ _) (fun _ _ _ h => h) ?_); (exact rfl)))
                | (refine auD ?_)
                | (with_reducible refine runR_b (fun h => ?_) (fun h => ?_) <;> first | exact auH | simp only [h, runR_t, runR_f])
                | (with_reducible refine condK_bl ?_ ?_)
                | (with_reducible refine condK_b (fun h => ?_) (fun h => ?_) <;> first | exact auH | skip)
                | fail)
              (all_goals first | exact auP | skip)
              all_goals first
                | (exfalso; simp_all; done)
                | skip
              all_goals with_reducible refine ret_spec2 (by (try dsimp only [RetOK, resOk, resDs, resD, resV, cellV, cellO, cellP, cellOk, htake, nfD, nfL, nfLL, nfH, lget, partOf, xget, ddrop, dtake, dget, Env.get, N8.get, env0, List.length_cons, List.length_nil, Env.set, N8.set, lset, updL]); (repeat' (first | exact trivial | exact rfl | exact nfLL_map (fun x => by simp [nfL, nfD, nfD, nfL, hnf]) | decide | apply And.intro))) ?_
              all_goals (try dsimp only [RetOK, resOk, resDs, resD, resV, cellV, cellO, cellP, cellOk, htake, nfD, nfL, nfLL, nfH, lget, partOf, xget, ddrop, dtake, dget, Env.get, N8.get, env0, List.length_cons, List.length_nil, Env.set, N8.set, lset, updL])
              all_goals (try simp only [hsM] at *)
end Go.Proofs.Ytegejpieedckiaa
