/-
  Segments: the reference's options, read.
-/
import Derived.Test.YthdghenfidkdcaaTcpR
namespace Go.Proofs.Ythdghenfidkdcaa
set_option linter.unusedVariables false
set_option linter.unusedSimpArgs false
set_option maxHeartbeats 4000000 in
theorem optionsOf_spec : ∀ (n : Nat) (s : List UInt8), s.length ≤ n → s.length ≤ 40 → Spec Try.prog 33 [.v (.string (mkS s))] (dPr (prR s)) := by
  intro n
  induction n with
  | zero =>
    intro s hn hs
    have hz : zer s = true := by rw [List.eq_nil_of_length_eq_zero (Nat.le_zero.1 hn)]; rfl
    have hcn := count_spec s
    rw [(zer_count s).2 hz] at hcn
    rw [prR_some (prs_zero hz)]
    refine spec_nil ?_ (nil_pr _)
    refine hspec_fn Try.func33 rfl ok_custref_optionsOf okr_custref_optionsOf rfl (by kernel_rfl) ?_
    intro Γ hW0 hN0 hL0
    have hW := hW0 rfl
    clear hW0 hN0 hL0
    unfold x_custref_optionsOf r_custref_optionsOf
    repeat' (first
      | (with_reducible first | refine go_seq ?_ | refine go_region ?_ | refine go_regionD mixed_ok ?_ | refine go_cond ?_ | refine go_skip ?_ | refine go_block ?_ | refine nx_code ?_ | refine nx_block ?_ | refine go_ret ?_ | refine nx_nil ?_ | refine go_exit ?_ | refine ex_code ?_ | refine ex_loop ?_ | refine ex_here ?_)
      | ((with_reducible refine ex_past ?_ ?_); (exact by decide))
      | ((with_reducible refine endD_intro ?_ ?_); (exact by kernel_rfl))
      | ((with_reducible refine runR_n ?_ ?_); exact auN)
      | (first | (simp only [mkS_size, mkS_at, ze1, Int.toNat_natCast]) | (simp only [w0]) | (simp only [w1]) | (simp only [x1]) | (simp only [x2, x3]) | (with_reducible refine runR_call hcn ?_) | (with_reducible refine runR_call (between_spec _ _ _) ?_) | (with_reducible refine runR_call hr ?_))
      | (refine auD ?_)
      | (with_reducible refine runR_b (fun h => ?_) (fun h => ?_) <;> first | exact auH | simp only [h, runR_t, runR_f])
      | (with_reducible refine condK_bl ?_ ?_)
      | (with_reducible refine condK_b (fun h => ?_) (fun h => ?_) <;> first | exact auH | skip)
      | (first | fail | fail))
    (all_goals first | exact auP | skip)
    all_goals first
      | (exfalso; simp_all; done)
      | (exfalso; simp_all; omega)
      | skip
    all_goals with_reducible refine ret_spec2 (by (try dsimp only [RetOK, resOk, resDs, resD, resV, cellV, cellO, cellP, cellOk, htake, nfD, nfL, nfLL, nfH, lget, partOf, xget, ddrop, dtake, dget, Env.get, N8.get, env0, List.length_cons, List.length_nil, Env.set, N8.set, lset, updL]); (repeat' (first | exact trivial | exact rfl | exact nfLL_map (fun x => by simp [nfL, nfD, nfD, nfL]) | decide | apply And.intro))) ?_
    all_goals (try dsimp only [RetOK, resOk, resDs, resD, resV, cellV, cellO, cellP, cellOk, htake, nfD, nfL, nfLL, nfH, lget, partOf, xget, ddrop, dtake, dget, Env.get, N8.get, env0, List.length_cons, List.length_nil, Env.set, N8.set, lset, updL])
    all_goals (try simp only [hsM] at *)
  | succ n ih =>
    intro s hn hs
    have hcn := count_spec s
    cases hz : zer s with
    | true =>
      rw [(zer_count s).2 hz] at hcn
      rw [prR_some (prs_zero hz)]
      refine spec_nil ?_ (nil_pr _)
      refine hspec_fn Try.func33 rfl ok_custref_optionsOf okr_custref_optionsOf rfl (by kernel_rfl) ?_
      intro Γ hW0 hN0 hL0
      have hW := hW0 rfl
      clear hW0 hN0 hL0
      unfold x_custref_optionsOf r_custref_optionsOf
      repeat' (first
        | (with_reducible first | refine go_seq ?_ | refine go_region ?_ | refine go_regionD mixed_ok ?_ | refine go_cond ?_ | refine go_skip ?_ | refine go_block ?_ | refine nx_code ?_ | refine nx_block ?_ | refine go_ret ?_ | refine nx_nil ?_ | refine go_exit ?_ | refine ex_code ?_ | refine ex_loop ?_ | refine ex_here ?_)
        | ((with_reducible refine ex_past ?_ ?_); (exact by decide))
        | ((with_reducible refine endD_intro ?_ ?_); (exact by kernel_rfl))
        | ((with_reducible refine runR_n ?_ ?_); exact auN)
        | (first | (simp only [mkS_size, mkS_at, ze1, Int.toNat_natCast]) | (simp only [w0]) | (simp only [w1]) | (simp only [x1]) | (simp only [x2, x3]) | (with_reducible refine runR_call hcn ?_) | (with_reducible refine runR_call (between_spec _ _ _) ?_) | (with_reducible refine runR_call hr ?_))
        | (refine auD ?_)
        | (with_reducible refine runR_b (fun h => ?_) (fun h => ?_) <;> first | exact auH | simp only [h, runR_t, runR_f])
        | (with_reducible refine condK_bl ?_ ?_)
        | (with_reducible refine condK_b (fun h => ?_) (fun h => ?_) <;> first | exact auH | skip)
        | (first | fail | fail))
      (all_goals first | exact auP | skip)
      all_goals first
        | (exfalso; simp_all; done)
        | (exfalso; simp_all; omega)
        | skip
      all_goals with_reducible refine ret_spec2 (by (try dsimp only [RetOK, resOk, resDs, resD, resV, cellV, cellO, cellP, cellOk, htake, nfD, nfL, nfLL, nfH, lget, partOf, xget, ddrop, dtake, dget, Env.get, N8.get, env0, List.length_cons, List.length_nil, Env.set, N8.set, lset, updL]); (repeat' (first | exact trivial | exact rfl | exact nfLL_map (fun x => by simp [nfL, nfD, nfD, nfL]) | decide | apply And.intro))) ?_
      all_goals (try dsimp only [RetOK, resOk, resDs, resD, resV, cellV, cellO, cellP, cellOk, htake, nfD, nfL, nfLL, nfH, lget, partOf, xget, ddrop, dtake, dget, Env.get, N8.get, env0, List.length_cons, List.length_nil, Env.set, N8.set, lset, updL])
      all_goals (try simp only [hsM] at *)
    | false =>
      have hpos := len_pos hz
      have hcc : ¬ ((Lib.countByte s 0 : Nat) : Int) = (s.length : Nat) := fun e => by
        have := (zer_count s).1 (by omega)
        rw [hz] at this; cases this
      generalize Lib.countByte s 0 = cz at *
      have hb0 := bN_lt s 0
      have hb1 := bN_lt s 1
      have w0 : IntKind.i64.wrap ((bN s 0 : Nat) : Int) = ((bN s 0 : Nat) : Int) := IntWalk.i64_in _ (by omega)
      have w1 : IntKind.i64.wrap ((bN s 1 : Nat) : Int) = ((bN s 1 : Nat) : Int) := IntWalk.i64_in _ (by omega)
      by_cases h0 : bN s 0 = 0
      · rw [prR_none (prs_bad hz h0)]
        refine spec_nil ?_ (nil_pr _)
        have hc0 : ((bN s 0 : Nat) : Int) = 0 := by omega
        refine hspec_fn Try.func33 rfl ok_custref_optionsOf okr_custref_optionsOf rfl (by kernel_rfl) ?_
        intro Γ hW0 hN0 hL0
        have hW := hW0 rfl
        clear hW0 hN0 hL0
        unfold x_custref_optionsOf r_custref_optionsOf
        repeat' (first
          | (with_reducible first | refine go_seq ?_ | refine go_region ?_ | refine go_regionD mixed_ok ?_ | refine go_cond ?_ | refine go_skip ?_ | refine go_block ?_ | refine nx_code ?_ | refine nx_block ?_ | refine go_ret ?_ | refine nx_nil ?_ | refine go_exit ?_ | refine ex_code ?_ | refine ex_loop ?_ | refine ex_here ?_)
          | ((with_reducible refine ex_past ?_ ?_); (exact by decide))
          | ((with_reducible refine endD_intro ?_ ?_); (exact by kernel_rfl))
          | ((with_reducible refine runR_n ?_ ?_); exact auN)
          | (first | (simp only [mkS_size, mkS_at, ze1, Int.toNat_natCast]) | (simp only [w0]) | (simp only [w1]) | (simp only [x1]) | (simp only [x2, x3]) | (with_reducible refine runR_call hcn ?_) | (with_reducible refine runR_call (between_spec _ _ _) ?_) | (with_reducible refine runR_call hr ?_))
          | (refine auD ?_)
          | (with_reducible refine runR_b (fun h => ?_) (fun h => ?_) <;> first | exact auH | simp only [h, runR_t, runR_f])
          | (with_reducible refine condK_bl ?_ ?_)
          | (with_reducible refine condK_b (fun h => ?_) (fun h => ?_) <;> first | exact auH | skip)
          | (first | fail | fail))
        (all_goals first | exact auP | skip)
        all_goals first
          | (exfalso; simp_all; done)
          | (exfalso; simp_all; omega)
          | skip
        all_goals with_reducible refine ret_spec2 (by (try dsimp only [RetOK, resOk, resDs, resD, resV, cellV, cellO, cellP, cellOk, htake, nfD, nfL, nfLL, nfH, lget, partOf, xget, ddrop, dtake, dget, Env.get, N8.get, env0, List.length_cons, List.length_nil, Env.set, N8.set, lset, updL]); (repeat' (first | exact trivial | exact rfl | exact nfLL_map (fun x => by simp [nfL, nfD, nfD, nfL]) | decide | apply And.intro))) ?_
        all_goals (try dsimp only [RetOK, resOk, resDs, resD, resV, cellV, cellO, cellP, cellOk, htake, nfD, nfL, nfLL, nfH, lget, partOf, xget, ddrop, dtake, dget, Env.get, N8.get, env0, List.length_cons, List.length_nil, Env.set, N8.set, lset, updL])
        all_goals (try simp only [hsM] at *)
      by_cases h1 : bN s 0 = 1
      · have hc1 : ((bN s 0 : Nat) : Int) = 1 := by omega
        have hr := ih (s.drop 1) (by simp; omega) (by simp; omega)
        have hp := prs_one h1
        have x1 : (mkS s).extract 1 s.length = mkS (s.drop 1) := by rw [mkS_ext, List.take_of_length_le (by simp)]
        rw [hc1] at w0
        cases hq : prs (s.drop 1) with
        | none =>
          rw [prR_none hq] at hr
          rw [hq] at hp
          rw [prR_none hp]
          refine spec_nil ?_ (nil_pr _)
          refine hspec_fn Try.func33 rfl ok_custref_optionsOf okr_custref_optionsOf rfl (by kernel_rfl) ?_
          intro Γ hW0 hN0 hL0
          have hW := hW0 rfl
          clear hW0 hN0 hL0
          unfold x_custref_optionsOf r_custref_optionsOf
          repeat' (first
            | (with_reducible first | refine go_seq ?_ | refine go_region ?_ | refine go_regionD mixed_ok ?_ | refine go_cond ?_ | refine go_skip ?_ | refine go_block ?_ | refine nx_code ?_ | refine nx_block ?_ | refine go_ret ?_ | refine nx_nil ?_ | refine go_exit ?_ | refine ex_code ?_ | refine ex_loop ?_ | refine ex_here ?_)
            | ((with_reducible refine ex_past ?_ ?_); (exact by decide))
            | ((with_reducible refine endD_intro ?_ ?_); (exact by kernel_rfl))
            | ((with_reducible refine runR_n ?_ ?_); exact auN)
            | (first | (simp only [mkS_size, mkS_at, ze1, Int.toNat_natCast]) | (simp only [w0]) | (simp only [w1]) | (simp only [x1]) | (simp only [x2, x3]) | (with_reducible refine runR_call hcn ?_) | (with_reducible refine runR_call (between_spec _ _ _) ?_) | (with_reducible refine runR_call hr ?_))
            | (refine auD ?_)
            | (with_reducible refine runR_b (fun h => ?_) (fun h => ?_) <;> first | exact auH | simp only [h, runR_t, runR_f])
            | (with_reducible refine condK_bl ?_ ?_)
            | (with_reducible refine condK_b (fun h => ?_) (fun h => ?_) <;> first | exact auH | skip)
            | (first | simp only [hc1] | fail))
          (all_goals first | exact auP | skip)
          all_goals first
            | (exfalso; simp_all; done)
            | (exfalso; simp_all; omega)
            | skip
          all_goals with_reducible refine ret_spec2 (by (try dsimp only [RetOK, resOk, resDs, resD, resV, cellV, cellO, cellP, cellOk, htake, nfD, nfL, nfLL, nfH, lget, partOf, xget, ddrop, dtake, dget, Env.get, N8.get, env0, List.length_cons, List.length_nil, Env.set, N8.set, lset, updL]); (repeat' (first | exact trivial | exact rfl | exact nfLL_map (fun x => by simp [nfL, nfD, nfD, nfL]) | decide | apply And.intro))) ?_
          all_goals (try dsimp only [RetOK, resOk, resDs, resD, resV, cellV, cellO, cellP, cellOk, htake, nfD, nfL, nfLL, nfH, lget, partOf, xget, ddrop, dtake, dget, Env.get, N8.get, env0, List.length_cons, List.length_nil, Env.set, N8.set, lset, updL])
          all_goals (try simp only [hsM] at *)
        | some q =>
          have hql := prs_len _ _ _ (Nat.le_refl _) hq
          simp only [List.length_drop] at hql
          rw [prR_some hq] at hr
          rw [hq] at hp
          rw [prR_some hp]
          cases q with
          | nil =>
            refine hspec_fn Try.func33 rfl ok_custref_optionsOf okr_custref_optionsOf rfl (by kernel_rfl) ?_
            intro Γ hW0 hN0 hL0
            have hW := hW0 rfl
            clear hW0 hN0 hL0
            unfold x_custref_optionsOf r_custref_optionsOf
            repeat' (first
              | (with_reducible first | refine go_seq ?_ | refine go_region ?_ | refine go_regionD mixed_ok ?_ | refine go_cond ?_ | refine go_skip ?_ | refine go_block ?_ | refine nx_code ?_ | refine nx_block ?_ | refine go_ret ?_ | refine nx_nil ?_ | refine go_exit ?_ | refine ex_code ?_ | refine ex_loop ?_ | refine ex_here ?_)
              | ((with_reducible refine ex_past ?_ ?_); (exact by decide))
              | ((with_reducible refine endD_intro ?_ ?_); (exact by kernel_rfl))
              | ((with_reducible refine runR_n ?_ ?_); exact auN)
              | (first | (simp only [mkS_size, mkS_at, ze1, Int.toNat_natCast]) | (simp only [w0]) | (simp only [w1]) | (simp only [x1]) | (simp only [x2, x3]) | (with_reducible refine runR_call hcn ?_) | (with_reducible refine runR_call (between_spec _ _ _) ?_) | (with_reducible refine runR_call hr ?_))
              | (refine auD ?_)
              | (with_reducible refine runR_b (fun h => ?_) (fun h => ?_) <;> first | exact auH | simp only [h, runR_t, runR_f])
              | (with_reducible refine condK_bl ?_ ?_)
              | (with_reducible refine condK_b (fun h => ?_) (fun h => ?_) <;> first | exact auH | skip)
              | (first | (first | (simp only [hc1]) | (with_reducible refine runR_r ?_)) | fail))
            (all_goals first | exact auP | skip)
            all_goals first
              | (exfalso; simp_all; done)
              | (exfalso; simp_all; omega)
              | skip
            refine retq_le (leG_freeze hW ⟨.d0, .d0, .d2⟩ rfl rfl ⟨rfl, rfl, by exact Nat.le_refl _⟩) (retq_le (le_leG (le_clip ⟨.d0, .d0, .d2⟩ rfl)) ?_)
            dsimp only [xtake, xdrop]
            all_goals with_reducible refine ret_spec2 (by (try dsimp only [RetOK, resOk, resDs, resD, resV, cellV, cellO, cellP, cellOk, htake, nfD, nfL, nfLL, nfH, lget, partOf, xget, ddrop, dtake, dget, Env.get, N8.get, env0, List.length_cons, List.length_nil, Env.set, N8.set, lset, updL]); (repeat' (first | exact trivial | exact rfl | exact nfLL_map (fun x => by simp [nfL, nfD, nfD, nfL]) | decide | apply And.intro))) ?_
            all_goals (try dsimp only [RetOK, resOk, resDs, resD, resV, cellV, cellO, cellP, cellOk, htake, nfD, nfL, nfLL, nfH, lget, partOf, xget, ddrop, dtake, dget, Env.get, N8.get, env0, List.length_cons, List.length_nil, Env.set, N8.set, lset, updL])
            all_goals (try simp only [hsM] at *)
            all_goals rfl
          | cons o r =>
            have hall := allOnes_map (f := Op2.enc) (fun x => rfl) (o :: r)
            refine hspec_fn Try.func33 rfl ok_custref_optionsOf okr_custref_optionsOf rfl (by kernel_rfl) ?_
            intro Γ hW0 hN0 hL0
            have hW := hW0 rfl
            clear hW0 hN0 hL0
            unfold x_custref_optionsOf r_custref_optionsOf
            repeat' (first
              | (with_reducible first | refine go_seq ?_ | refine go_region ?_ | refine go_regionD mixed_ok ?_ | refine go_cond ?_ | refine go_skip ?_ | refine go_block ?_ | refine nx_code ?_ | refine nx_block ?_ | refine go_ret ?_ | refine nx_nil ?_ | refine go_exit ?_ | refine ex_code ?_ | refine ex_loop ?_ | refine ex_here ?_)
              | ((with_reducible refine ex_past ?_ ?_); (exact by decide))
              | ((with_reducible refine endD_intro ?_ ?_); (exact by kernel_rfl))
              | ((with_reducible refine runR_n ?_ ?_); exact auN)
              | (first | (simp only [mkS_size, mkS_at, ze1, Int.toNat_natCast]) | (simp only [w0]) | (simp only [w1]) | (simp only [x1]) | (simp only [x2, x3]) | (with_reducible refine runR_call hcn ?_) | (with_reducible refine runR_call (between_spec _ _ _) ?_) | (with_reducible refine runR_call hr ?_))
              | (refine auD ?_)
              | (with_reducible refine runR_b (fun h => ?_) (fun h => ?_) <;> first | exact auH | simp only [h, runR_t, runR_f])
              | (with_reducible refine condK_bl ?_ ?_)
              | (with_reducible refine condK_b (fun h => ?_) (fun h => ?_) <;> first | exact auH | skip)
              | (first | (first | (simp only [hc1]) | (with_reducible refine runR_l ?_) | (refine runR_n ⟨Or.inl (by simp), rfl, hall, by unfold room maxLen; simp at hql ⊢; omega⟩ ?_)) | fail))
            (all_goals first | exact auP | skip)
            all_goals first
              | (exfalso; simp_all; done)
              | (exfalso; simp_all; omega)
              | skip
            refine retq_le (leG_freeze hW ⟨.d0, .d0, .d2⟩ rfl rfl ⟨rfl, rfl, by (simp; try omega)⟩) ?_
            rw [xall (by (simp; try omega))]
            rw [show ([[DV.v (.int .i64 1), DV.v (.string (ByteArray.mk #[]))]] : List (List DV)) ++ (o :: r).map Op2.enc = ((⟨1, []⟩ :: o :: r : List Op2).map Op2.enc) from rfl]
            all_goals with_reducible refine ret_spec2 (by (try dsimp only [RetOK, resOk, resDs, resD, resV, cellV, cellO, cellP, cellOk, htake, nfD, nfL, nfLL, nfH, lget, partOf, xget, ddrop, dtake, dget, Env.get, N8.get, env0, List.length_cons, List.length_nil, Env.set, N8.set, lset, updL]); (repeat' (first | exact trivial | exact rfl | exact nfLL_map (fun x => by simp [nfL, nfD, nfD, nfL]) | decide | apply And.intro))) ?_
            all_goals (try dsimp only [RetOK, resOk, resDs, resD, resV, cellV, cellO, cellP, cellOk, htake, nfD, nfL, nfLL, nfH, lget, partOf, xget, ddrop, dtake, dget, Env.get, N8.get, env0, List.length_cons, List.length_nil, Env.set, N8.set, lset, updL])
            all_goals (try simp only [hsM] at *)
            all_goals rfl
      by_cases hn : 2 ≤ s.length ∧ 2 ≤ bN s 1 ∧ bN s 1 ≤ s.length
      · obtain ⟨n1, n2, n3⟩ := hn
        have i0 : ¬ ((bN s 0 : Nat) : Int) = 0 := by omega
        have i1 : 1 < ((bN s 0 : Nat) : Int) := by omega
        have hr := ih (s.drop (bN s 1)) (by simp; omega) (by simp; omega)
        have hp := prs_n (s := s) (by omega) ⟨n1, n2, n3⟩
        have x2 : (mkS s).extract 2 (bN s 1) = mkS ((s.drop 2).take (bN s 1 - 2)) := mkS_ext _ _ _
        have x3 : (mkS s).extract (bN s 1) s.length = mkS (s.drop (bN s 1)) := by rw [mkS_ext, List.take_of_length_le (by simp)]
        cases hq : prs (s.drop (bN s 1)) with
        | none =>
          rw [prR_none hq] at hr
          rw [hq] at hp
          rw [prR_none hp]
          refine spec_nil ?_ (nil_pr _)
          refine hspec_fn Try.func33 rfl ok_custref_optionsOf okr_custref_optionsOf rfl (by kernel_rfl) ?_
          intro Γ hW0 hN0 hL0
          have hW := hW0 rfl
          clear hW0 hN0 hL0
          unfold x_custref_optionsOf r_custref_optionsOf
          repeat' (first
            | (with_reducible first | refine go_seq ?_ | refine go_region ?_ | refine go_regionD mixed_ok ?_ | refine go_cond ?_ | refine go_skip ?_ | refine go_block ?_ | refine nx_code ?_ | refine nx_block ?_ | refine go_ret ?_ | refine nx_nil ?_ | refine go_exit ?_ | refine ex_code ?_ | refine ex_loop ?_ | refine ex_here ?_)
            | ((with_reducible refine ex_past ?_ ?_); (exact by decide))
            | ((with_reducible refine endD_intro ?_ ?_); (exact by kernel_rfl))
            | ((with_reducible refine runR_n ?_ ?_); exact auN)
            | (first | (simp only [mkS_size, mkS_at, ze1, Int.toNat_natCast]) | (simp only [w0]) | (simp only [w1]) | (simp only [x1]) | (simp only [x2, x3]) | (with_reducible refine runR_call hcn ?_) | (with_reducible refine runR_call (between_spec _ _ _) ?_) | (with_reducible refine runR_call hr ?_))
            | (refine auD ?_)
            | (with_reducible refine runR_b (fun h => ?_) (fun h => ?_) <;> first | exact auH | simp only [h, runR_t, runR_f])
            | (with_reducible refine condK_bl ?_ ?_)
            | (with_reducible refine condK_b (fun h => ?_) (fun h => ?_) <;> first | exact auH | skip)
            | (first | fail | fail))
          (all_goals first | exact auP | skip)
          all_goals first
            | (exfalso; simp_all; done)
            | (exfalso; simp_all; omega)
            | skip
          all_goals with_reducible refine ret_spec2 (by (try dsimp only [RetOK, resOk, resDs, resD, resV, cellV, cellO, cellP, cellOk, htake, nfD, nfL, nfLL, nfH, lget, partOf, xget, ddrop, dtake, dget, Env.get, N8.get, env0, List.length_cons, List.length_nil, Env.set, N8.set, lset, updL]); (repeat' (first | exact trivial | exact rfl | exact nfLL_map (fun x => by simp [nfL, nfD, nfD, nfL]) | decide | apply And.intro))) ?_
          all_goals (try dsimp only [RetOK, resOk, resDs, resD, resV, cellV, cellO, cellP, cellOk, htake, nfD, nfL, nfLL, nfH, lget, partOf, xget, ddrop, dtake, dget, Env.get, N8.get, env0, List.length_cons, List.length_nil, Env.set, N8.set, lset, updL])
          all_goals (try simp only [hsM] at *)
        | some q =>
          have hql := prs_len _ _ _ (Nat.le_refl _) hq
          simp only [List.length_drop] at hql
          rw [prR_some hq] at hr
          rw [hq] at hp
          rw [prR_some hp]
          cases q with
          | nil =>
            refine hspec_fn Try.func33 rfl ok_custref_optionsOf okr_custref_optionsOf rfl (by kernel_rfl) ?_
            intro Γ hW0 hN0 hL0
            have hW := hW0 rfl
            clear hW0 hN0 hL0
            unfold x_custref_optionsOf r_custref_optionsOf
            repeat' (first
              | (with_reducible first | refine go_seq ?_ | refine go_region ?_ | refine go_regionD mixed_ok ?_ | refine go_cond ?_ | refine go_skip ?_ | refine go_block ?_ | refine nx_code ?_ | refine nx_block ?_ | refine go_ret ?_ | refine nx_nil ?_ | refine go_exit ?_ | refine ex_code ?_ | refine ex_loop ?_ | refine ex_here ?_)
              | ((with_reducible refine ex_past ?_ ?_); (exact by decide))
              | ((with_reducible refine endD_intro ?_ ?_); (exact by kernel_rfl))
              | ((with_reducible refine runR_n ?_ ?_); exact auN)
              | (first | (simp only [mkS_size, mkS_at, ze1, Int.toNat_natCast]) | (simp only [w0]) | (simp only [w1]) | (simp only [x1]) | (simp only [x2, x3]) | (with_reducible refine runR_call hcn ?_) | (with_reducible refine runR_call (between_spec _ _ _) ?_) | (with_reducible refine runR_call hr ?_))
              | (refine auD ?_)
              | (with_reducible refine runR_b (fun h => ?_) (fun h => ?_) <;> first | exact auH | simp only [h, runR_t, runR_f])
              | (with_reducible refine condK_bl ?_ ?_)
              | (with_reducible refine condK_b (fun h => ?_) (fun h => ?_) <;> first | exact auH | skip)
              | (first | (with_reducible refine runR_r ?_) | fail))
            (all_goals first | exact auP | skip)
            all_goals first
              | (exfalso; simp_all; done)
              | (exfalso; simp_all; omega)
              | skip
            refine retq_le (leG_freeze hW ⟨.d0, .d0, .d2⟩ rfl rfl ⟨rfl, rfl, by exact Nat.le_refl _⟩) (retq_le (le_leG (le_clip ⟨.d0, .d0, .d2⟩ rfl)) ?_)
            dsimp only [xtake, xdrop]
            all_goals with_reducible refine ret_spec2 (by (try dsimp only [RetOK, resOk, resDs, resD, resV, cellV, cellO, cellP, cellOk, htake, nfD, nfL, nfLL, nfH, lget, partOf, xget, ddrop, dtake, dget, Env.get, N8.get, env0, List.length_cons, List.length_nil, Env.set, N8.set, lset, updL]); (repeat' (first | exact trivial | exact rfl | exact nfLL_map (fun x => by simp [nfL, nfD, nfD, nfL]) | decide | apply And.intro))) ?_
            all_goals (try dsimp only [RetOK, resOk, resDs, resD, resV, cellV, cellO, cellP, cellOk, htake, nfD, nfL, nfLL, nfH, lget, partOf, xget, ddrop, dtake, dget, Env.get, N8.get, env0, List.length_cons, List.length_nil, Env.set, N8.set, lset, updL])
            all_goals (try simp only [hsM] at *)
            all_goals rfl
          | cons o r =>
            have hall := allOnes_map (f := Op2.enc) (fun x => rfl) (o :: r)
            refine hspec_fn Try.func33 rfl ok_custref_optionsOf okr_custref_optionsOf rfl (by kernel_rfl) ?_
            intro Γ hW0 hN0 hL0
            have hW := hW0 rfl
            clear hW0 hN0 hL0
            unfold x_custref_optionsOf r_custref_optionsOf
            repeat' (first
              | (with_reducible first | refine go_seq ?_ | refine go_region ?_ | refine go_regionD mixed_ok ?_ | refine go_cond ?_ | refine go_skip ?_ | refine go_block ?_ | refine nx_code ?_ | refine nx_block ?_ | refine go_ret ?_ | refine nx_nil ?_ | refine go_exit ?_ | refine ex_code ?_ | refine ex_loop ?_ | refine ex_here ?_)
              | ((with_reducible refine ex_past ?_ ?_); (exact by decide))
              | ((with_reducible refine endD_intro ?_ ?_); (exact by kernel_rfl))
              | ((with_reducible refine runR_n ?_ ?_); exact auN)
              | (first | (simp only [mkS_size, mkS_at, ze1, Int.toNat_natCast]) | (simp only [w0]) | (simp only [w1]) | (simp only [x1]) | (simp only [x2, x3]) | (with_reducible refine runR_call hcn ?_) | (with_reducible refine runR_call (between_spec _ _ _) ?_) | (with_reducible refine runR_call hr ?_))
              | (refine auD ?_)
              | (with_reducible refine runR_b (fun h => ?_) (fun h => ?_) <;> first | exact auH | simp only [h, runR_t, runR_f])
              | (with_reducible refine condK_bl ?_ ?_)
              | (with_reducible refine condK_b (fun h => ?_) (fun h => ?_) <;> first | exact auH | skip)
              | (first | (first | (with_reducible refine runR_l ?_) | (refine runR_n ⟨Or.inl (by simp), rfl, hall, by unfold room maxLen; simp at hql ⊢; omega⟩ ?_)) | fail))
            (all_goals first | exact auP | skip)
            all_goals first
              | (exfalso; simp_all; done)
              | (exfalso; simp_all; omega)
              | skip
            refine retq_le (leG_freeze hW ⟨.d0, .d0, .d2⟩ rfl rfl ⟨rfl, rfl, by (simp; try omega)⟩) ?_
            rw [xall (by (simp; try omega))]
            rw [show ([[DV.v (.int .i64 (bN s 0 : Nat)), DV.v (.string (mkS ((s.drop 2).take (bN s 1 - 2))))]] : List (List DV)) ++ (o :: r).map Op2.enc = ((⟨(bN s 0 : Nat), (s.drop 2).take (bN s 1 - 2)⟩ :: o :: r : List Op2).map Op2.enc) from rfl]
            all_goals with_reducible refine ret_spec2 (by (try dsimp only [RetOK, resOk, resDs, resD, resV, cellV, cellO, cellP, cellOk, htake, nfD, nfL, nfLL, nfH, lget, partOf, xget, ddrop, dtake, dget, Env.get, N8.get, env0, List.length_cons, List.length_nil, Env.set, N8.set, lset, updL]); (repeat' (first | exact trivial | exact rfl | exact nfLL_map (fun x => by simp [nfL, nfD, nfD, nfL]) | decide | apply And.intro))) ?_
            all_goals (try dsimp only [RetOK, resOk, resDs, resD, resV, cellV, cellO, cellP, cellOk, htake, nfD, nfL, nfLL, nfH, lget, partOf, xget, ddrop, dtake, dget, Env.get, N8.get, env0, List.length_cons, List.length_nil, Env.set, N8.set, lset, updL])
            all_goals (try simp only [hsM] at *)
            all_goals rfl
      · rw [prR_none (prs_no (by omega) hn)]
        refine spec_nil ?_ (nil_pr _)
        have i0 : ¬ ((bN s 0 : Nat) : Int) = 0 := by omega
        have i1 : 1 < ((bN s 0 : Nat) : Int) := by omega
        refine hspec_fn Try.func33 rfl ok_custref_optionsOf okr_custref_optionsOf rfl (by kernel_rfl) ?_
        intro Γ hW0 hN0 hL0
        have hW := hW0 rfl
        clear hW0 hN0 hL0
        unfold x_custref_optionsOf r_custref_optionsOf
        repeat' (first
          | (with_reducible first | refine go_seq ?_ | refine go_region ?_ | refine go_regionD mixed_ok ?_ | refine go_cond ?_ | refine go_skip ?_ | refine go_block ?_ | refine nx_code ?_ | refine nx_block ?_ | refine go_ret ?_ | refine nx_nil ?_ | refine go_exit ?_ | refine ex_code ?_ | refine ex_loop ?_ | refine ex_here ?_)
          | ((with_reducible refine ex_past ?_ ?_); (exact by decide))
          | ((with_reducible refine endD_intro ?_ ?_); (exact by kernel_rfl))
          | ((with_reducible refine runR_n ?_ ?_); exact auN)
          | (first | (simp only [mkS_size, mkS_at, ze1, Int.toNat_natCast]) | (simp only [w0]) | (simp only [w1]) | (simp only [x1]) | (simp only [x2, x3]) | (with_reducible refine runR_call hcn ?_) | (with_reducible refine runR_call (between_spec _ _ _) ?_) | (with_reducible refine runR_call hr ?_))
          | (refine auD ?_)
          | (with_reducible refine runR_b (fun h => ?_) (fun h => ?_) <;> first | exact auH | simp only [h, runR_t, runR_f])
          | (with_reducible refine condK_bl ?_ ?_)
          | (with_reducible refine condK_b (fun h => ?_) (fun h => ?_) <;> first | exact auH | skip)
          | (first | fail | fail))
        (all_goals first | exact auP | skip)
        all_goals first
          | (exfalso; simp_all; done)
          | (exfalso; simp_all; omega)
          | skip
        all_goals with_reducible refine ret_spec2 (by (try dsimp only [RetOK, resOk, resDs, resD, resV, cellV, cellO, cellP, cellOk, htake, nfD, nfL, nfLL, nfH, lget, partOf, xget, ddrop, dtake, dget, Env.get, N8.get, env0, List.length_cons, List.length_nil, Env.set, N8.set, lset, updL]); (repeat' (first | exact trivial | exact rfl | exact nfLL_map (fun x => by simp [nfL, nfD, nfD, nfL]) | decide | apply And.intro))) ?_
        all_goals (try dsimp only [RetOK, resOk, resDs, resD, resV, cellV, cellO, cellP, cellOk, htake, nfD, nfL, nfLL, nfH, lget, partOf, xget, ddrop, dtake, dget, Env.get, N8.get, env0, List.length_cons, List.length_nil, Env.set, N8.set, lset, updL])
        all_goals (try simp only [hsM] at *)
end Go.Proofs.Ythdghenfidkdcaa
