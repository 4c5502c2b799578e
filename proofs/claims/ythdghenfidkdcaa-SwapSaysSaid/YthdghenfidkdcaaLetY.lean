/-
  Letters: Read, in the program and in the reference.
-/
import Derived.Test.YthdghenfidkdcaaNetD
import Derived.Test.YthdghenfidkdcaaLetX
namespace Go.Proofs.Ythdghenfidkdcaa
set_option linter.unusedVariables false
set_option linter.unusedSimpArgs false
def rdOk (s : List UInt8) (a b : Int) : Prop := wordAtI s 6 = 0 ∨ foldI (wsum (und a b 17 (wordAtI s 4) ++ s.take (wordAtI s 4).toNat)) = 65535
instance (s : List UInt8) (a b : Int) : Decidable (rdOk s a b) := by unfold rdOk; infer_instance
/-- What is read: error, the ports, where the data ends. -/
def rdL (s : List UInt8) (a b : Int) : (Int × Int × List UInt8) × Int :=
  if s.length < 8 ∨ (s.length : Int) < wordAtI s 4 then ((0, 0, []), 3)
  else if ¬ (8 ≤ wordAtI s 4 ∧ wordAtI s 4 ≤ 65515) then ((0, 0, []), 4)
  else if ¬ rdOk s a b then ((0, 0, []), 5)
  else ((wordAtI s 0, wordAtI s 2, (s.drop 8).take ((wordAtI s 4).toNat - 8)), 0)
abbrev dLE (r : (Int × Int × List UInt8) × Int) : DV := .tup [dL r.1.1 r.1.2.1 r.1.2.2, .v (.int .i64 r.2)]
theorem sumOf0 (l : List UInt8) (hl : l.length ≤ 9223372036854775800) : Spec Try.prog 32 [.v (.int .i64 0), .v (.string (mkS l))] (.v (.int .i64 (foldI (wsum l)))) := by
  have := sumOf_spec 0 (by decide) l hl
  rw [Int.zero_add] at this
  exact this
set_option maxHeartbeats 2000000 in
theorem lread_spec (s : List UInt8) (a b : Int) (ha : 0 ≤ a ∧ a < 4294967296) (hb : 0 ≤ b ∧ b < 4294967296) (hl : s.length ≤ 140737488351232) : Spec Try.prog 11 [.v (.string (mkS s)), .v (.int .u32 a), .v (.int .u32 b)] (dLE (rdL s a b)) := by
  by_cases h8 : s.length < 8
  · have hr : rdL s a b = ((0, 0, []), 3) := by unfold rdL; rw [if_pos (.inl h8)]
    rw [hr]
    refine hspec_fn Try.func11 rfl ok_dgram_Read okr_dgram_Read rfl (by kernel_rfl) ?_
    intro Γ hW0 hN0 hL0
    have hW := hW0 rfl
    clear hW0 hN0 hL0
    unfold x_dgram_Read r_dgram_Read
    repeat' (first
      | (with_reducible first | refine go_seq ?_ | refine go_region ?_ | refine go_regionD mixed_ok ?_ | refine go_cond ?_ | refine go_skip ?_ | refine go_block ?_ | refine nx_code ?_ | refine nx_block ?_ | refine go_ret ?_ | refine nx_nil ?_ | refine go_exit ?_ | refine ex_code ?_ | refine ex_loop ?_ | refine ex_here ?_)
      | ((with_reducible refine ex_past ?_ ?_); (exact by decide))
      | ((with_reducible refine endD_intro ?_ ?_); (exact by kernel_rfl))
      | ((with_reducible refine runR_n ?_ ?_); exact auN)
      | (first | (simp only [mkS_app, mkS_size]) | (simp only [x1]) | (simp only [x2]) | (with_reducible refine runR_call (between_spec _ _ _) ?_) | (with_reducible refine runR_call h0 ?_) | (with_reducible refine runR_call h2 ?_) | (with_reducible refine runR_call h4 ?_) | (with_reducible refine runR_call h6 ?_) | (with_reducible refine runR_call hu ?_) | (with_reducible refine runR_call hs ?_))
      | (refine auD ?_)
      | (with_reducible refine runR_b (fun h => ?_) (fun h => ?_) <;> first | exact auH | simp only [h, runR_t, runR_f])
      | (with_reducible refine condK_bl ?_ ?_)
      | (with_reducible refine condK_b (fun h => ?_) (fun h => ?_) <;> first | exact auH | skip)
      | (refine runR_n (by simp only [mkS_app, mkS_size, List.length_append, und_len, lg_len, wd_len, letHd, List.length_take, List.length_drop]; omega) ?_))
    (all_goals first | exact auP | skip)
    all_goals first
      | (exfalso; simp_all; done)
      | skip
    all_goals with_reducible refine ret_spec2 (by (try dsimp only [RetOK, resOk, resDs, resD, resV, cellV, cellO, cellP, cellOk, htake, nfD, nfL, nfLL, nfH, lget, partOf, xget, ddrop, dtake, dget, Env.get, N8.get, env0, List.length_cons, List.length_nil, Env.set, N8.set, lset, updL]); (repeat' (first | exact trivial | exact rfl | exact nfLL_map (fun x => by simp [nfL, nfD, nfD, nfL]) | decide | apply And.intro))) ?_
    all_goals (try dsimp only [RetOK, resOk, resDs, resD, resV, cellV, cellO, cellP, cellOk, htake, nfD, nfL, nfLL, nfH, lget, partOf, xget, ddrop, dtake, dget, Env.get, N8.get, env0, List.length_cons, List.length_nil, Env.set, N8.set, lset, updL])
    all_goals (try simp only [hsM] at *)
    all_goals rfl
  have h4 := dwordAt_spec s 4 (by omega) (by omega) 4 rfl
  have hb4 := wordAtI_bd s 4
  by_cases hn : (s.length : Int) < wordAtI s 4
  · have hr : rdL s a b = ((0, 0, []), 3) := by unfold rdL; rw [if_pos (.inr hn)]
    rw [hr]
    generalize wordAtI s 4 = n at *
    refine hspec_fn Try.func11 rfl ok_dgram_Read okr_dgram_Read rfl (by kernel_rfl) ?_
    intro Γ hW0 hN0 hL0
    have hW := hW0 rfl
    clear hW0 hN0 hL0
    unfold x_dgram_Read r_dgram_Read
    repeat' (first
      | (with_reducible first | refine go_seq ?_ | refine go_region ?_ | refine go_regionD mixed_ok ?_ | refine go_cond ?_ | refine go_skip ?_ | refine go_block ?_ | refine nx_code ?_ | refine nx_block ?_ | refine go_ret ?_ | refine nx_nil ?_ | refine go_exit ?_ | refine ex_code ?_ | refine ex_loop ?_ | refine ex_here ?_)
      | ((with_reducible refine ex_past ?_ ?_); (exact by decide))
      | ((with_reducible refine endD_intro ?_ ?_); (exact by kernel_rfl))
      | ((with_reducible refine runR_n ?_ ?_); exact auN)
      | (first | (simp only [mkS_app, mkS_size]) | (simp only [x1]) | (simp only [x2]) | (with_reducible refine runR_call (between_spec _ _ _) ?_) | (with_reducible refine runR_call h0 ?_) | (with_reducible refine runR_call h2 ?_) | (with_reducible refine runR_call h4 ?_) | (with_reducible refine runR_call h6 ?_) | (with_reducible refine runR_call hu ?_) | (with_reducible refine runR_call hs ?_))
      | (refine auD ?_)
      | (with_reducible refine runR_b (fun h => ?_) (fun h => ?_) <;> first | exact auH | simp only [h, runR_t, runR_f])
      | (with_reducible refine condK_bl ?_ ?_)
      | (with_reducible refine condK_b (fun h => ?_) (fun h => ?_) <;> first | exact auH | skip)
      | (refine runR_n (by simp only [mkS_app, mkS_size, List.length_append, und_len, lg_len, wd_len, letHd, List.length_take, List.length_drop]; omega) ?_))
    (all_goals first | exact auP | skip)
    all_goals first
      | (exfalso; simp_all; done)
      | skip
    all_goals with_reducible refine ret_spec2 (by (try dsimp only [RetOK, resOk, resDs, resD, resV, cellV, cellO, cellP, cellOk, htake, nfD, nfL, nfLL, nfH, lget, partOf, xget, ddrop, dtake, dget, Env.get, N8.get, env0, List.length_cons, List.length_nil, Env.set, N8.set, lset, updL]); (repeat' (first | exact trivial | exact rfl | exact nfLL_map (fun x => by simp [nfL, nfD, nfD, nfL]) | decide | apply And.intro))) ?_
    all_goals (try dsimp only [RetOK, resOk, resDs, resD, resV, cellV, cellO, cellP, cellOk, htake, nfD, nfL, nfLL, nfH, lget, partOf, xget, ddrop, dtake, dget, Env.get, N8.get, env0, List.length_cons, List.length_nil, Env.set, N8.set, lset, updL])
    all_goals (try simp only [hsM] at *)
    all_goals rfl
  by_cases hf : 8 ≤ wordAtI s 4 ∧ wordAtI s 4 ≤ 65515
  · have h0 := dwordAt_spec s 0 (by omega) (by omega) 0 rfl
    have h2 := dwordAt_spec s 2 (by omega) (by omega) 2 rfl
    have h6 := dwordAt_spec s 6 (by omega) (by omega) 6 rfl
    have hb6 := wordAtI_bd s 6
    have hu := under_spec a b 17 (wordAtI s 4) ha hb
    have hs := right_spec (und a b 17 (wordAtI s 4) ++ s.take (wordAtI s 4).toNat) (by simp only [List.length_append, und_len, List.length_take]; omega)
    have x1 : (mkS s).extract 0 (wordAtI s 4).toNat = mkS (s.take (wordAtI s 4).toNat) := by rw [mkS_ext]; rfl
    have x2 : (mkS s).extract 8 (wordAtI s 4).toNat = mkS ((s.drop 8).take ((wordAtI s 4).toNat - 8)) := mkS_ext _ _ _
    by_cases hk : rdOk s a b
    · have hr : rdL s a b = ((wordAtI s 0, wordAtI s 2, (s.drop 8).take ((wordAtI s 4).toNat - 8)), 0) := by unfold rdL; rw [if_neg (by omega), if_neg (not_not_intro hf), if_neg (not_not_intro hk)]
      rw [hr]
      unfold rdOk at hk
      clear hr
      generalize foldI (wsum (und a b 17 (wordAtI s 4) ++ s.take (wordAtI s 4).toNat)) = c at *
      generalize wordAtI s 4 = n at *
      generalize wordAtI s 6 = m at *
      rcases hk with rfl | rfl
      · skip
        refine hspec_fn Try.func11 rfl ok_dgram_Read okr_dgram_Read rfl (by kernel_rfl) ?_
        intro Γ hW0 hN0 hL0
        have hW := hW0 rfl
        clear hW0 hN0 hL0
        unfold x_dgram_Read r_dgram_Read
        repeat' (first
          | (with_reducible first | refine go_seq ?_ | refine go_region ?_ | refine go_regionD mixed_ok ?_ | refine go_cond ?_ | refine go_skip ?_ | refine go_block ?_ | refine nx_code ?_ | refine nx_block ?_ | refine go_ret ?_ | refine nx_nil ?_ | refine go_exit ?_ | refine ex_code ?_ | refine ex_loop ?_ | refine ex_here ?_)
          | ((with_reducible refine ex_past ?_ ?_); (exact by decide))
          | ((with_reducible refine endD_intro ?_ ?_); (exact by kernel_rfl))
          | ((with_reducible refine runR_n ?_ ?_); exact auN)
          | (first | (simp only [mkS_app, mkS_size]) | (simp only [x1]) | (simp only [x2]) | (with_reducible refine runR_call (between_spec _ _ _) ?_) | (with_reducible refine runR_call h0 ?_) | (with_reducible refine runR_call h2 ?_) | (with_reducible refine runR_call h4 ?_) | (with_reducible refine runR_call h6 ?_) | (with_reducible refine runR_call hu ?_) | (with_reducible refine runR_call hs ?_))
          | (refine auD ?_)
          | (with_reducible refine runR_b (fun h => ?_) (fun h => ?_) <;> first | exact auH | simp only [h, runR_t, runR_f])
          | (with_reducible refine condK_bl ?_ ?_)
          | (with_reducible refine condK_b (fun h => ?_) (fun h => ?_) <;> first | exact auH | skip)
          | (refine runR_n (by simp only [mkS_app, mkS_size, List.length_append, und_len, lg_len, wd_len, letHd, List.length_take, List.length_drop]; omega) ?_))
        (all_goals first | exact auP | skip)
        all_goals first
          | (exfalso; simp_all; done)
          | skip
        all_goals with_reducible refine ret_spec2 (by (try dsimp only [RetOK, resOk, resDs, resD, resV, cellV, cellO, cellP, cellOk, htake, nfD, nfL, nfLL, nfH, lget, partOf, xget, ddrop, dtake, dget, Env.get, N8.get, env0, List.length_cons, List.length_nil, Env.set, N8.set, lset, updL]); (repeat' (first | exact trivial | exact rfl | exact nfLL_map (fun x => by simp [nfL, nfD, nfD, nfL]) | decide | apply And.intro))) ?_
        all_goals (try dsimp only [RetOK, resOk, resDs, resD, resV, cellV, cellO, cellP, cellOk, htake, nfD, nfL, nfLL, nfH, lget, partOf, xget, ddrop, dtake, dget, Env.get, N8.get, env0, List.length_cons, List.length_nil, Env.set, N8.set, lset, updL])
        all_goals (try simp only [hsM] at *)
        all_goals rfl
      · by_cases hm : m = 0
        · subst hm
          refine hspec_fn Try.func11 rfl ok_dgram_Read okr_dgram_Read rfl (by kernel_rfl) ?_
          intro Γ hW0 hN0 hL0
          have hW := hW0 rfl
          clear hW0 hN0 hL0
          unfold x_dgram_Read r_dgram_Read
          repeat' (first
            | (with_reducible first | refine go_seq ?_ | refine go_region ?_ | refine go_regionD mixed_ok ?_ | refine go_cond ?_ | refine go_skip ?_ | refine go_block ?_ | refine nx_code ?_ | refine nx_block ?_ | refine go_ret ?_ | refine nx_nil ?_ | refine go_exit ?_ | refine ex_code ?_ | refine ex_loop ?_ | refine ex_here ?_)
            | ((with_reducible refine ex_past ?_ ?_); (exact by decide))
            | ((with_reducible refine endD_intro ?_ ?_); (exact by kernel_rfl))
            | ((with_reducible refine runR_n ?_ ?_); exact auN)
            | (first | (simp only [mkS_app, mkS_size]) | (simp only [x1]) | (simp only [x2]) | (with_reducible refine runR_call (between_spec _ _ _) ?_) | (with_reducible refine runR_call h0 ?_) | (with_reducible refine runR_call h2 ?_) | (with_reducible refine runR_call h4 ?_) | (with_reducible refine runR_call h6 ?_) | (with_reducible refine runR_call hu ?_) | (with_reducible refine runR_call hs ?_))
            | (refine auD ?_)
            | (with_reducible refine runR_b (fun h => ?_) (fun h => ?_) <;> first | exact auH | simp only [h, runR_t, runR_f])
            | (with_reducible refine condK_bl ?_ ?_)
            | (with_reducible refine condK_b (fun h => ?_) (fun h => ?_) <;> first | exact auH | skip)
            | (refine runR_n (by simp only [mkS_app, mkS_size, List.length_append, und_len, lg_len, wd_len, letHd, List.length_take, List.length_drop]; omega) ?_))
          (all_goals first | exact auP | skip)
          all_goals first
            | (exfalso; simp_all; done)
            | skip
          all_goals with_reducible refine ret_spec2 (by (try dsimp only [RetOK, resOk, resDs, resD, resV, cellV, cellO, cellP, cellOk, htake, nfD, nfL, nfLL, nfH, lget, partOf, xget, ddrop, dtake, dget, Env.get, N8.get, env0, List.length_cons, List.length_nil, Env.set, N8.set, lset, updL]); (repeat' (first | exact trivial | exact rfl | exact nfLL_map (fun x => by simp [nfL, nfD, nfD, nfL]) | decide | apply And.intro))) ?_
          all_goals (try dsimp only [RetOK, resOk, resDs, resD, resV, cellV, cellO, cellP, cellOk, htake, nfD, nfL, nfLL, nfH, lget, partOf, xget, ddrop, dtake, dget, Env.get, N8.get, env0, List.length_cons, List.length_nil, Env.set, N8.set, lset, updL])
          all_goals (try simp only [hsM] at *)
          all_goals rfl
        · skip
          refine hspec_fn Try.func11 rfl ok_dgram_Read okr_dgram_Read rfl (by kernel_rfl) ?_
          intro Γ hW0 hN0 hL0
          have hW := hW0 rfl
          clear hW0 hN0 hL0
          unfold x_dgram_Read r_dgram_Read
          repeat' (first
            | (with_reducible first | refine go_seq ?_ | refine go_region ?_ | refine go_regionD mixed_ok ?_ | refine go_cond ?_ | refine go_skip ?_ | refine go_block ?_ | refine nx_code ?_ | refine nx_block ?_ | refine go_ret ?_ | refine nx_nil ?_ | refine go_exit ?_ | refine ex_code ?_ | refine ex_loop ?_ | refine ex_here ?_)
            | ((with_reducible refine ex_past ?_ ?_); (exact by decide))
            | ((with_reducible refine endD_intro ?_ ?_); (exact by kernel_rfl))
            | ((with_reducible refine runR_n ?_ ?_); exact auN)
            | (first | (simp only [mkS_app, mkS_size]) | (simp only [x1]) | (simp only [x2]) | (with_reducible refine runR_call (between_spec _ _ _) ?_) | (with_reducible refine runR_call h0 ?_) | (with_reducible refine runR_call h2 ?_) | (with_reducible refine runR_call h4 ?_) | (with_reducible refine runR_call h6 ?_) | (with_reducible refine runR_call hu ?_) | (with_reducible refine runR_call hs ?_))
            | (refine auD ?_)
            | (with_reducible refine runR_b (fun h => ?_) (fun h => ?_) <;> first | exact auH | simp only [h, runR_t, runR_f])
            | (with_reducible refine condK_bl ?_ ?_)
            | (with_reducible refine condK_b (fun h => ?_) (fun h => ?_) <;> first | exact auH | skip)
            | (refine runR_n (by simp only [mkS_app, mkS_size, List.length_append, und_len, lg_len, wd_len, letHd, List.length_take, List.length_drop]; omega) ?_))
          (all_goals first | exact auP | skip)
          all_goals first
            | (exfalso; simp_all; done)
            | skip
          all_goals with_reducible refine ret_spec2 (by (try dsimp only [RetOK, resOk, resDs, resD, resV, cellV, cellO, cellP, cellOk, htake, nfD, nfL, nfLL, nfH, lget, partOf, xget, ddrop, dtake, dget, Env.get, N8.get, env0, List.length_cons, List.length_nil, Env.set, N8.set, lset, updL]); (repeat' (first | exact trivial | exact rfl | exact nfLL_map (fun x => by simp [nfL, nfD, nfD, nfL]) | decide | apply And.intro))) ?_
          all_goals (try dsimp only [RetOK, resOk, resDs, resD, resV, cellV, cellO, cellP, cellOk, htake, nfD, nfL, nfLL, nfH, lget, partOf, xget, ddrop, dtake, dget, Env.get, N8.get, env0, List.length_cons, List.length_nil, Env.set, N8.set, lset, updL])
          all_goals (try simp only [hsM] at *)
          all_goals rfl
    · have hr : rdL s a b = ((0, 0, []), 5) := by unfold rdL; rw [if_neg (by omega), if_neg (not_not_intro hf), if_pos hk]
      rw [hr]
      unfold rdOk at hk
      clear hr
      generalize foldI (wsum (und a b 17 (wordAtI s 4) ++ s.take (wordAtI s 4).toNat)) = c at *
      generalize wordAtI s 4 = n at *
      generalize wordAtI s 6 = m at *
      have hm : ¬ m = 0 := fun q => hk (.inl q)
      have hc : ¬ c = 65535 := fun q => hk (.inr q)
      clear hk
      refine hspec_fn Try.func11 rfl ok_dgram_Read okr_dgram_Read rfl (by kernel_rfl) ?_
      intro Γ hW0 hN0 hL0
      have hW := hW0 rfl
      clear hW0 hN0 hL0
      unfold x_dgram_Read r_dgram_Read
      repeat' (first
        | (with_reducible first | refine go_seq ?_ | refine go_region ?_ | refine go_regionD mixed_ok ?_ | refine go_cond ?_ | refine go_skip ?_ | refine go_block ?_ | refine nx_code ?_ | refine nx_block ?_ | refine go_ret ?_ | refine nx_nil ?_ | refine go_exit ?_ | refine ex_code ?_ | refine ex_loop ?_ | refine ex_here ?_)
        | ((with_reducible refine ex_past ?_ ?_); (exact by decide))
        | ((with_reducible refine endD_intro ?_ ?_); (exact by kernel_rfl))
        | ((with_reducible refine runR_n ?_ ?_); exact auN)
        | (first | (simp only [mkS_app, mkS_size]) | (simp only [x1]) | (simp only [x2]) | (with_reducible refine runR_call (between_spec _ _ _) ?_) | (with_reducible refine runR_call h0 ?_) | (with_reducible refine runR_call h2 ?_) | (with_reducible refine runR_call h4 ?_) | (with_reducible refine runR_call h6 ?_) | (with_reducible refine runR_call hu ?_) | (with_reducible refine runR_call hs ?_))
        | (refine auD ?_)
        | (with_reducible refine runR_b (fun h => ?_) (fun h => ?_) <;> first | exact auH | simp only [h, runR_t, runR_f])
        | (with_reducible refine condK_bl ?_ ?_)
        | (with_reducible refine condK_b (fun h => ?_) (fun h => ?_) <;> first | exact auH | skip)
        | (refine runR_n (by simp only [mkS_app, mkS_size, List.length_append, und_len, lg_len, wd_len, letHd, List.length_take, List.length_drop]; omega) ?_))
      (all_goals first | exact auP | skip)
      all_goals first
        | (exfalso; simp_all; done)
        | skip
      all_goals with_reducible refine ret_spec2 (by (try dsimp only [RetOK, resOk, resDs, resD, resV, cellV, cellO, cellP, cellOk, htake, nfD, nfL, nfLL, nfH, lget, partOf, xget, ddrop, dtake, dget, Env.get, N8.get, env0, List.length_cons, List.length_nil, Env.set, N8.set, lset, updL]); (repeat' (first | exact trivial | exact rfl | exact nfLL_map (fun x => by simp [nfL, nfD, nfD, nfL]) | decide | apply And.intro))) ?_
      all_goals (try dsimp only [RetOK, resOk, resDs, resD, resV, cellV, cellO, cellP, cellOk, htake, nfD, nfL, nfLL, nfH, lget, partOf, xget, ddrop, dtake, dget, Env.get, N8.get, env0, List.length_cons, List.length_nil, Env.set, N8.set, lset, updL])
      all_goals (try simp only [hsM] at *)
      all_goals rfl
  · have hr : rdL s a b = ((0, 0, []), 4) := by unfold rdL; rw [if_neg (by omega), if_pos hf]
    rw [hr]
    clear hr
    generalize wordAtI s 4 = n at *
    refine hspec_fn Try.func11 rfl ok_dgram_Read okr_dgram_Read rfl (by kernel_rfl) ?_
    intro Γ hW0 hN0 hL0
    have hW := hW0 rfl
    clear hW0 hN0 hL0
    unfold x_dgram_Read r_dgram_Read
    repeat' (first
      | (with_reducible first | refine go_seq ?_ | refine go_region ?_ | refine go_regionD mixed_ok ?_ | refine go_cond ?_ | refine go_skip ?_ | refine go_block ?_ | refine nx_code ?_ | refine nx_block ?_ | refine go_ret ?_ | refine nx_nil ?_ | refine go_exit ?_ | refine ex_code ?_ | refine ex_loop ?_ | refine ex_here ?_)
      | ((with_reducible refine ex_past ?_ ?_); (exact by decide))
      | ((with_reducible refine endD_intro ?_ ?_); (exact by kernel_rfl))
      | ((with_reducible refine runR_n ?_ ?_); exact auN)
      | (first | (simp only [mkS_app, mkS_size]) | (simp only [x1]) | (simp only [x2]) | (with_reducible refine runR_call (between_spec _ _ _) ?_) | (with_reducible refine runR_call h0 ?_) | (with_reducible refine runR_call h2 ?_) | (with_reducible refine runR_call h4 ?_) | (with_reducible refine runR_call h6 ?_) | (with_reducible refine runR_call hu ?_) | (with_reducible refine runR_call hs ?_))
      | (refine auD ?_)
      | (with_reducible refine runR_b (fun h => ?_) (fun h => ?_) <;> first | exact auH | simp only [h, runR_t, runR_f])
      | (with_reducible refine condK_bl ?_ ?_)
      | (with_reducible refine condK_b (fun h => ?_) (fun h => ?_) <;> first | exact auH | skip)
      | (refine runR_n (by simp only [mkS_app, mkS_size, List.length_append, und_len, lg_len, wd_len, letHd, List.length_take, List.length_drop]; omega) ?_))
    (all_goals first | exact auP | skip)
    all_goals first
      | (exfalso; simp_all; done)
      | skip
    all_goals with_reducible refine ret_spec2 (by (try dsimp only [RetOK, resOk, resDs, resD, resV, cellV, cellO, cellP, cellOk, htake, nfD, nfL, nfLL, nfH, lget, partOf, xget, ddrop, dtake, dget, Env.get, N8.get, env0, List.length_cons, List.length_nil, Env.set, N8.set, lset, updL]); (repeat' (first | exact trivial | exact rfl | exact nfLL_map (fun x => by simp [nfL, nfD, nfD, nfL]) | decide | apply And.intro))) ?_
    all_goals (try dsimp only [RetOK, resOk, resDs, resD, resV, cellV, cellO, cellP, cellOk, htake, nfD, nfL, nfLL, nfH, lget, partOf, xget, ddrop, dtake, dget, Env.get, N8.get, env0, List.length_cons, List.length_nil, Env.set, N8.set, lset, updL])
    all_goals (try simp only [hsM] at *)
    all_goals rfl
set_option maxHeartbeats 2000000 in
theorem tletter_spec (s : List UInt8) (a b : Int) (ha : 0 ≤ a ∧ a < 4294967296) (hb : 0 ≤ b ∧ b < 4294967296) (hl : s.length ≤ 140737488351232) : Spec Try.prog 14 [.v (.string (mkS s)), .v (.int .u32 a), .v (.int .u32 b)] (dLE (rdL s a b)) := by
  by_cases h8 : s.length < 8
  · have hr : rdL s a b = ((0, 0, []), 3) := by unfold rdL; rw [if_pos (.inl h8)]
    rw [hr]
    refine hspec_fn Try.func14 rfl ok_custref_TextLetter okr_custref_TextLetter rfl (by kernel_rfl) ?_
    intro Γ hW0 hN0 hL0
    have hW := hW0 rfl
    clear hW0 hN0 hL0
    unfold x_custref_TextLetter r_custref_TextLetter
    repeat' (first
      | (with_reducible first | refine go_seq ?_ | refine go_region ?_ | refine go_regionD mixed_ok ?_ | refine go_cond ?_ | refine go_skip ?_ | refine go_block ?_ | refine nx_code ?_ | refine nx_block ?_ | refine go_ret ?_ | refine nx_nil ?_ | refine go_exit ?_ | refine ex_code ?_ | refine ex_loop ?_ | refine ex_here ?_)
      | ((with_reducible refine ex_past ?_ ?_); (exact by decide))
      | ((with_reducible refine endD_intro ?_ ?_); (exact by kernel_rfl))
      | ((with_reducible refine runR_n ?_ ?_); exact auN)
      | (first | (simp only [mkS_app, mkS_size]) | (simp only [x1]) | (simp only [x2]) | (with_reducible refine runR_call (between_spec _ _ _) ?_) | (with_reducible refine runR_call h0 ?_) | (with_reducible refine runR_call h2 ?_) | (with_reducible refine runR_call h4 ?_) | (with_reducible refine runR_call h6 ?_) | (with_reducible refine runR_call hu ?_) | (with_reducible refine runR_call hs ?_))
      | (refine auD ?_)
      | (with_reducible refine runR_b (fun h => ?_) (fun h => ?_) <;> first | exact auH | simp only [h, runR_t, runR_f])
      | (with_reducible refine condK_bl ?_ ?_)
      | (with_reducible refine condK_b (fun h => ?_) (fun h => ?_) <;> first | exact auH | skip)
      | (refine runR_n (by simp only [mkS_app, mkS_size, List.length_append, und_len, lg_len, wd_len, letHd, List.length_take, List.length_drop]; omega) ?_))
    (all_goals first | exact auP | skip)
    all_goals first
      | (exfalso; simp_all; done)
      | skip
    all_goals with_reducible refine ret_spec2 (by (try dsimp only [RetOK, resOk, resDs, resD, resV, cellV, cellO, cellP, cellOk, htake, nfD, nfL, nfLL, nfH, lget, partOf, xget, ddrop, dtake, dget, Env.get, N8.get, env0, List.length_cons, List.length_nil, Env.set, N8.set, lset, updL]); (repeat' (first | exact trivial | exact rfl | exact nfLL_map (fun x => by simp [nfL, nfD, nfD, nfL]) | decide | apply And.intro))) ?_
    all_goals (try dsimp only [RetOK, resOk, resDs, resD, resV, cellV, cellO, cellP, cellOk, htake, nfD, nfL, nfLL, nfH, lget, partOf, xget, ddrop, dtake, dget, Env.get, N8.get, env0, List.length_cons, List.length_nil, Env.set, N8.set, lset, updL])
    all_goals (try simp only [hsM] at *)
    all_goals rfl
  have h4 := wordAt_spec s 4 (by omega) (by omega) 4 rfl
  have hb4 := wordAtI_bd s 4
  by_cases hn : (s.length : Int) < wordAtI s 4
  · have hr : rdL s a b = ((0, 0, []), 3) := by unfold rdL; rw [if_pos (.inr hn)]
    rw [hr]
    generalize wordAtI s 4 = n at *
    refine hspec_fn Try.func14 rfl ok_custref_TextLetter okr_custref_TextLetter rfl (by kernel_rfl) ?_
    intro Γ hW0 hN0 hL0
    have hW := hW0 rfl
    clear hW0 hN0 hL0
    unfold x_custref_TextLetter r_custref_TextLetter
    repeat' (first
      | (with_reducible first | refine go_seq ?_ | refine go_region ?_ | refine go_regionD mixed_ok ?_ | refine go_cond ?_ | refine go_skip ?_ | refine go_block ?_ | refine nx_code ?_ | refine nx_block ?_ | refine go_ret ?_ | refine nx_nil ?_ | refine go_exit ?_ | refine ex_code ?_ | refine ex_loop ?_ | refine ex_here ?_)
      | ((with_reducible refine ex_past ?_ ?_); (exact by decide))
      | ((with_reducible refine endD_intro ?_ ?_); (exact by kernel_rfl))
      | ((with_reducible refine runR_n ?_ ?_); exact auN)
      | (first | (simp only [mkS_app, mkS_size]) | (simp only [x1]) | (simp only [x2]) | (with_reducible refine runR_call (between_spec _ _ _) ?_) | (with_reducible refine runR_call h0 ?_) | (with_reducible refine runR_call h2 ?_) | (with_reducible refine runR_call h4 ?_) | (with_reducible refine runR_call h6 ?_) | (with_reducible refine runR_call hu ?_) | (with_reducible refine runR_call hs ?_))
      | (refine auD ?_)
      | (with_reducible refine runR_b (fun h => ?_) (fun h => ?_) <;> first | exact auH | simp only [h, runR_t, runR_f])
      | (with_reducible refine condK_bl ?_ ?_)
      | (with_reducible refine condK_b (fun h => ?_) (fun h => ?_) <;> first | exact auH | skip)
      | (refine runR_n (by simp only [mkS_app, mkS_size, List.length_append, und_len, lg_len, wd_len, letHd, List.length_take, List.length_drop]; omega) ?_))
    (all_goals first | exact auP | skip)
    all_goals first
      | (exfalso; simp_all; done)
      | skip
    all_goals with_reducible refine ret_spec2 (by (try dsimp only [RetOK, resOk, resDs, resD, resV, cellV, cellO, cellP, cellOk, htake, nfD, nfL, nfLL, nfH, lget, partOf, xget, ddrop, dtake, dget, Env.get, N8.get, env0, List.length_cons, List.length_nil, Env.set, N8.set, lset, updL]); (repeat' (first | exact trivial | exact rfl | exact nfLL_map (fun x => by simp [nfL, nfD, nfD, nfL]) | decide | apply And.intro))) ?_
    all_goals (try dsimp only [RetOK, resOk, resDs, resD, resV, cellV, cellO, cellP, cellOk, htake, nfD, nfL, nfLL, nfH, lget, partOf, xget, ddrop, dtake, dget, Env.get, N8.get, env0, List.length_cons, List.length_nil, Env.set, N8.set, lset, updL])
    all_goals (try simp only [hsM] at *)
    all_goals rfl
  by_cases hf : 8 ≤ wordAtI s 4 ∧ wordAtI s 4 ≤ 65515
  · have h0 := wordAt_spec s 0 (by omega) (by omega) 0 rfl
    have h2 := wordAt_spec s 2 (by omega) (by omega) 2 rfl
    have h6 := wordAt_spec s 6 (by omega) (by omega) 6 rfl
    have hb6 := wordAtI_bd s 6
    have hu := underText_spec a b 17 (wordAtI s 4) ha hb
    have hs := sumOf0 (und a b 17 (wordAtI s 4) ++ s.take (wordAtI s 4).toNat) (by simp only [List.length_append, und_len, List.length_take]; omega)
    have x1 : (mkS s).extract 0 (wordAtI s 4).toNat = mkS (s.take (wordAtI s 4).toNat) := by rw [mkS_ext]; rfl
    have x2 : (mkS s).extract 8 (wordAtI s 4).toNat = mkS ((s.drop 8).take ((wordAtI s 4).toNat - 8)) := mkS_ext _ _ _
    by_cases hk : rdOk s a b
    · have hr : rdL s a b = ((wordAtI s 0, wordAtI s 2, (s.drop 8).take ((wordAtI s 4).toNat - 8)), 0) := by unfold rdL; rw [if_neg (by omega), if_neg (not_not_intro hf), if_neg (not_not_intro hk)]
      rw [hr]
      unfold rdOk at hk
      clear hr
      generalize foldI (wsum (und a b 17 (wordAtI s 4) ++ s.take (wordAtI s 4).toNat)) = c at *
      generalize wordAtI s 4 = n at *
      generalize wordAtI s 6 = m at *
      rcases hk with rfl | rfl
      · skip
        refine hspec_fn Try.func14 rfl ok_custref_TextLetter okr_custref_TextLetter rfl (by kernel_rfl) ?_
        intro Γ hW0 hN0 hL0
        have hW := hW0 rfl
        clear hW0 hN0 hL0
        unfold x_custref_TextLetter r_custref_TextLetter
        repeat' (first
          | (with_reducible first | refine go_seq ?_ | refine go_region ?_ | refine go_regionD mixed_ok ?_ | refine go_cond ?_ | refine go_skip ?_ | refine go_block ?_ | refine nx_code ?_ | refine nx_block ?_ | refine go_ret ?_ | refine nx_nil ?_ | refine go_exit ?_ | refine ex_code ?_ | refine ex_loop ?_ | refine ex_here ?_)
          | ((with_reducible refine ex_past ?_ ?_); (exact by decide))
          | ((with_reducible refine endD_intro ?_ ?_); (exact by kernel_rfl))
          | ((with_reducible refine runR_n ?_ ?_); exact auN)
          | (first | (simp only [mkS_app, mkS_size]) | (simp only [x1]) | (simp only [x2]) | (with_reducible refine runR_call (between_spec _ _ _) ?_) | (with_reducible refine runR_call h0 ?_) | (with_reducible refine runR_call h2 ?_) | (with_reducible refine runR_call h4 ?_) | (with_reducible refine runR_call h6 ?_) | (with_reducible refine runR_call hu ?_) | (with_reducible refine runR_call hs ?_))
          | (refine auD ?_)
          | (with_reducible refine runR_b (fun h => ?_) (fun h => ?_) <;> first | exact auH | simp only [h, runR_t, runR_f])
          | (with_reducible refine condK_bl ?_ ?_)
          | (with_reducible refine condK_b (fun h => ?_) (fun h => ?_) <;> first | exact auH | skip)
          | (refine runR_n (by simp only [mkS_app, mkS_size, List.length_append, und_len, lg_len, wd_len, letHd, List.length_take, List.length_drop]; omega) ?_))
        (all_goals first | exact auP | skip)
        all_goals first
          | (exfalso; simp_all; done)
          | skip
        all_goals with_reducible refine ret_spec2 (by (try dsimp only [RetOK, resOk, resDs, resD, resV, cellV, cellO, cellP, cellOk, htake, nfD, nfL, nfLL, nfH, lget, partOf, xget, ddrop, dtake, dget, Env.get, N8.get, env0, List.length_cons, List.length_nil, Env.set, N8.set, lset, updL]); (repeat' (first | exact trivial | exact rfl | exact nfLL_map (fun x => by simp [nfL, nfD, nfD, nfL]) | decide | apply And.intro))) ?_
        all_goals (try dsimp only [RetOK, resOk, resDs, resD, resV, cellV, cellO, cellP, cellOk, htake, nfD, nfL, nfLL, nfH, lget, partOf, xget, ddrop, dtake, dget, Env.get, N8.get, env0, List.length_cons, List.length_nil, Env.set, N8.set, lset, updL])
        all_goals (try simp only [hsM] at *)
        all_goals rfl
      · by_cases hm : m = 0
        · subst hm
          refine hspec_fn Try.func14 rfl ok_custref_TextLetter okr_custref_TextLetter rfl (by kernel_rfl) ?_
          intro Γ hW0 hN0 hL0
          have hW := hW0 rfl
          clear hW0 hN0 hL0
          unfold x_custref_TextLetter r_custref_TextLetter
          repeat' (first
            | (with_reducible first | refine go_seq ?_ | refine go_region ?_ | refine go_regionD mixed_ok ?_ | refine go_cond ?_ | refine go_skip ?_ | refine go_block ?_ | refine nx_code ?_ | refine nx_block ?_ | refine go_ret ?_ | refine nx_nil ?_ | refine go_exit ?_ | refine ex_code ?_ | refine ex_loop ?_ | refine ex_here ?_)
            | ((with_reducible refine ex_past ?_ ?_); (exact by decide))
            | ((with_reducible refine endD_intro ?_ ?_); (exact by kernel_rfl))
            | ((with_reducible refine runR_n ?_ ?_); exact auN)
            | (first | (simp only [mkS_app, mkS_size]) | (simp only [x1]) | (simp only [x2]) | (with_reducible refine runR_call (between_spec _ _ _) ?_) | (with_reducible refine runR_call h0 ?_) | (with_reducible refine runR_call h2 ?_) | (with_reducible refine runR_call h4 ?_) | (with_reducible refine runR_call h6 ?_) | (with_reducible refine runR_call hu ?_) | (with_reducible refine runR_call hs ?_))
            | (refine auD ?_)
            | (with_reducible refine runR_b (fun h => ?_) (fun h => ?_) <;> first | exact auH | simp only [h, runR_t, runR_f])
            | (with_reducible refine condK_bl ?_ ?_)
            | (with_reducible refine condK_b (fun h => ?_) (fun h => ?_) <;> first | exact auH | skip)
            | (refine runR_n (by simp only [mkS_app, mkS_size, List.length_append, und_len, lg_len, wd_len, letHd, List.length_take, List.length_drop]; omega) ?_))
          (all_goals first | exact auP | skip)
          all_goals first
            | (exfalso; simp_all; done)
            | skip
          all_goals with_reducible refine ret_spec2 (by (try dsimp only [RetOK, resOk, resDs, resD, resV, cellV, cellO, cellP, cellOk, htake, nfD, nfL, nfLL, nfH, lget, partOf, xget, ddrop, dtake, dget, Env.get, N8.get, env0, List.length_cons, List.length_nil, Env.set, N8.set, lset, updL]); (repeat' (first | exact trivial | exact rfl | exact nfLL_map (fun x => by simp [nfL, nfD, nfD, nfL]) | decide | apply And.intro))) ?_
          all_goals (try dsimp only [RetOK, resOk, resDs, resD, resV, cellV, cellO, cellP, cellOk, htake, nfD, nfL, nfLL, nfH, lget, partOf, xget, ddrop, dtake, dget, Env.get, N8.get, env0, List.length_cons, List.length_nil, Env.set, N8.set, lset, updL])
          all_goals (try simp only [hsM] at *)
          all_goals rfl
        · skip
          refine hspec_fn Try.func14 rfl ok_custref_TextLetter okr_custref_TextLetter rfl (by kernel_rfl) ?_
          intro Γ hW0 hN0 hL0
          have hW := hW0 rfl
          clear hW0 hN0 hL0
          unfold x_custref_TextLetter r_custref_TextLetter
          repeat' (first
            | (with_reducible first | refine go_seq ?_ | refine go_region ?_ | refine go_regionD mixed_ok ?_ | refine go_cond ?_ | refine go_skip ?_ | refine go_block ?_ | refine nx_code ?_ | refine nx_block ?_ | refine go_ret ?_ | refine nx_nil ?_ | refine go_exit ?_ | refine ex_code ?_ | refine ex_loop ?_ | refine ex_here ?_)
            | ((with_reducible refine ex_past ?_ ?_); (exact by decide))
            | ((with_reducible refine endD_intro ?_ ?_); (exact by kernel_rfl))
            | ((with_reducible refine runR_n ?_ ?_); exact auN)
            | (first | (simp only [mkS_app, mkS_size]) | (simp only [x1]) | (simp only [x2]) | (with_reducible refine runR_call (between_spec _ _ _) ?_) | (with_reducible refine runR_call h0 ?_) | (with_reducible refine runR_call h2 ?_) | (with_reducible refine runR_call h4 ?_) | (with_reducible refine runR_call h6 ?_) | (with_reducible refine runR_call hu ?_) | (with_reducible refine runR_call hs ?_))
            | (refine auD ?_)
            | (with_reducible refine runR_b (fun h => ?_) (fun h => ?_) <;> first | exact auH | simp only [h, runR_t, runR_f])
            | (with_reducible refine condK_bl ?_ ?_)
            | (with_reducible refine condK_b (fun h => ?_) (fun h => ?_) <;> first | exact auH | skip)
            | (refine runR_n (by simp only [mkS_app, mkS_size, List.length_append, und_len, lg_len, wd_len, letHd, List.length_take, List.length_drop]; omega) ?_))
          (all_goals first | exact auP | skip)
          all_goals first
            | (exfalso; simp_all; done)
            | skip
          all_goals with_reducible refine ret_spec2 (by (try dsimp only [RetOK, resOk, resDs, resD, resV, cellV, cellO, cellP, cellOk, htake, nfD, nfL, nfLL, nfH, lget, partOf, xget, ddrop, dtake, dget, Env.get, N8.get, env0, List.length_cons, List.length_nil, Env.set, N8.set, lset, updL]); (repeat' (first | exact trivial | exact rfl | exact nfLL_map (fun x => by simp [nfL, nfD, nfD, nfL]) | decide | apply And.intro))) ?_
          all_goals (try dsimp only [RetOK, resOk, resDs, resD, resV, cellV, cellO, cellP, cellOk, htake, nfD, nfL, nfLL, nfH, lget, partOf, xget, ddrop, dtake, dget, Env.get, N8.get, env0, List.length_cons, List.length_nil, Env.set, N8.set, lset, updL])
          all_goals (try simp only [hsM] at *)
          all_goals rfl
    · have hr : rdL s a b = ((0, 0, []), 5) := by unfold rdL; rw [if_neg (by omega), if_neg (not_not_intro hf), if_pos hk]
      rw [hr]
      unfold rdOk at hk
      clear hr
      generalize foldI (wsum (und a b 17 (wordAtI s 4) ++ s.take (wordAtI s 4).toNat)) = c at *
      generalize wordAtI s 4 = n at *
      generalize wordAtI s 6 = m at *
      have hm : ¬ m = 0 := fun q => hk (.inl q)
      have hc : ¬ c = 65535 := fun q => hk (.inr q)
      clear hk
      refine hspec_fn Try.func14 rfl ok_custref_TextLetter okr_custref_TextLetter rfl (by kernel_rfl) ?_
      intro Γ hW0 hN0 hL0
      have hW := hW0 rfl
      clear hW0 hN0 hL0
      unfold x_custref_TextLetter r_custref_TextLetter
      repeat' (first
        | (with_reducible first | refine go_seq ?_ | refine go_region ?_ | refine go_regionD mixed_ok ?_ | refine go_cond ?_ | refine go_skip ?_ | refine go_block ?_ | refine nx_code ?_ | refine nx_block ?_ | refine go_ret ?_ | refine nx_nil ?_ | refine go_exit ?_ | refine ex_code ?_ | refine ex_loop ?_ | refine ex_here ?_)
        | ((with_reducible refine ex_past ?_ ?_); (exact by decide))
        | ((with_reducible refine endD_intro ?_ ?_); (exact by kernel_rfl))
        | ((with_reducible refine runR_n ?_ ?_); exact auN)
        | (first | (simp only [mkS_app, mkS_size]) | (simp only [x1]) | (simp only [x2]) | (with_reducible refine runR_call (between_spec _ _ _) ?_) | (with_reducible refine runR_call h0 ?_) | (with_reducible refine runR_call h2 ?_) | (with_reducible refine runR_call h4 ?_) | (with_reducible refine runR_call h6 ?_) | (with_reducible refine runR_call hu ?_) | (with_reducible refine runR_call hs ?_))
        | (refine auD ?_)
        | (with_reducible refine runR_b (fun h => ?_) (fun h => ?_) <;> first | exact auH | simp only [h, runR_t, runR_f])
        | (with_reducible refine condK_bl ?_ ?_)
        | (with_reducible refine condK_b (fun h => ?_) (fun h => ?_) <;> first | exact auH | skip)
        | (refine runR_n (by simp only [mkS_app, mkS_size, List.length_append, und_len, lg_len, wd_len, letHd, List.length_take, List.length_drop]; omega) ?_))
      (all_goals first | exact auP | skip)
      all_goals first
        | (exfalso; simp_all; done)
        | skip
      all_goals with_reducible refine ret_spec2 (by (try dsimp only [RetOK, resOk, resDs, resD, resV, cellV, cellO, cellP, cellOk, htake, nfD, nfL, nfLL, nfH, lget, partOf, xget, ddrop, dtake, dget, Env.get, N8.get, env0, List.length_cons, List.length_nil, Env.set, N8.set, lset, updL]); (repeat' (first | exact trivial | exact rfl | exact nfLL_map (fun x => by simp [nfL, nfD, nfD, nfL]) | decide | apply And.intro))) ?_
      all_goals (try dsimp only [RetOK, resOk, resDs, resD, resV, cellV, cellO, cellP, cellOk, htake, nfD, nfL, nfLL, nfH, lget, partOf, xget, ddrop, dtake, dget, Env.get, N8.get, env0, List.length_cons, List.length_nil, Env.set, N8.set, lset, updL])
      all_goals (try simp only [hsM] at *)
      all_goals rfl
  · have hr : rdL s a b = ((0, 0, []), 4) := by unfold rdL; rw [if_neg (by omega), if_pos hf]
    rw [hr]
    clear hr
    generalize wordAtI s 4 = n at *
    refine hspec_fn Try.func14 rfl ok_custref_TextLetter okr_custref_TextLetter rfl (by kernel_rfl) ?_
    intro Γ hW0 hN0 hL0
    have hW := hW0 rfl
    clear hW0 hN0 hL0
    unfold x_custref_TextLetter r_custref_TextLetter
    repeat' (first
      | (with_reducible first | refine go_seq ?_ | refine go_region ?_ | refine go_regionD mixed_ok ?_ | refine go_cond ?_ | refine go_skip ?_ | refine go_block ?_ | refine nx_code ?_ | refine nx_block ?_ | refine go_ret ?_ | refine nx_nil ?_ | refine go_exit ?_ | refine ex_code ?_ | refine ex_loop ?_ | refine ex_here ?_)
      | ((with_reducible refine ex_past ?_ ?_); (exact by decide))
      | ((with_reducible refine endD_intro ?_ ?_); (exact by kernel_rfl))
      | ((with_reducible refine runR_n ?_ ?_); exact auN)
      | (first | (simp only [mkS_app, mkS_size]) | (simp only [x1]) | (simp only [x2]) | (with_reducible refine runR_call (between_spec _ _ _) ?_) | (with_reducible refine runR_call h0 ?_) | (with_reducible refine runR_call h2 ?_) | (with_reducible refine runR_call h4 ?_) | (with_reducible refine runR_call h6 ?_) | (with_reducible refine runR_call hu ?_) | (with_reducible refine runR_call hs ?_))
      | (refine auD ?_)
      | (with_reducible refine runR_b (fun h => ?_) (fun h => ?_) <;> first | exact auH | simp only [h, runR_t, runR_f])
      | (with_reducible refine condK_bl ?_ ?_)
      | (with_reducible refine condK_b (fun h => ?_) (fun h => ?_) <;> first | exact auH | skip)
      | (refine runR_n (by simp only [mkS_app, mkS_size, List.length_append, und_len, lg_len, wd_len, letHd, List.length_take, List.length_drop]; omega) ?_))
    (all_goals first | exact auP | skip)
    all_goals first
      | (exfalso; simp_all; done)
      | skip
    all_goals with_reducible refine ret_spec2 (by (try dsimp only [RetOK, resOk, resDs, resD, resV, cellV, cellO, cellP, cellOk, htake, nfD, nfL, nfLL, nfH, lget, partOf, xget, ddrop, dtake, dget, Env.get, N8.get, env0, List.length_cons, List.length_nil, Env.set, N8.set, lset, updL]); (repeat' (first | exact trivial | exact rfl | exact nfLL_map (fun x => by simp [nfL, nfD, nfD, nfL]) | decide | apply And.intro))) ?_
    all_goals (try dsimp only [RetOK, resOk, resDs, resD, resV, cellV, cellO, cellP, cellOk, htake, nfD, nfL, nfLL, nfH, lget, partOf, xget, ddrop, dtake, dget, Env.get, N8.get, env0, List.length_cons, List.length_nil, Env.set, N8.set, lset, updL])
    all_goals (try simp only [hsM] at *)
    all_goals rfl
end Go.Proofs.Ythdghenfidkdcaa
