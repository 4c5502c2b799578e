/-
  A guard hears a server, in the program.
-/
import Derived.Test.YtegejpieedckiaaProxJ
namespace Go.Proofs.Ytegejpieedckiaa
set_option linter.unusedVariables false
set_option linter.unusedSimpArgs false
abbrev dSv (k0 k1 sz : Int) (R : (List Gd × Option (List DV) × Option (List DV)) × Int) : DV := .tup [dPx k0 k1 sz R.1.1, dO false R.1.2.1, dO false R.1.2.2, .v (.int .i64 R.2)]
theorem one_row (a : List DV) : xtake (xdrop [a] 0) 1 = [a] := rfl
set_option maxRecDepth 8000 in
set_option maxHeartbeats 8000000 in
theorem server_spec (k0 k1 sz now : Int) (ms : List Gd) (r : Rd) (g : Sg) (hl : ms.length * 48 ≤ 140737488351232) (hr : U32 r.fr ∧ U32 r.to) (hg : SegOk g) (hg2 : SegArg g) (hd : ∀ t ∈ ms, GdOk t) : Spec Try.prog 5 [dPx k0 k1 sz ms, .agg r.enc, dG g, .v (.int .i64 now)] (dSv k0 k1 sz (srvR sz ms r g now)) := by
  have hml : ms.length ≤ maxLen := by unfold maxLen; omega
  have hcl := gdclonef_spec ms false (by unfold room maxLen; omega)
  have hrf := prefused_spec k0 k1 sz now ms r g hml (fun t ht => (hd t ht).2.2.1) hr hg
  have htn := turned_spec r
  have hnf : ∀ g (l : List Gd), nfLL g (l.map Gd.enc) := nf_gd
  have hno := nf_opt
  unfold srvR
  by_cases he : refG sz ms r g now = 0
  rotate_left
  · rw [if_pos he]
    generalize refG sz ms r g now = e at *
    dsimp only [dSv, dO]
    refine hspec_fn Try.func5 rfl ok_proxy_Server okr_proxy_Server rfl (by kernel_rfl) ?_
    intro Γ hW0 hN0 hL0
    have hW := hW0 rfl
    clear hW0 hN0 hL0
    unfold x_proxy_Server r_proxy_Server
    repeat' (first
      | (with_reducible first | refine go_seq ?_ | refine go_region ?_ | refine go_regionD mixed_ok ?_ | refine go_cond ?_ | refine go_skip ?_ | refine go_block ?_ | refine nx_code ?_ | refine nx_block ?_ | refine go_ret ?_ | refine nx_nil ?_ | refine go_exit ?_ | refine ex_code ?_ | refine ex_loop ?_ | refine ex_here ?_)
      | ((with_reducible refine ex_past ?_ ?_); (exact by decide))
      | ((with_reducible refine endD_intro ?_ ?_); (exact by kernel_rfl))
      | ((with_reducible refine runR_n ?_ ?_); exact auN)
      | (first | (with_reducible refine runR_call hcl ?_) | (with_reducible refine runR_call hrf ?_) | (with_reducible refine runR_call htn ?_) | (refine runR_callM [0, 1] (by decide) rfl hbg ?_) | (refine runR_callF 1 rfl hpl ⟨⟨rfl, rfl, rfl, .inl ⟨rfl, rfl, by simp, by rw [xall (by simp)]⟩, rfl⟩, ⟨rfl, rfl, rfl, rfl, rfl⟩, rfl⟩ rfl ?_) | fail)
      | (refine auD ?_)
      | (with_reducible refine runR_b (fun h => ?_) (fun h => ?_) <;> first | exact auH | simp only [h, runR_t, runR_f])
      | (with_reducible refine condK_bl ?_ ?_)
      | (with_reducible refine condK_b (fun h => ?_) (fun h => ?_) <;> first | exact auH | skip)
      | fail)
    (all_goals first | exact auP | skip)
    all_goals first
      | (exfalso; simp_all; done)
      | skip
    all_goals with_reducible refine ret_spec2 (by (try dsimp only [RetOK, resOk, resDs, resD, resV, cellV, cellO, cellP, cellOk, htake, nfD, nfL, nfLL, nfH, lget, partOf, xget, ddrop, dtake, dget, Env.get, N8.get, env0, List.length_cons, List.length_nil, Env.set, N8.set, lset, updL]); (repeat' (first | exact trivial | exact rfl | exact nfLL_map (fun x => by simp [nfL, nfD, nfD, nfL, hnf]) | decide | apply And.intro))) ?_
    all_goals (try dsimp only [RetOK, resOk, resDs, resD, resV, cellV, cellO, cellP, cellOk, htake, nfD, nfL, nfLL, nfH, lget, partOf, xget, ddrop, dtake, dget, Env.get, N8.get, env0, List.length_cons, List.length_nil, Env.set, N8.set, lset, updL])
    all_goals (try simp only [hsM] at *)
  rw [if_neg (not_not_intro he)]
  rw [he] at hrf
  obtain ⟨hl64, hap, hat, hnow⟩ := ref_ok he
  clear he
  have hbg := begun_spec k0 k1 sz now ms hnow hl64 hat
  have hql : (yngG now ms).length ≤ 64 := Nat.le_trans (List.length_filter_le _ _) hl64
  have hqm : ∀ t ∈ yngG now ms, GdOk t := fun t ht => hd t (yng_mem ht)
  have hpl := place_spec k0 k1 sz (yngG now ms) r.turn (by unfold maxLen; omega)
  unfold srvO
  rcases roadL (yngG now ms) r.turn (apart_yng hap) with ⟨h1, h2⟩ | ⟨i, t, h1, h3, h4, h2⟩
  · rw [if_neg (by rw [h2]; simp)]
    rw [h1] at hpl
    generalize yngG now ms = q at *
    dsimp only [dSv, dO]
    refine hspec_fn Try.func5 rfl ok_proxy_Server okr_proxy_Server rfl (by kernel_rfl) ?_
    intro Γ hW0 hN0 hL0
    have hW := hW0 rfl
    clear hW0 hN0 hL0
    unfold x_proxy_Server r_proxy_Server
    repeat' (first
      | (with_reducible first | refine go_seq ?_ | refine go_region ?_ | refine go_regionD mixed_ok ?_ | refine go_cond ?_ | refine go_skip ?_ | refine go_block ?_ | refine nx_code ?_ | refine nx_block ?_ | refine go_ret ?_ | refine nx_nil ?_ | refine go_exit ?_ | refine ex_code ?_ | refine ex_loop ?_ | refine ex_here ?_)
      | ((with_reducible refine ex_past ?_ ?_); (exact by decide))
      | ((with_reducible refine endD_intro ?_ ?_); (exact by kernel_rfl))
      | ((with_reducible refine runR_n ?_ ?_); exact auN)
      | (first | (with_reducible refine runR_call hcl ?_) | (with_reducible refine runR_call hrf ?_) | (with_reducible refine runR_call htn ?_) | (refine runR_callM [0, 1] (by decide) rfl hbg ?_) | (refine runR_callF 1 rfl hpl ⟨⟨rfl, rfl, rfl, .inl ⟨rfl, rfl, by simp, by rw [xall (by simp)]⟩, rfl⟩, ⟨rfl, rfl, rfl, rfl, rfl⟩, rfl⟩ rfl ?_) | fail)
      | (refine auD ?_)
      | (with_reducible refine runR_b (fun h => ?_) (fun h => ?_) <;> first | exact auH | simp only [h, runR_t, runR_f])
      | (with_reducible refine condK_bl ?_ ?_)
      | (with_reducible refine condK_b (fun h => ?_) (fun h => ?_) <;> first | exact auH | skip)
      | fail)
    (all_goals first | exact auP | skip)
    all_goals first
      | (exfalso; simp_all; done)
      | skip
    refine retq_le (leG_freezeO hW 5 1 (by decide) (ys := [[.v (.int .u64 k0), .v (.int .u64 k1), .v (.int .i64 sz), .snap 9 ((q).map Gd.enc) false]]) rfl rfl ⟨⟨rfl, rfl, rfl, .inl ⟨rfl, rfl, by simp, by rw [xall (by simp)]⟩, rfl⟩, rfl⟩) ?_
    all_goals with_reducible refine ret_spec2 (by (try dsimp only [RetOK, resOk, resDs, resD, resV, cellV, cellO, cellP, cellOk, htake, nfD, nfL, nfLL, nfH, lget, partOf, xget, ddrop, dtake, dget, Env.get, N8.get, env0, List.length_cons, List.length_nil, Env.set, N8.set, lset, updL]); (repeat' (first | exact trivial | exact rfl | exact nfLL_map (fun x => by simp [nfL, nfD, nfD, nfL, hnf]) | decide | apply And.intro))) ?_
    all_goals (try dsimp only [RetOK, resOk, resDs, resD, resV, cellV, cellO, cellP, cellOk, htake, nfD, nfL, nfLL, nfH, lget, partOf, xget, ddrop, dtake, dget, Env.get, N8.get, env0, List.length_cons, List.length_nil, Env.set, N8.set, lset, updL])
    all_goals (try simp only [hsM] at *)
  · rw [h2, if_pos rfl]
    rw [h3] at hpl
    clear h2 h3
    have htq := hqm t (List.mem_of_getElem? h1)
    generalize yngG now ms = q at *
    clear hqm hap hat hd
    obtain ⟨hsq, hck, hdl⟩ := htq
    unfold srvT
    rw [← h4]
    cases hh4 : hasF g 4 with
    | true =>
      rw [if_pos rfl]
      cases hop : t.op with
      | true =>
        have hfs := fun n m => fromS_A1 k0 k1 sz now q n m i g t h1 hql hg2 hdl hh4 hop
        simp only [if_true]
        dsimp only [dSv, dO]
        refine hspec_fn Try.func5 rfl ok_proxy_Server okr_proxy_Server rfl (by kernel_rfl) ?_
        intro Γ hW0 hN0 hL0
        have hW := hW0 rfl
        clear hW0 hN0 hL0
        unfold x_proxy_Server r_proxy_Server
        repeat' (first
          | (with_reducible first | refine go_seq ?_ | refine go_region ?_ | refine go_regionD mixed_ok ?_ | refine go_cond ?_ | refine go_skip ?_ | refine go_block ?_ | refine nx_code ?_ | refine nx_block ?_ | refine go_ret ?_ | refine nx_nil ?_ | refine go_exit ?_ | refine ex_code ?_ | refine ex_loop ?_ | refine ex_here ?_)
          | ((with_reducible refine ex_past ?_ ?_); (exact by decide))
          | ((with_reducible refine endD_intro ?_ ?_); (exact by kernel_rfl))
          | ((with_reducible refine runR_n ?_ ?_); exact auN)
          | (first | (with_reducible refine runR_call hcl ?_) | (with_reducible refine runR_call hrf ?_) | (with_reducible refine runR_call htn ?_) | (refine runR_callM [0, 1] (by decide) rfl hbg ?_) | (refine runR_callF 1 rfl hpl ⟨⟨rfl, rfl, rfl, .inl ⟨rfl, rfl, by simp, by rw [xall (by simp)]⟩, rfl⟩, ⟨rfl, rfl, rfl, rfl, rfl⟩, rfl⟩ rfl ?_) | (refine runR_callHHM 0 1 [8] (by decide) rfl rfl rfl (hfs _ _) ?_))
          | (refine auD ?_)
          | (with_reducible refine runR_b (fun h => ?_) (fun h => ?_) <;> first | exact auH | simp only [h, runR_t, runR_f])
          | (with_reducible refine condK_bl ?_ ?_)
          | (with_reducible refine condK_b (fun h => ?_) (fun h => ?_) <;> first | exact auH | skip)
          | fail)
        (all_goals first | exact auP | skip)
        all_goals first
          | (exfalso; simp_all; done)
          | skip
        refine retq_le (leG_freezeO hW 5 1 (by decide) (ys := [[.v (.int .u64 k0), .v (.int .u64 k1), .v (.int .i64 sz), .snap 9 ((butI i q).map Gd.enc) false]]) rfl rfl ⟨⟨rfl, rfl, rfl, .inl ⟨rfl, rfl, by simp, by rw [xall (by simp)]⟩, rfl⟩, rfl⟩) ?_
        refine retq_le (leG_freeze hW ⟨.d0, .d1, .d1⟩ rfl rfl ⟨rfl, rfl, Nat.le_refl _⟩) ?_
        simp only [one_row]
        all_goals with_reducible refine ret_spec2 (by (try dsimp only [RetOK, resOk, resDs, resD, resV, cellV, cellO, cellP, cellOk, htake, nfD, nfL, nfLL, nfH, lget, partOf, xget, ddrop, dtake, dget, Env.get, N8.get, env0, List.length_cons, List.length_nil, Env.set, N8.set, lset, updL]); (repeat' (first | exact trivial | exact rfl | exact nfLL_map (fun x => by simp [nfL, nfD, nfD, nfL, hnf, hno]) | decide | apply And.intro))) ?_
        all_goals (try dsimp only [RetOK, resOk, resDs, resD, resV, cellV, cellO, cellP, cellOk, htake, nfD, nfL, nfLL, nfH, lget, partOf, xget, ddrop, dtake, dget, Env.get, N8.get, env0, List.length_cons, List.length_nil, Env.set, N8.set, lset, updL])
        all_goals (try simp only [hsM] at *)
        all_goals (first | rfl | skip)
      | false =>
        have hfs := fun n m => fromS_A2 k0 k1 sz now q n m i g t h1 hql hg2 hdl hh4 hop
        simp only [Bool.false_eq_true, if_false]
        dsimp only [dSv, dO]
        refine hspec_fn Try.func5 rfl ok_proxy_Server okr_proxy_Server rfl (by kernel_rfl) ?_
        intro Γ hW0 hN0 hL0
        have hW := hW0 rfl
        clear hW0 hN0 hL0
        unfold x_proxy_Server r_proxy_Server
        repeat' (first
          | (with_reducible first | refine go_seq ?_ | refine go_region ?_ | refine go_regionD mixed_ok ?_ | refine go_cond ?_ | refine go_skip ?_ | refine go_block ?_ | refine nx_code ?_ | refine nx_block ?_ | refine go_ret ?_ | refine nx_nil ?_ | refine go_exit ?_ | refine ex_code ?_ | refine ex_loop ?_ | refine ex_here ?_)
          | ((with_reducible refine ex_past ?_ ?_); (exact by decide))
          | ((with_reducible refine endD_intro ?_ ?_); (exact by kernel_rfl))
          | ((with_reducible refine runR_n ?_ ?_); exact auN)
          | (first | (with_reducible refine runR_call hcl ?_) | (with_reducible refine runR_call hrf ?_) | (with_reducible refine runR_call htn ?_) | (refine runR_callM [0, 1] (by decide) rfl hbg ?_) | (refine runR_callF 1 rfl hpl ⟨⟨rfl, rfl, rfl, .inl ⟨rfl, rfl, by simp, by rw [xall (by simp)]⟩, rfl⟩, ⟨rfl, rfl, rfl, rfl, rfl⟩, rfl⟩ rfl ?_) | (refine runR_callHHM 0 1 [8] (by decide) rfl rfl rfl (hfs _ _) ?_))
          | (refine auD ?_)
          | (with_reducible refine runR_b (fun h => ?_) (fun h => ?_) <;> first | exact auH | simp only [h, runR_t, runR_f])
          | (with_reducible refine condK_bl ?_ ?_)
          | (with_reducible refine condK_b (fun h => ?_) (fun h => ?_) <;> first | exact auH | skip)
          | fail)
        (all_goals first | exact auP | skip)
        all_goals first
          | (exfalso; simp_all; done)
          | skip
        refine retq_le (leG_freezeO hW 5 1 (by decide) (ys := [[.v (.int .u64 k0), .v (.int .u64 k1), .v (.int .i64 sz), .snap 9 ((butI i q).map Gd.enc) false]]) rfl rfl ⟨⟨rfl, rfl, rfl, .inl ⟨rfl, rfl, by simp, by rw [xall (by simp)]⟩, rfl⟩, rfl⟩) ?_
        refine retq_le (leG_freeze hW ⟨.d0, .d1, .d1⟩ rfl rfl ⟨rfl, rfl, Nat.le_refl _⟩) ?_
        simp only [one_row]
        all_goals with_reducible refine ret_spec2 (by (try dsimp only [RetOK, resOk, resDs, resD, resV, cellV, cellO, cellP, cellOk, htake, nfD, nfL, nfLL, nfH, lget, partOf, xget, ddrop, dtake, dget, Env.get, N8.get, env0, List.length_cons, List.length_nil, Env.set, N8.set, lset, updL]); (repeat' (first | exact trivial | exact rfl | exact nfLL_map (fun x => by simp [nfL, nfD, nfD, nfL, hnf, hno]) | decide | apply And.intro))) ?_
        all_goals (try dsimp only [RetOK, resOk, resDs, resD, resV, cellV, cellO, cellP, cellOk, htake, nfD, nfL, nfLL, nfH, lget, partOf, xget, ddrop, dtake, dget, Env.get, N8.get, env0, List.length_cons, List.length_nil, Env.set, N8.set, lset, updL])
        all_goals (try simp only [hsM] at *)
        all_goals (first | rfl | skip)
    | false =>
      rw [if_neg Bool.false_ne_true]
      cases hop : t.op with
      | true =>
        rw [if_pos rfl]
        cases hh2 : hasF g 2 with
        | true =>
          rw [if_pos rfl]
          have hfs := fun n m => fromS_D1 k0 k1 sz now q n m i g t h1 hql hg2 hdl hh4 hop hh2
          dsimp only [dSv, dO]
          refine hspec_fn Try.func5 rfl ok_proxy_Server okr_proxy_Server rfl (by kernel_rfl) ?_
          intro Γ hW0 hN0 hL0
          have hW := hW0 rfl
          clear hW0 hN0 hL0
          unfold x_proxy_Server r_proxy_Server
          repeat' (first
            | (with_reducible first | refine go_seq ?_ | refine go_region ?_ | refine go_regionD mixed_ok ?_ | refine go_cond ?_ | refine go_skip ?_ | refine go_block ?_ | refine nx_code ?_ | refine nx_block ?_ | refine go_ret ?_ | refine nx_nil ?_ | refine go_exit ?_ | refine ex_code ?_ | refine ex_loop ?_ | refine ex_here ?_)
            | ((with_reducible refine ex_past ?_ ?_); (exact by decide))
            | ((with_reducible refine endD_intro ?_ ?_); (exact by kernel_rfl))
            | ((with_reducible refine runR_n ?_ ?_); exact auN)
            | (first | (with_reducible refine runR_call hcl ?_) | (with_reducible refine runR_call hrf ?_) | (with_reducible refine runR_call htn ?_) | (refine runR_callM [0, 1] (by decide) rfl hbg ?_) | (refine runR_callF 1 rfl hpl ⟨⟨rfl, rfl, rfl, .inl ⟨rfl, rfl, by simp, by rw [xall (by simp)]⟩, rfl⟩, ⟨rfl, rfl, rfl, rfl, rfl⟩, rfl⟩ rfl ?_) | (refine runR_callHH 0 1 (by decide) rfl rfl (hfs _ _) (fun _ _ _ h => h) ?_))
            | (refine auD ?_)
            | (with_reducible refine runR_b (fun h => ?_) (fun h => ?_) <;> first | exact auH | simp only [h, runR_t, runR_f])
            | (with_reducible refine condK_bl ?_ ?_)
            | (with_reducible refine condK_b (fun h => ?_) (fun h => ?_) <;> first | exact auH | skip)
            | fail)
          (all_goals first | exact auP | skip)
          all_goals first
            | (exfalso; simp_all; done)
            | skip
          refine retq_le (leG_freezeO hW 5 1 (by decide) (ys := [[.v (.int .u64 k0), .v (.int .u64 k1), .v (.int .i64 sz), .snap 9 ((q).map Gd.enc) false]]) rfl rfl ⟨⟨rfl, rfl, rfl, .inl ⟨rfl, rfl, by simp, by rw [xall (by simp)]⟩, rfl⟩, rfl⟩) ?_
          all_goals with_reducible refine ret_spec2 (by (try dsimp only [RetOK, resOk, resDs, resD, resV, cellV, cellO, cellP, cellOk, htake, nfD, nfL, nfLL, nfH, lget, partOf, xget, ddrop, dtake, dget, Env.get, N8.get, env0, List.length_cons, List.length_nil, Env.set, N8.set, lset, updL]); (repeat' (first | exact trivial | exact rfl | exact nfLL_map (fun x => by simp [nfL, nfD, nfD, nfL, hnf]) | decide | apply And.intro))) ?_
          all_goals (try dsimp only [RetOK, resOk, resDs, resD, resV, cellV, cellO, cellP, cellOk, htake, nfD, nfL, nfLL, nfH, lget, partOf, xget, ddrop, dtake, dget, Env.get, N8.get, env0, List.length_cons, List.length_nil, Env.set, N8.set, lset, updL])
          all_goals (try simp only [hsM] at *)
        | false =>
          rw [if_neg Bool.false_ne_true]
          have hfs := fun n m => fromS_B k0 k1 sz now q n m i g t h1 hql hg2 hdl hh4 hop hh2
          dsimp only [dSv, dO]
          generalize t.heardAt now = t2 at *
          refine hspec_fn Try.func5 rfl ok_proxy_Server okr_proxy_Server rfl (by kernel_rfl) ?_
          intro Γ hW0 hN0 hL0
          have hW := hW0 rfl
          clear hW0 hN0 hL0
          unfold x_proxy_Server r_proxy_Server
          repeat' (first
            | (with_reducible first | refine go_seq ?_ | refine go_region ?_ | refine go_regionD mixed_ok ?_ | refine go_cond ?_ | refine go_skip ?_ | refine go_block ?_ | refine nx_code ?_ | refine nx_block ?_ | refine go_ret ?_ | refine nx_nil ?_ | refine go_exit ?_ | refine ex_code ?_ | refine ex_loop ?_ | refine ex_here ?_)
            | ((with_reducible refine ex_past ?_ ?_); (exact by decide))
            | ((with_reducible refine endD_intro ?_ ?_); (exact by kernel_rfl))
            | ((with_reducible refine runR_n ?_ ?_); exact auN)
            | (first | (with_reducible refine runR_call hcl ?_) | (with_reducible refine runR_call hrf ?_) | (with_reducible refine runR_call htn ?_) | (refine runR_callM [0, 1] (by decide) rfl hbg ?_) | (refine runR_callF 1 rfl hpl ⟨⟨rfl, rfl, rfl, .inl ⟨rfl, rfl, by simp, by rw [xall (by simp)]⟩, rfl⟩, ⟨rfl, rfl, rfl, rfl, rfl⟩, rfl⟩ rfl ?_) | (refine runR_callHHM 0 1 [9, 8] (by decide) rfl rfl rfl (hfs _ _) ?_))
            | (refine auD ?_)
            | (with_reducible refine runR_b (fun h => ?_) (fun h => ?_) <;> first | exact auH | simp only [h, runR_t, runR_f])
            | (with_reducible refine condK_bl ?_ ?_)
            | (with_reducible refine condK_b (fun h => ?_) (fun h => ?_) <;> first | exact auH | skip)
            | fail)
          (all_goals first | exact auP | skip)
          all_goals first
            | (exfalso; simp_all; done)
            | skip
          refine retq_le (leG_freezeO hW 5 9 (by decide) (ys := [[.v (.int .u64 k0), .v (.int .u64 k1), .v (.int .i64 sz), .snap 9 ((butI i q ++ [t2]).map Gd.enc) false]]) rfl rfl ⟨⟨rfl, rfl, rfl, .inl ⟨rfl, rfl, by simp, by rw [xall (by simp)]⟩, rfl⟩, rfl⟩) ?_
          refine retq_le (leG_freeze hW ⟨.d0, .d1, .d1⟩ rfl rfl ⟨rfl, rfl, Nat.le_refl _⟩) ?_
          simp only [one_row]
          all_goals with_reducible refine ret_spec2 (by (try dsimp only [RetOK, resOk, resDs, resD, resV, cellV, cellO, cellP, cellOk, htake, nfD, nfL, nfLL, nfH, lget, partOf, xget, ddrop, dtake, dget, Env.get, N8.get, env0, List.length_cons, List.length_nil, Env.set, N8.set, lset, updL]); (repeat' (first | exact trivial | exact rfl | exact nfLL_map (fun x => by simp [nfL, nfD, nfD, nfL, hnf, hno]) | decide | apply And.intro))) ?_
          all_goals (try dsimp only [RetOK, resOk, resDs, resD, resV, cellV, cellO, cellP, cellOk, htake, nfD, nfL, nfLL, nfH, lget, partOf, xget, ddrop, dtake, dget, Env.get, N8.get, env0, List.length_cons, List.length_nil, Env.set, N8.set, lset, updL])
          all_goals (try simp only [hsM] at *)
          all_goals (first | rfl | skip)
      | false =>
        rw [if_neg Bool.false_ne_true]
        by_cases hk : hasF g 2 = true ∧ hasF g 16 = true ∧ g.ack = (t.seq + 1) % 4294967296
        · rw [if_pos hk]
          obtain ⟨hh2, hh16, hak⟩ := hk
          have hfs := fun n m => fromS_C k0 k1 sz now q n m i g t h1 hql hg2 hdl hh4 hop hh2 hh16 hak
          dsimp only [dSv, dO]
          clear hak
          generalize t.opened g now = t2 at *
          refine hspec_fn Try.func5 rfl ok_proxy_Server okr_proxy_Server rfl (by kernel_rfl) ?_
          intro Γ hW0 hN0 hL0
          have hW := hW0 rfl
          clear hW0 hN0 hL0
          unfold x_proxy_Server r_proxy_Server
          repeat' (first
            | (with_reducible first | refine go_seq ?_ | refine go_region ?_ | refine go_regionD mixed_ok ?_ | refine go_cond ?_ | refine go_skip ?_ | refine go_block ?_ | refine nx_code ?_ | refine nx_block ?_ | refine go_ret ?_ | refine nx_nil ?_ | refine go_exit ?_ | refine ex_code ?_ | refine ex_loop ?_ | refine ex_here ?_)
            | ((with_reducible refine ex_past ?_ ?_); (exact by decide))
            | ((with_reducible refine endD_intro ?_ ?_); (exact by kernel_rfl))
            | ((with_reducible refine runR_n ?_ ?_); exact auN)
            | (first | (with_reducible refine runR_call hcl ?_) | (with_reducible refine runR_call hrf ?_) | (with_reducible refine runR_call htn ?_) | (refine runR_callM [0, 1] (by decide) rfl hbg ?_) | (refine runR_callF 1 rfl hpl ⟨⟨rfl, rfl, rfl, .inl ⟨rfl, rfl, by simp, by rw [xall (by simp)]⟩, rfl⟩, ⟨rfl, rfl, rfl, rfl, rfl⟩, rfl⟩ rfl ?_) | (refine runR_callHHM 0 1 [9, 8] (by decide) rfl rfl rfl (hfs _ _) ?_))
            | (refine auD ?_)
            | (with_reducible refine runR_b (fun h => ?_) (fun h => ?_) <;> first | exact auH | simp only [h, runR_t, runR_f])
            | (with_reducible refine condK_bl ?_ ?_)
            | (with_reducible refine condK_b (fun h => ?_) (fun h => ?_) <;> first | exact auH | skip)
            | fail)
          (all_goals first | exact auP | skip)
          all_goals first
            | (exfalso; simp_all; done)
            | skip
          refine retq_le (leG_freezeO hW 5 9 (by decide) (ys := [[.v (.int .u64 k0), .v (.int .u64 k1), .v (.int .i64 sz), .snap 9 ((butI i q ++ [t2]).map Gd.enc) false]]) rfl rfl ⟨⟨rfl, rfl, rfl, .inl ⟨rfl, rfl, by simp, by rw [xall (by simp)]⟩, rfl⟩, rfl⟩) ?_
          refine retq_le (leG_freeze hW ⟨.d0, .d1, .d2⟩ rfl rfl ⟨rfl, rfl, Nat.le_refl _⟩) ?_
          simp only [one_row]
          all_goals with_reducible refine ret_spec2 (by (try dsimp only [RetOK, resOk, resDs, resD, resV, cellV, cellO, cellP, cellOk, htake, nfD, nfL, nfLL, nfH, lget, partOf, xget, ddrop, dtake, dget, Env.get, N8.get, env0, List.length_cons, List.length_nil, Env.set, N8.set, lset, updL]); (repeat' (first | exact trivial | exact rfl | exact nfLL_map (fun x => by simp [nfL, nfD, nfD, nfL, hnf, hno]) | decide | apply And.intro))) ?_
          all_goals (try dsimp only [RetOK, resOk, resDs, resD, resV, cellV, cellO, cellP, cellOk, htake, nfD, nfL, nfLL, nfH, lget, partOf, xget, ddrop, dtake, dget, Env.get, N8.get, env0, List.length_cons, List.length_nil, Env.set, N8.set, lset, updL])
          all_goals (try simp only [hsM] at *)
          all_goals (first | rfl | skip)
        · rw [if_neg hk]
          have hfs : ∀ n m, HSpec Try.prog 18 [.ptr 0 n 7 0 0, .v (.int .i64 (i : Nat)), dG g] [oGu n k0 k1 sz now (.sl 1 m 9 0 q.length false) nilS nilS, some ⟨m, 9, q.map Gd.enc⟩] (fun d H => d = .tup [] ∧ H = [oGu n k0 k1 sz now (.sl 1 m 9 0 q.length false) nilS nilS, some ⟨m, 9, q.map Gd.enc⟩]) := fun n m => by
            cases hh2 : hasF g 2 with
            | false => exact fromS_D2 k0 k1 sz now q n m i g t h1 hql hg2 hdl hh4 hop hh2
            | true =>
              cases hh16 : hasF g 16 with
              | false => exact fromS_D3 k0 k1 sz now q n m i g t h1 hql hg2 hdl hh4 hop hh2 hh16
              | true => exact fromS_D4 k0 k1 sz now q n m i g t h1 hql hg2 hdl hh4 hop hh2 hh16 (fun h => hk ⟨hh2, hh16, h⟩)
          clear hk
          dsimp only [dSv, dO]
          refine hspec_fn Try.func5 rfl ok_proxy_Server okr_proxy_Server rfl (by kernel_rfl) ?_
          intro Γ hW0 hN0 hL0
          have hW := hW0 rfl
          clear hW0 hN0 hL0
          unfold x_proxy_Server r_proxy_Server
          repeat' (first
            | (with_reducible first | refine go_seq ?_ | refine go_region ?_ | refine go_regionD mixed_ok ?_ | refine go_cond ?_ | refine go_skip ?_ | refine go_block ?_ | refine nx_code ?_ | refine nx_block ?_ | refine go_ret ?_ | refine nx_nil ?_ | refine go_exit ?_ | refine ex_code ?_ | refine ex_loop ?_ | refine ex_here ?_)
            | ((with_reducible refine ex_past ?_ ?_); (exact by decide))
            | ((with_reducible refine endD_intro ?_ ?_); (exact by kernel_rfl))
            | ((with_reducible refine runR_n ?_ ?_); exact auN)
            | (first | (with_reducible refine runR_call hcl ?_) | (with_reducible refine runR_call hrf ?_) | (with_reducible refine runR_call htn ?_) | (refine runR_callM [0, 1] (by decide) rfl hbg ?_) | (refine runR_callF 1 rfl hpl ⟨⟨rfl, rfl, rfl, .inl ⟨rfl, rfl, by simp, by rw [xall (by simp)]⟩, rfl⟩, ⟨rfl, rfl, rfl, rfl, rfl⟩, rfl⟩ rfl ?_) | (refine runR_callHH 0 1 (by decide) rfl rfl (hfs _ _) (fun _ _ _ h => h) ?_))
            | (refine auD ?_)
            | (with_reducible refine runR_b (fun h => ?_) (fun h => ?_) <;> first | exact auH | simp only [h, runR_t, runR_f])
            | (with_reducible refine condK_bl ?_ ?_)
            | (with_reducible refine condK_b (fun h => ?_) (fun h => ?_) <;> first | exact auH | skip)
            | fail)
          (all_goals first | exact auP | skip)
          all_goals first
            | (exfalso; simp_all; done)
            | skip
          refine retq_le (leG_freezeO hW 5 1 (by decide) (ys := [[.v (.int .u64 k0), .v (.int .u64 k1), .v (.int .i64 sz), .snap 9 ((q).map Gd.enc) false]]) rfl rfl ⟨⟨rfl, rfl, rfl, .inl ⟨rfl, rfl, by simp, by rw [xall (by simp)]⟩, rfl⟩, rfl⟩) ?_
          all_goals with_reducible refine ret_spec2 (by (try dsimp only [RetOK, resOk, resDs, resD, resV, cellV, cellO, cellP, cellOk, htake, nfD, nfL, nfLL, nfH, lget, partOf, xget, ddrop, dtake, dget, Env.get, N8.get, env0, List.length_cons, List.length_nil, Env.set, N8.set, lset, updL]); (repeat' (first | exact trivial | exact rfl | exact nfLL_map (fun x => by simp [nfL, nfD, nfD, nfL, hnf]) | decide | apply And.intro))) ?_
          all_goals (try dsimp only [RetOK, resOk, resDs, resD, resV, cellV, cellO, cellP, cellOk, htake, nfD, nfL, nfLL, nfH, lget, partOf, xget, ddrop, dtake, dget, Env.get, N8.get, env0, List.length_cons, List.length_nil, Env.set, N8.set, lset, updL])
          all_goals (try simp only [hsM] at *)
end Go.Proofs.Ytegejpieedckiaa
