/-
  Segments: Read, in the program and in the reference.
-/
import Derived.Test.YthdghenfidkdcaaTcpO
namespace Go.Proofs.Ythdghenfidkdcaa
set_option linter.unusedVariables false
set_option linter.unusedSimpArgs false
def nW (s : List UInt8) : Nat := bN s 12 / 16 * 4
def sg0 : Sg := ⟨0, 0, 0, 0, 0, 0, 0, [], []⟩
/-- What is read. -/
def rdS (s : List UInt8) (a b : Int) : Sg × Int :=
  if s.length < 20 ∨ s.length < nW s then (sg0, 3)
  else if ¬ (20 ≤ nW s ∧ bN s 12 % 16 = 0) then (sg0, 4)
  else if 65455 + nW s < s.length then (sg0, 2)
  else match prs ((s.drop 20).take (nW s - 20)) with
    | none => (sg0, 4)
    | some l => if ¬ foldI (wsum (und a b 6 s.length ++ s)) = 65535 then (sg0, 5)
      else (⟨wordAtI s 0, wordAtI s 2, lgAt s 4, lgAt s 8, (bN s 13 : Nat), wordAtI s 14, wordAtI s 18, l, s.drop (nW s)⟩, 0)
abbrev dSgE (r : Sg × Int) : DV := .tup [dG r.1, .v (.int .i64 r.2)]
theorem nil_sg (e : Int) : nilP (.tup [.agg [.v (.int .i64 0), .v (.int .i64 0), .v (.int .u32 0), .v (.int .u32 0), .v (.int .i64 0), .v (.int .i64 0), .v (.int .i64 0), .v (.slice none 0 0), .v (.string (ByteArray.mk #[]))], .v (.int .i64 e)]) (dSgE (sg0, e)) := by
  simp [nilP, nilL, sg0]
  rfl
set_option maxHeartbeats 4000000 in
theorem sread_spec (s : List UInt8) (a b : Int) (ha : 0 ≤ a ∧ a < 4294967296) (hb : 0 ≤ b ∧ b < 4294967296) (hl : s.length ≤ 140737488351232) : Spec Try.prog 10 [.v (.string (mkS s)), .v (.int .u32 a), .v (.int .u32 b)] (dSgE (rdS s a b)) := by
  have b12 := bN_lt s 12
  have b13 := bN_lt s 13
  have e12 : IntKind.i64.wrap ((bN s 12 : Nat) : Int) = ((bN s 12 : Nat) : Int) := IntWalk.i64_in _ (by omega)
  have e13 : IntKind.i64.wrap ((bN s 13 : Nat) : Int) = ((bN s 13 : Nat) : Int) := IntWalk.i64_in _ (by omega)
  have t1 : IntKind.i64.wrap (((bN s 12 : Nat) : Int).tdiv 16) = ((bN s 12 / 16 : Nat) : Int) := by rw [Int.tdiv_eq_ediv_of_nonneg (by omega), IntWalk.i64_in _ (by omega)]; omega
  have t2 : IntKind.i64.wrap (((bN s 12 / 16 : Nat) : Int) * 4) = ((nW s : Nat) : Int) := by unfold nW; rw [IntWalk.i64_in _ (by omega)]; omega
  have t3 : ((bN s 12 : Nat) : Int).tmod 16 = ((bN s 12 % 16 : Nat) : Int) := (Int.ofNat_tmod _ 16).symm
  have hn60 : nW s ≤ 60 := by unfold nW; omega
  have t4 : IntKind.i64.wrap (4 * ((nW s : Nat) : Int)) = 4 * ((nW s : Nat) : Int) := IntWalk.i64_in _ (by omega)
  have t5 : IntKind.i64.wrap ((s.length : Int) - ((nW s : Nat) : Int)) = (s.length : Int) - ((nW s : Nat) : Int) := IntWalk.i64_in _ (by omega)
  have t6 : IntKind.i64.wrap (65455 + ((nW s : Nat) : Int)) = 65455 + ((nW s : Nat) : Int) := IntWalk.i64_in _ (by omega)
  have hq : bN s 12 % 16 = 0 ↔ ((bN s 12 : Nat) : Int) = 4 * ((nW s : Nat) : Int) := by unfold nW; omega
  by_cases c1 : s.length < 20
  · have hr : rdS s a b = (sg0, 3) := by unfold rdS; rw [if_pos (.inl c1)]
    rw [hr]
    refine spec_nil ?_ (nil_sg _)
    refine hspec_fn Try.func10 rfl ok_tcp_Read okr_tcp_Read rfl (by kernel_rfl) ?_
    intro Γ hW0 hN0 hL0
    have hW := hW0 rfl
    clear hW0 hN0 hL0
    unfold x_tcp_Read r_tcp_Read
    repeat' (first
      | (with_reducible first | refine go_seq ?_ | refine go_region ?_ | refine go_regionD mixed_ok ?_ | refine go_cond ?_ | refine go_skip ?_ | refine go_block ?_ | refine nx_code ?_ | refine nx_block ?_ | refine go_ret ?_ | refine nx_nil ?_ | refine go_exit ?_ | refine ex_code ?_ | refine ex_loop ?_ | refine ex_here ?_)
      | ((with_reducible refine ex_past ?_ ?_); (exact by decide))
      | ((with_reducible refine endD_intro ?_ ?_); (exact by kernel_rfl))
      | ((with_reducible refine runR_n ?_ ?_); exact auN)
      | (first | (simp only [mkS_size, mkS_at, mkS_app, Int.toNat_natCast]) | (simp only [e12, e13, t1, t2, t3, t4, t5, t6]) | (simp only [x1, x2]) | (with_reducible refine runR_call hp ?_) | (with_reducible refine runR_call hu ?_) | (with_reducible refine runR_call hs0 ?_) | (with_reducible refine runR_call hs ?_) | (with_reducible refine runR_call h0 ?_) | (with_reducible refine runR_call h2 ?_) | (with_reducible refine runR_call h14 ?_) | (with_reducible refine runR_call h18 ?_) | (with_reducible refine runR_call h4 ?_) | (with_reducible refine runR_call h8 ?_))
      | (refine auD ?_)
      | (with_reducible refine runR_b (fun h => ?_) (fun h => ?_) <;> first | exact auH | simp only [h, runR_t, runR_f])
      | (with_reducible refine condK_bl ?_ ?_)
      | (with_reducible refine condK_b (fun h => ?_) (fun h => ?_) <;> first | exact auH | skip)
      | (refine runR_n (by simp only [mkS_size, List.length_append, und_len]; omega) ?_))
    (all_goals first | exact auP | skip)
    all_goals first
      | (exfalso; simp_all; done)
      | skip
    all_goals with_reducible refine ret_spec2 (by (try dsimp only [RetOK, resOk, resDs, resD, resV, cellV, cellO, cellP, cellOk, htake, nfD, nfL, nfLL, nfH, lget, partOf, xget, ddrop, dtake, dget, Env.get, N8.get, env0, List.length_cons, List.length_nil, Env.set, N8.set, lset, updL]); (repeat' (first | exact trivial | exact rfl | exact nfLL_map (fun x => by simp [nfL, nfD, nfD, nfL]) | decide | apply And.intro))) ?_
    all_goals (try dsimp only [RetOK, resOk, resDs, resD, resV, cellV, cellO, cellP, cellOk, htake, nfD, nfL, nfLL, nfH, lget, partOf, xget, ddrop, dtake, dget, Env.get, N8.get, env0, List.length_cons, List.length_nil, Env.set, N8.set, lset, updL])
    all_goals (try simp only [hsM] at *)
    all_goals rfl
  by_cases c2 : s.length < nW s
  · have hr : rdS s a b = (sg0, 3) := by unfold rdS; rw [if_pos (.inr c2)]
    rw [hr]
    refine spec_nil ?_ (nil_sg _)
    refine hspec_fn Try.func10 rfl ok_tcp_Read okr_tcp_Read rfl (by kernel_rfl) ?_
    intro Γ hW0 hN0 hL0
    have hW := hW0 rfl
    clear hW0 hN0 hL0
    unfold x_tcp_Read r_tcp_Read
    repeat' (first
      | (with_reducible first | refine go_seq ?_ | refine go_region ?_ | refine go_regionD mixed_ok ?_ | refine go_cond ?_ | refine go_skip ?_ | refine go_block ?_ | refine nx_code ?_ | refine nx_block ?_ | refine go_ret ?_ | refine nx_nil ?_ | refine go_exit ?_ | refine ex_code ?_ | refine ex_loop ?_ | refine ex_here ?_)
      | ((with_reducible refine ex_past ?_ ?_); (exact by decide))
      | ((with_reducible refine endD_intro ?_ ?_); (exact by kernel_rfl))
      | ((with_reducible refine runR_n ?_ ?_); exact auN)
      | (first | (simp only [mkS_size, mkS_at, mkS_app, Int.toNat_natCast]) | (simp only [e12, e13, t1, t2, t3, t4, t5, t6]) | (simp only [x1, x2]) | (with_reducible refine runR_call hp ?_) | (with_reducible refine runR_call hu ?_) | (with_reducible refine runR_call hs0 ?_) | (with_reducible refine runR_call hs ?_) | (with_reducible refine runR_call h0 ?_) | (with_reducible refine runR_call h2 ?_) | (with_reducible refine runR_call h14 ?_) | (with_reducible refine runR_call h18 ?_) | (with_reducible refine runR_call h4 ?_) | (with_reducible refine runR_call h8 ?_))
      | (refine auD ?_)
      | (with_reducible refine runR_b (fun h => ?_) (fun h => ?_) <;> first | exact auH | simp only [h, runR_t, runR_f])
      | (with_reducible refine condK_bl ?_ ?_)
      | (with_reducible refine condK_b (fun h => ?_) (fun h => ?_) <;> first | exact auH | skip)
      | (refine runR_n (by simp only [mkS_size, List.length_append, und_len]; omega) ?_))
    (all_goals first | exact auP | skip)
    all_goals first
      | (exfalso; simp_all; done)
      | skip
    all_goals with_reducible refine ret_spec2 (by (try dsimp only [RetOK, resOk, resDs, resD, resV, cellV, cellO, cellP, cellOk, htake, nfD, nfL, nfLL, nfH, lget, partOf, xget, ddrop, dtake, dget, Env.get, N8.get, env0, List.length_cons, List.length_nil, Env.set, N8.set, lset, updL]); (repeat' (first | exact trivial | exact rfl | exact nfLL_map (fun x => by simp [nfL, nfD, nfD, nfL]) | decide | apply And.intro))) ?_
    all_goals (try dsimp only [RetOK, resOk, resDs, resD, resV, cellV, cellO, cellP, cellOk, htake, nfD, nfL, nfLL, nfH, lget, partOf, xget, ddrop, dtake, dget, Env.get, N8.get, env0, List.length_cons, List.length_nil, Env.set, N8.set, lset, updL])
    all_goals (try simp only [hsM] at *)
    all_goals rfl
  by_cases c3 : 20 ≤ nW s ∧ bN s 12 % 16 = 0
  case neg =>
    have hr : rdS s a b = (sg0, 4) := by unfold rdS; rw [if_neg (by omega), if_pos c3]
    rw [hr]
    refine spec_nil ?_ (nil_sg _)
    by_cases c3a : nW s < 20
    · skip
      refine hspec_fn Try.func10 rfl ok_tcp_Read okr_tcp_Read rfl (by kernel_rfl) ?_
      intro Γ hW0 hN0 hL0
      have hW := hW0 rfl
      clear hW0 hN0 hL0
      unfold x_tcp_Read r_tcp_Read
      repeat' (first
        | (with_reducible first | refine go_seq ?_ | refine go_region ?_ | refine go_regionD mixed_ok ?_ | refine go_cond ?_ | refine go_skip ?_ | refine go_block ?_ | refine nx_code ?_ | refine nx_block ?_ | refine go_ret ?_ | refine nx_nil ?_ | refine go_exit ?_ | refine ex_code ?_ | refine ex_loop ?_ | refine ex_here ?_)
        | ((with_reducible refine ex_past ?_ ?_); (exact by decide))
        | ((with_reducible refine endD_intro ?_ ?_); (exact by kernel_rfl))
        | ((with_reducible refine runR_n ?_ ?_); exact auN)
        | (first | (simp only [mkS_size, mkS_at, mkS_app, Int.toNat_natCast]) | (simp only [e12, e13, t1, t2, t3, t4, t5, t6]) | (simp only [x1, x2]) | (with_reducible refine runR_call hp ?_) | (with_reducible refine runR_call hu ?_) | (with_reducible refine runR_call hs0 ?_) | (with_reducible refine runR_call hs ?_) | (with_reducible refine runR_call h0 ?_) | (with_reducible refine runR_call h2 ?_) | (with_reducible refine runR_call h14 ?_) | (with_reducible refine runR_call h18 ?_) | (with_reducible refine runR_call h4 ?_) | (with_reducible refine runR_call h8 ?_))
        | (refine auD ?_)
        | (with_reducible refine runR_b (fun h => ?_) (fun h => ?_) <;> first | exact auH | simp only [h, runR_t, runR_f])
        | (with_reducible refine condK_bl ?_ ?_)
        | (with_reducible refine condK_b (fun h => ?_) (fun h => ?_) <;> first | exact auH | skip)
        | (refine runR_n (by simp only [mkS_size, List.length_append, und_len]; omega) ?_))
      (all_goals first | exact auP | skip)
      all_goals first
        | (exfalso; simp_all; done)
        | skip
      all_goals with_reducible refine ret_spec2 (by (try dsimp only [RetOK, resOk, resDs, resD, resV, cellV, cellO, cellP, cellOk, htake, nfD, nfL, nfLL, nfH, lget, partOf, xget, ddrop, dtake, dget, Env.get, N8.get, env0, List.length_cons, List.length_nil, Env.set, N8.set, lset, updL]); (repeat' (first | exact trivial | exact rfl | exact nfLL_map (fun x => by simp [nfL, nfD, nfD, nfL]) | decide | apply And.intro))) ?_
      all_goals (try dsimp only [RetOK, resOk, resDs, resD, resV, cellV, cellO, cellP, cellOk, htake, nfD, nfL, nfLL, nfH, lget, partOf, xget, ddrop, dtake, dget, Env.get, N8.get, env0, List.length_cons, List.length_nil, Env.set, N8.set, lset, updL])
      all_goals (try simp only [hsM] at *)
      all_goals rfl
    · have c3b : ¬ bN s 12 % 16 = 0 := fun q => c3 ⟨by omega, q⟩
      have c3c : ¬ ((bN s 12 : Nat) : Int) = 4 * ((nW s : Nat) : Int) := fun q => c3b (hq.2 q)
      refine hspec_fn Try.func10 rfl ok_tcp_Read okr_tcp_Read rfl (by kernel_rfl) ?_
      intro Γ hW0 hN0 hL0
      have hW := hW0 rfl
      clear hW0 hN0 hL0
      unfold x_tcp_Read r_tcp_Read
      repeat' (first
        | (with_reducible first | refine go_seq ?_ | refine go_region ?_ | refine go_regionD mixed_ok ?_ | refine go_cond ?_ | refine go_skip ?_ | refine go_block ?_ | refine nx_code ?_ | refine nx_block ?_ | refine go_ret ?_ | refine nx_nil ?_ | refine go_exit ?_ | refine ex_code ?_ | refine ex_loop ?_ | refine ex_here ?_)
        | ((with_reducible refine ex_past ?_ ?_); (exact by decide))
        | ((with_reducible refine endD_intro ?_ ?_); (exact by kernel_rfl))
        | ((with_reducible refine runR_n ?_ ?_); exact auN)
        | (first | (simp only [mkS_size, mkS_at, mkS_app, Int.toNat_natCast]) | (simp only [e12, e13, t1, t2, t3, t4, t5, t6]) | (simp only [x1, x2]) | (with_reducible refine runR_call hp ?_) | (with_reducible refine runR_call hu ?_) | (with_reducible refine runR_call hs0 ?_) | (with_reducible refine runR_call hs ?_) | (with_reducible refine runR_call h0 ?_) | (with_reducible refine runR_call h2 ?_) | (with_reducible refine runR_call h14 ?_) | (with_reducible refine runR_call h18 ?_) | (with_reducible refine runR_call h4 ?_) | (with_reducible refine runR_call h8 ?_))
        | (refine auD ?_)
        | (with_reducible refine runR_b (fun h => ?_) (fun h => ?_) <;> first | exact auH | simp only [h, runR_t, runR_f])
        | (with_reducible refine condK_bl ?_ ?_)
        | (with_reducible refine condK_b (fun h => ?_) (fun h => ?_) <;> first | exact auH | skip)
        | (refine runR_n (by simp only [mkS_size, List.length_append, und_len]; omega) ?_))
      (all_goals first | exact auP | skip)
      all_goals first
        | (exfalso; simp_all; done)
        | skip
      all_goals with_reducible refine ret_spec2 (by (try dsimp only [RetOK, resOk, resDs, resD, resV, cellV, cellO, cellP, cellOk, htake, nfD, nfL, nfLL, nfH, lget, partOf, xget, ddrop, dtake, dget, Env.get, N8.get, env0, List.length_cons, List.length_nil, Env.set, N8.set, lset, updL]); (repeat' (first | exact trivial | exact rfl | exact nfLL_map (fun x => by simp [nfL, nfD, nfD, nfL]) | decide | apply And.intro))) ?_
      all_goals (try dsimp only [RetOK, resOk, resDs, resD, resV, cellV, cellO, cellP, cellOk, htake, nfD, nfL, nfLL, nfH, lget, partOf, xget, ddrop, dtake, dget, Env.get, N8.get, env0, List.length_cons, List.length_nil, Env.set, N8.set, lset, updL])
      all_goals (try simp only [hsM] at *)
      all_goals rfl
  have c3b := hq.1 c3.2
  obtain ⟨c3a, c3d⟩ := c3
  by_cases c4 : 65455 + nW s < s.length
  · have hr : rdS s a b = (sg0, 2) := by unfold rdS; rw [if_neg (by omega), if_neg (not_not_intro ⟨c3a, c3d⟩), if_pos c4]
    rw [hr]
    refine spec_nil ?_ (nil_sg _)
    refine hspec_fn Try.func10 rfl ok_tcp_Read okr_tcp_Read rfl (by kernel_rfl) ?_
    intro Γ hW0 hN0 hL0
    have hW := hW0 rfl
    clear hW0 hN0 hL0
    unfold x_tcp_Read r_tcp_Read
    repeat' (first
      | (with_reducible first | refine go_seq ?_ | refine go_region ?_ | refine go_regionD mixed_ok ?_ | refine go_cond ?_ | refine go_skip ?_ | refine go_block ?_ | refine nx_code ?_ | refine nx_block ?_ | refine go_ret ?_ | refine nx_nil ?_ | refine go_exit ?_ | refine ex_code ?_ | refine ex_loop ?_ | refine ex_here ?_)
      | ((with_reducible refine ex_past ?_ ?_); (exact by decide))
      | ((with_reducible refine endD_intro ?_ ?_); (exact by kernel_rfl))
      | ((with_reducible refine runR_n ?_ ?_); exact auN)
      | (first | (simp only [mkS_size, mkS_at, mkS_app, Int.toNat_natCast]) | (simp only [e12, e13, t1, t2, t3, t4, t5, t6]) | (simp only [x1, x2]) | (with_reducible refine runR_call hp ?_) | (with_reducible refine runR_call hu ?_) | (with_reducible refine runR_call hs0 ?_) | (with_reducible refine runR_call hs ?_) | (with_reducible refine runR_call h0 ?_) | (with_reducible refine runR_call h2 ?_) | (with_reducible refine runR_call h14 ?_) | (with_reducible refine runR_call h18 ?_) | (with_reducible refine runR_call h4 ?_) | (with_reducible refine runR_call h8 ?_))
      | (refine auD ?_)
      | (with_reducible refine runR_b (fun h => ?_) (fun h => ?_) <;> first | exact auH | simp only [h, runR_t, runR_f])
      | (with_reducible refine condK_bl ?_ ?_)
      | (with_reducible refine condK_b (fun h => ?_) (fun h => ?_) <;> first | exact auH | skip)
      | (refine runR_n (by simp only [mkS_size, List.length_append, und_len]; omega) ?_))
    (all_goals first | exact auP | skip)
    all_goals first
      | (exfalso; simp_all; done)
      | skip
    all_goals with_reducible refine ret_spec2 (by (try dsimp only [RetOK, resOk, resDs, resD, resV, cellV, cellO, cellP, cellOk, htake, nfD, nfL, nfLL, nfH, lget, partOf, xget, ddrop, dtake, dget, Env.get, N8.get, env0, List.length_cons, List.length_nil, Env.set, N8.set, lset, updL]); (repeat' (first | exact trivial | exact rfl | exact nfLL_map (fun x => by simp [nfL, nfD, nfD, nfL]) | decide | apply And.intro))) ?_
    all_goals (try dsimp only [RetOK, resOk, resDs, resD, resV, cellV, cellO, cellP, cellOk, htake, nfD, nfL, nfLL, nfH, lget, partOf, xget, ddrop, dtake, dget, Env.get, N8.get, env0, List.length_cons, List.length_nil, Env.set, N8.set, lset, updL])
    all_goals (try simp only [hsM] at *)
    all_goals rfl
  have x1 : (mkS s).extract 20 (nW s) = mkS ((s.drop 20).take (nW s - 20)) := mkS_ext _ _ _
  have x2 : (mkS s).extract (nW s) s.length = mkS (s.drop (nW s)) := by rw [mkS_ext, List.take_of_length_le (by simp)]
  have hpl : ((s.drop 20).take (nW s - 20)).length ≤ 40 := by simp; omega
  have hp := parse_spec _ hpl
  cases hprs : prs ((s.drop 20).take (nW s - 20)) with
  | none =>
    have hr : rdS s a b = (sg0, 4) := by unfold rdS; rw [if_neg (by omega), if_neg (not_not_intro ⟨c3a, c3d⟩), if_neg c4, hprs]
    rw [hr]
    rw [prR_none hprs] at hp
    refine spec_nil ?_ (nil_sg _)
    refine hspec_fn Try.func10 rfl ok_tcp_Read okr_tcp_Read rfl (by kernel_rfl) ?_
    intro Γ hW0 hN0 hL0
    have hW := hW0 rfl
    clear hW0 hN0 hL0
    unfold x_tcp_Read r_tcp_Read
    repeat' (first
      | (with_reducible first | refine go_seq ?_ | refine go_region ?_ | refine go_regionD mixed_ok ?_ | refine go_cond ?_ | refine go_skip ?_ | refine go_block ?_ | refine nx_code ?_ | refine nx_block ?_ | refine go_ret ?_ | refine nx_nil ?_ | refine go_exit ?_ | refine ex_code ?_ | refine ex_loop ?_ | refine ex_here ?_)
      | ((with_reducible refine ex_past ?_ ?_); (exact by decide))
      | ((with_reducible refine endD_intro ?_ ?_); (exact by kernel_rfl))
      | ((with_reducible refine runR_n ?_ ?_); exact auN)
      | (first | (simp only [mkS_size, mkS_at, mkS_app, Int.toNat_natCast]) | (simp only [e12, e13, t1, t2, t3, t4, t5, t6]) | (simp only [x1, x2]) | (with_reducible refine runR_call hp ?_) | (with_reducible refine runR_call hu ?_) | (with_reducible refine runR_call hs0 ?_) | (with_reducible refine runR_call hs ?_) | (with_reducible refine runR_call h0 ?_) | (with_reducible refine runR_call h2 ?_) | (with_reducible refine runR_call h14 ?_) | (with_reducible refine runR_call h18 ?_) | (with_reducible refine runR_call h4 ?_) | (with_reducible refine runR_call h8 ?_))
      | (refine auD ?_)
      | (with_reducible refine runR_b (fun h => ?_) (fun h => ?_) <;> first | exact auH | simp only [h, runR_t, runR_f])
      | (with_reducible refine condK_bl ?_ ?_)
      | (with_reducible refine condK_b (fun h => ?_) (fun h => ?_) <;> first | exact auH | skip)
      | (refine runR_n (by simp only [mkS_size, List.length_append, und_len]; omega) ?_))
    (all_goals first | exact auP | skip)
    all_goals first
      | (exfalso; simp_all; done)
      | skip
    all_goals with_reducible refine ret_spec2 (by (try dsimp only [RetOK, resOk, resDs, resD, resV, cellV, cellO, cellP, cellOk, htake, nfD, nfL, nfLL, nfH, lget, partOf, xget, ddrop, dtake, dget, Env.get, N8.get, env0, List.length_cons, List.length_nil, Env.set, N8.set, lset, updL]); (repeat' (first | exact trivial | exact rfl | exact nfLL_map (fun x => by simp [nfL, nfD, nfD, nfL]) | decide | apply And.intro))) ?_
    all_goals (try dsimp only [RetOK, resOk, resDs, resD, resV, cellV, cellO, cellP, cellOk, htake, nfD, nfL, nfLL, nfH, lget, partOf, xget, ddrop, dtake, dget, Env.get, N8.get, env0, List.length_cons, List.length_nil, Env.set, N8.set, lset, updL])
    all_goals (try simp only [hsM] at *)
    all_goals rfl
  | some l =>
    rw [prR_some hprs] at hp
    have hu := under_spec a b 6 s.length ha hb
    have hs := right_spec (und a b 6 s.length ++ s) (by simp only [List.length_append, und_len]; omega)
    by_cases c5 : foldI (wsum (und a b 6 s.length ++ s)) = 65535
    · have hr : rdS s a b = (⟨wordAtI s 0, wordAtI s 2, lgAt s 4, lgAt s 8, (bN s 13 : Nat), wordAtI s 14, wordAtI s 18, l, s.drop (nW s)⟩, 0) := by unfold rdS; rw [if_neg (by omega), if_neg (not_not_intro ⟨c3a, c3d⟩), if_neg c4, hprs]; exact if_neg (not_not_intro c5)
      rw [hr]
      rw [c5] at hs
      have h0 := tcpwordAt_spec s 0 (by omega) (by omega) 0 rfl
      have h2 := tcpwordAt_spec s 2 (by omega) (by omega) 2 rfl
      have h14 := tcpwordAt_spec s 14 (by omega) (by omega) 14 rfl
      have h18 := tcpwordAt_spec s 18 (by omega) (by omega) 18 rfl
      have h4 := tcplongAt_spec s 4 (by omega) (by omega) 4 rfl
      have h8 := tcplongAt_spec s 8 (by omega) (by omega) 8 rfl
      refine hspec_fn Try.func10 rfl ok_tcp_Read okr_tcp_Read rfl (by kernel_rfl) ?_
      intro Γ hW0 hN0 hL0
      have hW := hW0 rfl
      clear hW0 hN0 hL0
      unfold x_tcp_Read r_tcp_Read
      repeat' (first
        | (with_reducible first | refine go_seq ?_ | refine go_region ?_ | refine go_regionD mixed_ok ?_ | refine go_cond ?_ | refine go_skip ?_ | refine go_block ?_ | refine nx_code ?_ | refine nx_block ?_ | refine go_ret ?_ | refine nx_nil ?_ | refine go_exit ?_ | refine ex_code ?_ | refine ex_loop ?_ | refine ex_here ?_)
        | ((with_reducible refine ex_past ?_ ?_); (exact by decide))
        | ((with_reducible refine endD_intro ?_ ?_); (exact by kernel_rfl))
        | ((with_reducible refine runR_n ?_ ?_); exact auN)
        | (first | (simp only [mkS_size, mkS_at, mkS_app, Int.toNat_natCast]) | (simp only [e12, e13, t1, t2, t3, t4, t5, t6]) | (simp only [x1, x2]) | (with_reducible refine runR_call hp ?_) | (with_reducible refine runR_call hu ?_) | (with_reducible refine runR_call hs0 ?_) | (with_reducible refine runR_call hs ?_) | (with_reducible refine runR_call h0 ?_) | (with_reducible refine runR_call h2 ?_) | (with_reducible refine runR_call h14 ?_) | (with_reducible refine runR_call h18 ?_) | (with_reducible refine runR_call h4 ?_) | (with_reducible refine runR_call h8 ?_))
        | (refine auD ?_)
        | (with_reducible refine runR_b (fun h => ?_) (fun h => ?_) <;> first | exact auH | simp only [h, runR_t, runR_f])
        | (with_reducible refine condK_bl ?_ ?_)
        | (with_reducible refine condK_b (fun h => ?_) (fun h => ?_) <;> first | exact auH | skip)
        | (refine runR_n (by simp only [mkS_size, List.length_append, und_len]; omega) ?_))
      (all_goals first | exact auP | skip)
      all_goals first
        | (exfalso; simp_all; done)
        | skip
      all_goals with_reducible refine ret_spec2 (by (try dsimp only [RetOK, resOk, resDs, resD, resV, cellV, cellO, cellP, cellOk, htake, nfD, nfL, nfLL, nfH, lget, partOf, xget, ddrop, dtake, dget, Env.get, N8.get, env0, List.length_cons, List.length_nil, Env.set, N8.set, lset, updL]); (repeat' (first | exact trivial | exact rfl | exact nfLL_map (fun x => by simp [nfL, nfD, nfD, nfL]) | decide | apply And.intro))) ?_
      all_goals (try dsimp only [RetOK, resOk, resDs, resD, resV, cellV, cellO, cellP, cellOk, htake, nfD, nfL, nfLL, nfH, lget, partOf, xget, ddrop, dtake, dget, Env.get, N8.get, env0, List.length_cons, List.length_nil, Env.set, N8.set, lset, updL])
      all_goals (try simp only [hsM] at *)
      all_goals rfl
    · have hr : rdS s a b = (sg0, 5) := by unfold rdS; rw [if_neg (by omega), if_neg (not_not_intro ⟨c3a, c3d⟩), if_neg c4, hprs]; exact if_pos c5
      rw [hr]
      generalize foldI (wsum (und a b 6 s.length ++ s)) = ck at *
      refine spec_nil ?_ (nil_sg _)
      refine hspec_fn Try.func10 rfl ok_tcp_Read okr_tcp_Read rfl (by kernel_rfl) ?_
      intro Γ hW0 hN0 hL0
      have hW := hW0 rfl
      clear hW0 hN0 hL0
      unfold x_tcp_Read r_tcp_Read
      repeat' (first
        | (with_reducible first | refine go_seq ?_ | refine go_region ?_ | refine go_regionD mixed_ok ?_ | refine go_cond ?_ | refine go_skip ?_ | refine go_block ?_ | refine nx_code ?_ | refine nx_block ?_ | refine go_ret ?_ | refine nx_nil ?_ | refine go_exit ?_ | refine ex_code ?_ | refine ex_loop ?_ | refine ex_here ?_)
        | ((with_reducible refine ex_past ?_ ?_); (exact by decide))
        | ((with_reducible refine endD_intro ?_ ?_); (exact by kernel_rfl))
        | ((with_reducible refine runR_n ?_ ?_); exact auN)
        | (first | (simp only [mkS_size, mkS_at, mkS_app, Int.toNat_natCast]) | (simp only [e12, e13, t1, t2, t3, t4, t5, t6]) | (simp only [x1, x2]) | (with_reducible refine runR_call hp ?_) | (with_reducible refine runR_call hu ?_) | (with_reducible refine runR_call hs0 ?_) | (with_reducible refine runR_call hs ?_) | (with_reducible refine runR_call h0 ?_) | (with_reducible refine runR_call h2 ?_) | (with_reducible refine runR_call h14 ?_) | (with_reducible refine runR_call h18 ?_) | (with_reducible refine runR_call h4 ?_) | (with_reducible refine runR_call h8 ?_))
        | (refine auD ?_)
        | (with_reducible refine runR_b (fun h => ?_) (fun h => ?_) <;> first | exact auH | simp only [h, runR_t, runR_f])
        | (with_reducible refine condK_bl ?_ ?_)
        | (with_reducible refine condK_b (fun h => ?_) (fun h => ?_) <;> first | exact auH | skip)
        | (refine runR_n (by simp only [mkS_size, List.length_append, und_len]; omega) ?_))
      (all_goals first | exact auP | skip)
      all_goals first
        | (exfalso; simp_all; done)
        | skip
      all_goals with_reducible refine ret_spec2 (by (try dsimp only [RetOK, resOk, resDs, resD, resV, cellV, cellO, cellP, cellOk, htake, nfD, nfL, nfLL, nfH, lget, partOf, xget, ddrop, dtake, dget, Env.get, N8.get, env0, List.length_cons, List.length_nil, Env.set, N8.set, lset, updL]); (repeat' (first | exact trivial | exact rfl | exact nfLL_map (fun x => by simp [nfL, nfD, nfD, nfL]) | decide | apply And.intro))) ?_
      all_goals (try dsimp only [RetOK, resOk, resDs, resD, resV, cellV, cellO, cellP, cellOk, htake, nfD, nfL, nfLL, nfH, lget, partOf, xget, ddrop, dtake, dget, Env.get, N8.get, env0, List.length_cons, List.length_nil, Env.set, N8.set, lset, updL])
      all_goals (try simp only [hsM] at *)
      all_goals rfl
set_option maxHeartbeats 4000000 in
theorem tseg_spec (s : List UInt8) (a b : Int) (ha : 0 ≤ a ∧ a < 4294967296) (hb : 0 ≤ b ∧ b < 4294967296) (hl : s.length ≤ 140737488351232) : Spec Try.prog 13 [.v (.string (mkS s)), .v (.int .u32 a), .v (.int .u32 b)] (dSgE (rdS s a b)) := by
  have b12 := bN_lt s 12
  have b13 := bN_lt s 13
  have e12 : IntKind.i64.wrap ((bN s 12 : Nat) : Int) = ((bN s 12 : Nat) : Int) := IntWalk.i64_in _ (by omega)
  have e13 : IntKind.i64.wrap ((bN s 13 : Nat) : Int) = ((bN s 13 : Nat) : Int) := IntWalk.i64_in _ (by omega)
  have t1 : IntKind.i64.wrap (((bN s 12 : Nat) : Int).tdiv 16) = ((bN s 12 / 16 : Nat) : Int) := by rw [Int.tdiv_eq_ediv_of_nonneg (by omega), IntWalk.i64_in _ (by omega)]; omega
  have t2 : IntKind.i64.wrap (((bN s 12 / 16 : Nat) : Int) * 4) = ((nW s : Nat) : Int) := by unfold nW; rw [IntWalk.i64_in _ (by omega)]; omega
  have t3 : ((bN s 12 : Nat) : Int).tmod 16 = ((bN s 12 % 16 : Nat) : Int) := (Int.ofNat_tmod _ 16).symm
  have hn60 : nW s ≤ 60 := by unfold nW; omega
  have t4 : IntKind.i64.wrap (4 * ((nW s : Nat) : Int)) = 4 * ((nW s : Nat) : Int) := IntWalk.i64_in _ (by omega)
  have t5 : IntKind.i64.wrap ((s.length : Int) - ((nW s : Nat) : Int)) = (s.length : Int) - ((nW s : Nat) : Int) := IntWalk.i64_in _ (by omega)
  have t6 : IntKind.i64.wrap (65455 + ((nW s : Nat) : Int)) = 65455 + ((nW s : Nat) : Int) := IntWalk.i64_in _ (by omega)
  have hq : bN s 12 % 16 = 0 ↔ ((bN s 12 : Nat) : Int) = 4 * ((nW s : Nat) : Int) := by unfold nW; omega
  by_cases c1 : s.length < 20
  · have hr : rdS s a b = (sg0, 3) := by unfold rdS; rw [if_pos (.inl c1)]
    rw [hr]
    refine spec_nil ?_ (nil_sg _)
    refine hspec_fn Try.func13 rfl ok_custref_TextSegment okr_custref_TextSegment rfl (by kernel_rfl) ?_
    intro Γ hW0 hN0 hL0
    have hW := hW0 rfl
    clear hW0 hN0 hL0
    unfold x_custref_TextSegment r_custref_TextSegment
    repeat' (first
      | (with_reducible first | refine go_seq ?_ | refine go_region ?_ | refine go_regionD mixed_ok ?_ | refine go_cond ?_ | refine go_skip ?_ | refine go_block ?_ | refine nx_code ?_ | refine nx_block ?_ | refine go_ret ?_ | refine nx_nil ?_ | refine go_exit ?_ | refine ex_code ?_ | refine ex_loop ?_ | refine ex_here ?_)
      | ((with_reducible refine ex_past ?_ ?_); (exact by decide))
      | ((with_reducible refine endD_intro ?_ ?_); (exact by kernel_rfl))
      | ((with_reducible refine runR_n ?_ ?_); exact auN)
      | (first | (simp only [mkS_size, mkS_at, mkS_app, Int.toNat_natCast]) | (simp only [e12, e13, t1, t2, t3, t4, t5, t6]) | (simp only [x1, x2]) | (with_reducible refine runR_call hp ?_) | (with_reducible refine runR_call hu ?_) | (with_reducible refine runR_call hs0 ?_) | (with_reducible refine runR_call hs ?_) | (with_reducible refine runR_call h0 ?_) | (with_reducible refine runR_call h2 ?_) | (with_reducible refine runR_call h14 ?_) | (with_reducible refine runR_call h18 ?_) | (with_reducible refine runR_call h4 ?_) | (with_reducible refine runR_call h8 ?_))
      | (refine auD ?_)
      | (with_reducible refine runR_b (fun h => ?_) (fun h => ?_) <;> first | exact auH | simp only [h, runR_t, runR_f])
      | (with_reducible refine condK_bl ?_ ?_)
      | (with_reducible refine condK_b (fun h => ?_) (fun h => ?_) <;> first | exact auH | skip)
      | (refine runR_n (by simp only [mkS_size, List.length_append, und_len]; omega) ?_))
    (all_goals first | exact auP | skip)
    all_goals first
      | (exfalso; simp_all; done)
      | skip
    all_goals with_reducible refine ret_spec2 (by (try dsimp only [RetOK, resOk, resDs, resD, resV, cellV, cellO, cellP, cellOk, htake, nfD, nfL, nfLL, nfH, lget, partOf, xget, ddrop, dtake, dget, Env.get, N8.get, env0, List.length_cons, List.length_nil, Env.set, N8.set, lset, updL]); (repeat' (first | exact trivial | exact rfl | exact nfLL_map (fun x => by simp [nfL, nfD, nfD, nfL]) | decide | apply And.intro))) ?_
    all_goals (try dsimp only [RetOK, resOk, resDs, resD, resV, cellV, cellO, cellP, cellOk, htake, nfD, nfL, nfLL, nfH, lget, partOf, xget, ddrop, dtake, dget, Env.get, N8.get, env0, List.length_cons, List.length_nil, Env.set, N8.set, lset, updL])
    all_goals (try simp only [hsM] at *)
    all_goals rfl
  by_cases c2 : s.length < nW s
  · have hr : rdS s a b = (sg0, 3) := by unfold rdS; rw [if_pos (.inr c2)]
    rw [hr]
    refine spec_nil ?_ (nil_sg _)
    refine hspec_fn Try.func13 rfl ok_custref_TextSegment okr_custref_TextSegment rfl (by kernel_rfl) ?_
    intro Γ hW0 hN0 hL0
    have hW := hW0 rfl
    clear hW0 hN0 hL0
    unfold x_custref_TextSegment r_custref_TextSegment
    repeat' (first
      | (with_reducible first | refine go_seq ?_ | refine go_region ?_ | refine go_regionD mixed_ok ?_ | refine go_cond ?_ | refine go_skip ?_ | refine go_block ?_ | refine nx_code ?_ | refine nx_block ?_ | refine go_ret ?_ | refine nx_nil ?_ | refine go_exit ?_ | refine ex_code ?_ | refine ex_loop ?_ | refine ex_here ?_)
      | ((with_reducible refine ex_past ?_ ?_); (exact by decide))
      | ((with_reducible refine endD_intro ?_ ?_); (exact by kernel_rfl))
      | ((with_reducible refine runR_n ?_ ?_); exact auN)
      | (first | (simp only [mkS_size, mkS_at, mkS_app, Int.toNat_natCast]) | (simp only [e12, e13, t1, t2, t3, t4, t5, t6]) | (simp only [x1, x2]) | (with_reducible refine runR_call hp ?_) | (with_reducible refine runR_call hu ?_) | (with_reducible refine runR_call hs0 ?_) | (with_reducible refine runR_call hs ?_) | (with_reducible refine runR_call h0 ?_) | (with_reducible refine runR_call h2 ?_) | (with_reducible refine runR_call h14 ?_) | (with_reducible refine runR_call h18 ?_) | (with_reducible refine runR_call h4 ?_) | (with_reducible refine runR_call h8 ?_))
      | (refine auD ?_)
      | (with_reducible refine runR_b (fun h => ?_) (fun h => ?_) <;> first | exact auH | simp only [h, runR_t, runR_f])
      | (with_reducible refine condK_bl ?_ ?_)
      | (with_reducible refine condK_b (fun h => ?_) (fun h => ?_) <;> first | exact auH | skip)
      | (refine runR_n (by simp only [mkS_size, List.length_append, und_len]; omega) ?_))
    (all_goals first | exact auP | skip)
    all_goals first
      | (exfalso; simp_all; done)
      | skip
    all_goals with_reducible refine ret_spec2 (by (try dsimp only [RetOK, resOk, resDs, resD, resV, cellV, cellO, cellP, cellOk, htake, nfD, nfL, nfLL, nfH, lget, partOf, xget, ddrop, dtake, dget, Env.get, N8.get, env0, List.length_cons, List.length_nil, Env.set, N8.set, lset, updL]); (repeat' (first | exact trivial | exact rfl | exact nfLL_map (fun x => by simp [nfL, nfD, nfD, nfL]) | decide | apply And.intro))) ?_
    all_goals (try dsimp only [RetOK, resOk, resDs, resD, resV, cellV, cellO, cellP, cellOk, htake, nfD, nfL, nfLL, nfH, lget, partOf, xget, ddrop, dtake, dget, Env.get, N8.get, env0, List.length_cons, List.length_nil, Env.set, N8.set, lset, updL])
    all_goals (try simp only [hsM] at *)
    all_goals rfl
  by_cases c3 : 20 ≤ nW s ∧ bN s 12 % 16 = 0
  case neg =>
    have hr : rdS s a b = (sg0, 4) := by unfold rdS; rw [if_neg (by omega), if_pos c3]
    rw [hr]
    refine spec_nil ?_ (nil_sg _)
    by_cases c3a : nW s < 20
    · skip
      refine hspec_fn Try.func13 rfl ok_custref_TextSegment okr_custref_TextSegment rfl (by kernel_rfl) ?_
      intro Γ hW0 hN0 hL0
      have hW := hW0 rfl
      clear hW0 hN0 hL0
      unfold x_custref_TextSegment r_custref_TextSegment
      repeat' (first
        | (with_reducible first | refine go_seq ?_ | refine go_region ?_ | refine go_regionD mixed_ok ?_ | refine go_cond ?_ | refine go_skip ?_ | refine go_block ?_ | refine nx_code ?_ | refine nx_block ?_ | refine go_ret ?_ | refine nx_nil ?_ | refine go_exit ?_ | refine ex_code ?_ | refine ex_loop ?_ | refine ex_here ?_)
        | ((with_reducible refine ex_past ?_ ?_); (exact by decide))
        | ((with_reducible refine endD_intro ?_ ?_); (exact by kernel_rfl))
        | ((with_reducible refine runR_n ?_ ?_); exact auN)
        | (first | (simp only [mkS_size, mkS_at, mkS_app, Int.toNat_natCast]) | (simp only [e12, e13, t1, t2, t3, t4, t5, t6]) | (simp only [x1, x2]) | (with_reducible refine runR_call hp ?_) | (with_reducible refine runR_call hu ?_) | (with_reducible refine runR_call hs0 ?_) | (with_reducible refine runR_call hs ?_) | (with_reducible refine runR_call h0 ?_) | (with_reducible refine runR_call h2 ?_) | (with_reducible refine runR_call h14 ?_) | (with_reducible refine runR_call h18 ?_) | (with_reducible refine runR_call h4 ?_) | (with_reducible refine runR_call h8 ?_))
        | (refine auD ?_)
        | (with_reducible refine runR_b (fun h => ?_) (fun h => ?_) <;> first | exact auH | simp only [h, runR_t, runR_f])
        | (with_reducible refine condK_bl ?_ ?_)
        | (with_reducible refine condK_b (fun h => ?_) (fun h => ?_) <;> first | exact auH | skip)
        | (refine runR_n (by simp only [mkS_size, List.length_append, und_len]; omega) ?_))
      (all_goals first | exact auP | skip)
      all_goals first
        | (exfalso; simp_all; done)
        | skip
      all_goals with_reducible refine ret_spec2 (by (try dsimp only [RetOK, resOk, resDs, resD, resV, cellV, cellO, cellP, cellOk, htake, nfD, nfL, nfLL, nfH, lget, partOf, xget, ddrop, dtake, dget, Env.get, N8.get, env0, List.length_cons, List.length_nil, Env.set, N8.set, lset, updL]); (repeat' (first | exact trivial | exact rfl | exact nfLL_map (fun x => by simp [nfL, nfD, nfD, nfL]) | decide | apply And.intro))) ?_
      all_goals (try dsimp only [RetOK, resOk, resDs, resD, resV, cellV, cellO, cellP, cellOk, htake, nfD, nfL, nfLL, nfH, lget, partOf, xget, ddrop, dtake, dget, Env.get, N8.get, env0, List.length_cons, List.length_nil, Env.set, N8.set, lset, updL])
      all_goals (try simp only [hsM] at *)
      all_goals rfl
    · have c3b : ¬ bN s 12 % 16 = 0 := fun q => c3 ⟨by omega, q⟩
      have c3c : ¬ ((bN s 12 : Nat) : Int) = 4 * ((nW s : Nat) : Int) := fun q => c3b (hq.2 q)
      refine hspec_fn Try.func13 rfl ok_custref_TextSegment okr_custref_TextSegment rfl (by kernel_rfl) ?_
      intro Γ hW0 hN0 hL0
      have hW := hW0 rfl
      clear hW0 hN0 hL0
      unfold x_custref_TextSegment r_custref_TextSegment
      repeat' (first
        | (with_reducible first | refine go_seq ?_ | refine go_region ?_ | refine go_regionD mixed_ok ?_ | refine go_cond ?_ | refine go_skip ?_ | refine go_block ?_ | refine nx_code ?_ | refine nx_block ?_ | refine go_ret ?_ | refine nx_nil ?_ | refine go_exit ?_ | refine ex_code ?_ | refine ex_loop ?_ | refine ex_here ?_)
        | ((with_reducible refine ex_past ?_ ?_); (exact by decide))
        | ((with_reducible refine endD_intro ?_ ?_); (exact by kernel_rfl))
        | ((with_reducible refine runR_n ?_ ?_); exact auN)
        | (first | (simp only [mkS_size, mkS_at, mkS_app, Int.toNat_natCast]) | (simp only [e12, e13, t1, t2, t3, t4, t5, t6]) | (simp only [x1, x2]) | (with_reducible refine runR_call hp ?_) | (with_reducible refine runR_call hu ?_) | (with_reducible refine runR_call hs0 ?_) | (with_reducible refine runR_call hs ?_) | (with_reducible refine runR_call h0 ?_) | (with_reducible refine runR_call h2 ?_) | (with_reducible refine runR_call h14 ?_) | (with_reducible refine runR_call h18 ?_) | (with_reducible refine runR_call h4 ?_) | (with_reducible refine runR_call h8 ?_))
        | (refine auD ?_)
        | (with_reducible refine runR_b (fun h => ?_) (fun h => ?_) <;> first | exact auH | simp only [h, runR_t, runR_f])
        | (with_reducible refine condK_bl ?_ ?_)
        | (with_reducible refine condK_b (fun h => ?_) (fun h => ?_) <;> first | exact auH | skip)
        | (refine runR_n (by simp only [mkS_size, List.length_append, und_len]; omega) ?_))
      (all_goals first | exact auP | skip)
      all_goals first
        | (exfalso; simp_all; done)
        | skip
      all_goals with_reducible refine ret_spec2 (by (try dsimp only [RetOK, resOk, resDs, resD, resV, cellV, cellO, cellP, cellOk, htake, nfD, nfL, nfLL, nfH, lget, partOf, xget, ddrop, dtake, dget, Env.get, N8.get, env0, List.length_cons, List.length_nil, Env.set, N8.set, lset, updL]); (repeat' (first | exact trivial | exact rfl | exact nfLL_map (fun x => by simp [nfL, nfD, nfD, nfL]) | decide | apply And.intro))) ?_
      all_goals (try dsimp only [RetOK, resOk, resDs, resD, resV, cellV, cellO, cellP, cellOk, htake, nfD, nfL, nfLL, nfH, lget, partOf, xget, ddrop, dtake, dget, Env.get, N8.get, env0, List.length_cons, List.length_nil, Env.set, N8.set, lset, updL])
      all_goals (try simp only [hsM] at *)
      all_goals rfl
  have c3b := hq.1 c3.2
  obtain ⟨c3a, c3d⟩ := c3
  by_cases c4 : 65455 + nW s < s.length
  · have hr : rdS s a b = (sg0, 2) := by unfold rdS; rw [if_neg (by omega), if_neg (not_not_intro ⟨c3a, c3d⟩), if_pos c4]
    rw [hr]
    refine spec_nil ?_ (nil_sg _)
    refine hspec_fn Try.func13 rfl ok_custref_TextSegment okr_custref_TextSegment rfl (by kernel_rfl) ?_
    intro Γ hW0 hN0 hL0
    have hW := hW0 rfl
    clear hW0 hN0 hL0
    unfold x_custref_TextSegment r_custref_TextSegment
    repeat' (first
      | (with_reducible first | refine go_seq ?_ | refine go_region ?_ | refine go_regionD mixed_ok ?_ | refine go_cond ?_ | refine go_skip ?_ | refine go_block ?_ | refine nx_code ?_ | refine nx_block ?_ | refine go_ret ?_ | refine nx_nil ?_ | refine go_exit ?_ | refine ex_code ?_ | refine ex_loop ?_ | refine ex_here ?_)
      | ((with_reducible refine ex_past ?_ ?_); (exact by decide))
      | ((with_reducible refine endD_intro ?_ ?_); (exact by kernel_rfl))
      | ((with_reducible refine runR_n ?_ ?_); exact auN)
      | (first | (simp only [mkS_size, mkS_at, mkS_app, Int.toNat_natCast]) | (simp only [e12, e13, t1, t2, t3, t4, t5, t6]) | (simp only [x1, x2]) | (with_reducible refine runR_call hp ?_) | (with_reducible refine runR_call hu ?_) | (with_reducible refine runR_call hs0 ?_) | (with_reducible refine runR_call hs ?_) | (with_reducible refine runR_call h0 ?_) | (with_reducible refine runR_call h2 ?_) | (with_reducible refine runR_call h14 ?_) | (with_reducible refine runR_call h18 ?_) | (with_reducible refine runR_call h4 ?_) | (with_reducible refine runR_call h8 ?_))
      | (refine auD ?_)
      | (with_reducible refine runR_b (fun h => ?_) (fun h => ?_) <;> first | exact auH | simp only [h, runR_t, runR_f])
      | (with_reducible refine condK_bl ?_ ?_)
      | (with_reducible refine condK_b (fun h => ?_) (fun h => ?_) <;> first | exact auH | skip)
      | (refine runR_n (by simp only [mkS_size, List.length_append, und_len]; omega) ?_))
    (all_goals first | exact auP | skip)
    all_goals first
      | (exfalso; simp_all; done)
      | skip
    all_goals with_reducible refine ret_spec2 (by (try dsimp only [RetOK, resOk, resDs, resD, resV, cellV, cellO, cellP, cellOk, htake, nfD, nfL, nfLL, nfH, lget, partOf, xget, ddrop, dtake, dget, Env.get, N8.get, env0, List.length_cons, List.length_nil, Env.set, N8.set, lset, updL]); (repeat' (first | exact trivial | exact rfl | exact nfLL_map (fun x => by simp [nfL, nfD, nfD, nfL]) | decide | apply And.intro))) ?_
    all_goals (try dsimp only [RetOK, resOk, resDs, resD, resV, cellV, cellO, cellP, cellOk, htake, nfD, nfL, nfLL, nfH, lget, partOf, xget, ddrop, dtake, dget, Env.get, N8.get, env0, List.length_cons, List.length_nil, Env.set, N8.set, lset, updL])
    all_goals (try simp only [hsM] at *)
    all_goals rfl
  have x1 : (mkS s).extract 20 (nW s) = mkS ((s.drop 20).take (nW s - 20)) := mkS_ext _ _ _
  have x2 : (mkS s).extract (nW s) s.length = mkS (s.drop (nW s)) := by rw [mkS_ext, List.take_of_length_le (by simp)]
  have hpl : ((s.drop 20).take (nW s - 20)).length ≤ 40 := by simp; omega
  have hp := optionsOf_spec _ _ (Nat.le_refl _) hpl
  cases hprs : prs ((s.drop 20).take (nW s - 20)) with
  | none =>
    have hr : rdS s a b = (sg0, 4) := by unfold rdS; rw [if_neg (by omega), if_neg (not_not_intro ⟨c3a, c3d⟩), if_neg c4, hprs]
    rw [hr]
    rw [prR_none hprs] at hp
    refine spec_nil ?_ (nil_sg _)
    refine hspec_fn Try.func13 rfl ok_custref_TextSegment okr_custref_TextSegment rfl (by kernel_rfl) ?_
    intro Γ hW0 hN0 hL0
    have hW := hW0 rfl
    clear hW0 hN0 hL0
    unfold x_custref_TextSegment r_custref_TextSegment
    repeat' (first
      | (with_reducible first | refine go_seq ?_ | refine go_region ?_ | refine go_regionD mixed_ok ?_ | refine go_cond ?_ | refine go_skip ?_ | refine go_block ?_ | refine nx_code ?_ | refine nx_block ?_ | refine go_ret ?_ | refine nx_nil ?_ | refine go_exit ?_ | refine ex_code ?_ | refine ex_loop ?_ | refine ex_here ?_)
      | ((with_reducible refine ex_past ?_ ?_); (exact by decide))
      | ((with_reducible refine endD_intro ?_ ?_); (exact by kernel_rfl))
      | ((with_reducible refine runR_n ?_ ?_); exact auN)
      | (first | (simp only [mkS_size, mkS_at, mkS_app, Int.toNat_natCast]) | (simp only [e12, e13, t1, t2, t3, t4, t5, t6]) | (simp only [x1, x2]) | (with_reducible refine runR_call hp ?_) | (with_reducible refine runR_call hu ?_) | (with_reducible refine runR_call hs0 ?_) | (with_reducible refine runR_call hs ?_) | (with_reducible refine runR_call h0 ?_) | (with_reducible refine runR_call h2 ?_) | (with_reducible refine runR_call h14 ?_) | (with_reducible refine runR_call h18 ?_) | (with_reducible refine runR_call h4 ?_) | (with_reducible refine runR_call h8 ?_))
      | (refine auD ?_)
      | (with_reducible refine runR_b (fun h => ?_) (fun h => ?_) <;> first | exact auH | simp only [h, runR_t, runR_f])
      | (with_reducible refine condK_bl ?_ ?_)
      | (with_reducible refine condK_b (fun h => ?_) (fun h => ?_) <;> first | exact auH | skip)
      | (refine runR_n (by simp only [mkS_size, List.length_append, und_len]; omega) ?_))
    (all_goals first | exact auP | skip)
    all_goals first
      | (exfalso; simp_all; done)
      | skip
    all_goals with_reducible refine ret_spec2 (by (try dsimp only [RetOK, resOk, resDs, resD, resV, cellV, cellO, cellP, cellOk, htake, nfD, nfL, nfLL, nfH, lget, partOf, xget, ddrop, dtake, dget, Env.get, N8.get, env0, List.length_cons, List.length_nil, Env.set, N8.set, lset, updL]); (repeat' (first | exact trivial | exact rfl | exact nfLL_map (fun x => by simp [nfL, nfD, nfD, nfL]) | decide | apply And.intro))) ?_
    all_goals (try dsimp only [RetOK, resOk, resDs, resD, resV, cellV, cellO, cellP, cellOk, htake, nfD, nfL, nfLL, nfH, lget, partOf, xget, ddrop, dtake, dget, Env.get, N8.get, env0, List.length_cons, List.length_nil, Env.set, N8.set, lset, updL])
    all_goals (try simp only [hsM] at *)
    all_goals rfl
  | some l =>
    rw [prR_some hprs] at hp
    have hu := underText_spec a b 6 s.length ha hb
    have hs0 := sumOf_spec 0 (by decide) (und a b 6 s.length) (by rw [und_len]; decide)
    rw [Int.zero_add] at hs0
    have hw0 := wsum_bd (und a b 6 s.length)
    have hw1 := wsum_bd s
    have hs := sumOf_spec (foldI (wsum (und a b 6 s.length))) (foldI_bd _ hw0.1) s (by omega)
    rw [foldI_add _ _ hw0.1 hw1.1, ← wsum_app_even _ s (by rw [und_len])] at hs
    by_cases c5 : foldI (wsum (und a b 6 s.length ++ s)) = 65535
    · have hr : rdS s a b = (⟨wordAtI s 0, wordAtI s 2, lgAt s 4, lgAt s 8, (bN s 13 : Nat), wordAtI s 14, wordAtI s 18, l, s.drop (nW s)⟩, 0) := by unfold rdS; rw [if_neg (by omega), if_neg (not_not_intro ⟨c3a, c3d⟩), if_neg c4, hprs]; exact if_neg (not_not_intro c5)
      rw [hr]
      rw [c5] at hs
      have h0 := wordAt_spec s 0 (by omega) (by omega) 0 rfl
      have h2 := wordAt_spec s 2 (by omega) (by omega) 2 rfl
      have h14 := wordAt_spec s 14 (by omega) (by omega) 14 rfl
      have h18 := wordAt_spec s 18 (by omega) (by omega) 18 rfl
      have h4 := longAt_spec s 4 (by omega) (by omega) 4 rfl
      have h8 := longAt_spec s 8 (by omega) (by omega) 8 rfl
      refine hspec_fn Try.func13 rfl ok_custref_TextSegment okr_custref_TextSegment rfl (by kernel_rfl) ?_
      intro Γ hW0 hN0 hL0
      have hW := hW0 rfl
      clear hW0 hN0 hL0
      unfold x_custref_TextSegment r_custref_TextSegment
      repeat' (first
        | (with_reducible first | refine go_seq ?_ | refine go_region ?_ | refine go_regionD mixed_ok ?_ | refine go_cond ?_ | refine go_skip ?_ | refine go_block ?_ | refine nx_code ?_ | refine nx_block ?_ | refine go_ret ?_ | refine nx_nil ?_ | refine go_exit ?_ | refine ex_code ?_ | refine ex_loop ?_ | refine ex_here ?_)
        | ((with_reducible refine ex_past ?_ ?_); (exact by decide))
        | ((with_reducible refine endD_intro ?_ ?_); (exact by kernel_rfl))
        | ((with_reducible refine runR_n ?_ ?_); exact auN)
        | (first | (simp only [mkS_size, mkS_at, mkS_app, Int.toNat_natCast]) | (simp only [e12, e13, t1, t2, t3, t4, t5, t6]) | (simp only [x1, x2]) | (with_reducible refine runR_call hp ?_) | (with_reducible refine runR_call hu ?_) | (with_reducible refine runR_call hs0 ?_) | (with_reducible refine runR_call hs ?_) | (with_reducible refine runR_call h0 ?_) | (with_reducible refine runR_call h2 ?_) | (with_reducible refine runR_call h14 ?_) | (with_reducible refine runR_call h18 ?_) | (with_reducible refine runR_call h4 ?_) | (with_reducible refine runR_call h8 ?_))
        | (refine auD ?_)
        | (with_reducible refine runR_b (fun h => ?_) (fun h => ?_) <;> first | exact auH | simp only [h, runR_t, runR_f])
        | (with_reducible refine condK_bl ?_ ?_)
        | (with_reducible refine condK_b (fun h => ?_) (fun h => ?_) <;> first | exact auH | skip)
        | (refine runR_n (by simp only [mkS_size, List.length_append, und_len]; omega) ?_))
      (all_goals first | exact auP | skip)
      all_goals first
        | (exfalso; simp_all; done)
        | skip
      all_goals with_reducible refine ret_spec2 (by (try dsimp only [RetOK, resOk, resDs, resD, resV, cellV, cellO, cellP, cellOk, htake, nfD, nfL, nfLL, nfH, lget, partOf, xget, ddrop, dtake, dget, Env.get, N8.get, env0, List.length_cons, List.length_nil, Env.set, N8.set, lset, updL]); (repeat' (first | exact trivial | exact rfl | exact nfLL_map (fun x => by simp [nfL, nfD, nfD, nfL]) | decide | apply And.intro))) ?_
      all_goals (try dsimp only [RetOK, resOk, resDs, resD, resV, cellV, cellO, cellP, cellOk, htake, nfD, nfL, nfLL, nfH, lget, partOf, xget, ddrop, dtake, dget, Env.get, N8.get, env0, List.length_cons, List.length_nil, Env.set, N8.set, lset, updL])
      all_goals (try simp only [hsM] at *)
      all_goals rfl
    · have hr : rdS s a b = (sg0, 5) := by unfold rdS; rw [if_neg (by omega), if_neg (not_not_intro ⟨c3a, c3d⟩), if_neg c4, hprs]; exact if_pos c5
      rw [hr]
      generalize foldI (wsum (und a b 6 s.length ++ s)) = ck at *
      refine spec_nil ?_ (nil_sg _)
      refine hspec_fn Try.func13 rfl ok_custref_TextSegment okr_custref_TextSegment rfl (by kernel_rfl) ?_
      intro Γ hW0 hN0 hL0
      have hW := hW0 rfl
      clear hW0 hN0 hL0
      unfold x_custref_TextSegment r_custref_TextSegment
      repeat' (first
        | (with_reducible first | refine go_seq ?_ | refine go_region ?_ | refine go_regionD mixed_ok ?_ | refine go_cond ?_ | refine go_skip ?_ | refine go_block ?_ | refine nx_code ?_ | refine nx_block ?_ | refine go_ret ?_ | refine nx_nil ?_ | refine go_exit ?_ | refine ex_code ?_ | refine ex_loop ?_ | refine ex_here ?_)
        | ((with_reducible refine ex_past ?_ ?_); (exact by decide))
        | ((with_reducible refine endD_intro ?_ ?_); (exact by kernel_rfl))
        | ((with_reducible refine runR_n ?_ ?_); exact auN)
        | (first | (simp only [mkS_size, mkS_at, mkS_app, Int.toNat_natCast]) | (simp only [e12, e13, t1, t2, t3, t4, t5, t6]) | (simp only [x1, x2]) | (with_reducible refine runR_call hp ?_) | (with_reducible refine runR_call hu ?_) | (with_reducible refine runR_call hs0 ?_) | (with_reducible refine runR_call hs ?_) | (with_reducible refine runR_call h0 ?_) | (with_reducible refine runR_call h2 ?_) | (with_reducible refine runR_call h14 ?_) | (with_reducible refine runR_call h18 ?_) | (with_reducible refine runR_call h4 ?_) | (with_reducible refine runR_call h8 ?_))
        | (refine auD ?_)
        | (with_reducible refine runR_b (fun h => ?_) (fun h => ?_) <;> first | exact auH | simp only [h, runR_t, runR_f])
        | (with_reducible refine condK_bl ?_ ?_)
        | (with_reducible refine condK_b (fun h => ?_) (fun h => ?_) <;> first | exact auH | skip)
        | (refine runR_n (by simp only [mkS_size, List.length_append, und_len]; omega) ?_))
      (all_goals first | exact auP | skip)
      all_goals first
        | (exfalso; simp_all; done)
        | skip
      all_goals with_reducible refine ret_spec2 (by (try dsimp only [RetOK, resOk, resDs, resD, resV, cellV, cellO, cellP, cellOk, htake, nfD, nfL, nfLL, nfH, lget, partOf, xget, ddrop, dtake, dget, Env.get, N8.get, env0, List.length_cons, List.length_nil, Env.set, N8.set, lset, updL]); (repeat' (first | exact trivial | exact rfl | exact nfLL_map (fun x => by simp [nfL, nfD, nfD, nfL]) | decide | apply And.intro))) ?_
      all_goals (try dsimp only [RetOK, resOk, resDs, resD, resV, cellV, cellO, cellP, cellOk, htake, nfD, nfL, nfLL, nfH, lget, partOf, xget, ddrop, dtake, dget, Env.get, N8.get, env0, List.length_cons, List.length_nil, Env.set, N8.set, lset, updL])
      all_goals (try simp only [hsM] at *)
      all_goals rfl
end Go.Proofs.Ythdghenfidkdcaa
