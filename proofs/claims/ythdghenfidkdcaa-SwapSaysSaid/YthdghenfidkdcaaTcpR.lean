/-
  Segments: options read, walked.
-/
import Derived.Test.YthdghenfidkdcaaTcpP
namespace Go.Proofs.Ythdghenfidkdcaa
set_option linter.unusedVariables false
set_option linter.unusedSimpArgs false
theorem count_spec (l : List UInt8) : Spec Try.prog 45 [.v (.string (mkS l)), .v (.string (mkS [0]))] (.v (.int .i64 (Lib.countByte l 0 : Nat))) := by
  have e1 : (mkS l).data.toList = l := by simp [mkS]
  have e2 : (mkS [0]).size = 1 := rfl
  have e3 : byteI (mkS [0]) 0 = 0 := rfl
  have e4 : (0 : Int).toNat.toUInt8 = 0 := rfl
  refine hspec_fn Try.func45 rfl ok_strings_Count okr_strings_Count rfl (by kernel_rfl) ?_
  intro Γ hW0 hN0 hL0
  have hW := hW0 rfl
  clear hW0 hN0 hL0
  unfold x_strings_Count r_strings_Count
  repeat' (first
    | (with_reducible first | refine go_seq ?_ | refine go_region ?_ | refine go_regionD mixed_ok ?_ | refine go_cond ?_ | refine go_skip ?_ | refine go_block ?_ | refine nx_code ?_ | refine nx_block ?_ | refine go_ret ?_ | refine nx_nil ?_ | refine go_exit ?_ | refine ex_code ?_ | refine ex_loop ?_ | refine ex_here ?_)
    | ((with_reducible refine ex_past ?_ ?_); (exact by decide))
    | ((with_reducible refine endD_intro ?_ ?_); (exact by kernel_rfl))
    | ((with_reducible refine runR_n ?_ ?_); exact auN)
    | (simp only [e1, e2, e3, e4])
    | (refine auD ?_)
    | (with_reducible refine runR_b (fun h => ?_) (fun h => ?_) <;> first | exact auH | simp only [h, runR_t, runR_f])
    | (with_reducible refine condK_bl ?_ ?_)
    | (with_reducible refine condK_b (fun h => ?_) (fun h => ?_) <;> first | exact auH | skip)
    | fail)
  (all_goals first | exact auP | skip)
  all_goals with_reducible refine ret_spec2 (by (try dsimp only [RetOK, resOk, resDs, resD, resV, cellV, cellO, cellP, cellOk, htake, nfD, nfL, nfLL, nfH, lget, partOf, xget, ddrop, dtake, dget, Env.get, N8.get, env0, List.length_cons, List.length_nil, Env.set, N8.set, lset, updL]); (repeat' (first | exact trivial | exact rfl | exact nfLL_map (fun x => by simp [nfL, nfD, nfD]) | decide | apply And.intro))) ?_
  all_goals (try dsimp only [RetOK, resOk, resDs, resD, resV, cellV, cellO, cellP, cellOk, htake, nfD, nfL, nfLL, nfH, lget, partOf, xget, ddrop, dtake, dget, Env.get, N8.get, env0, List.length_cons, List.length_nil, Env.set, N8.set, lset, updL])
  all_goals (try simp only [hsM] at *)
  all_goals rfl
theorem zer_count (l : List UInt8) : Lib.countByte l 0 = l.length ↔ zer l = true := by
  unfold Lib.countByte zer
  rw [List.count_eq_length, List.all_eq_true]
  constructor
  · intro h b hb; exact decide_eq_true (h b hb).symm
  · intro h b hb; exact (of_decide_eq_true (h b hb)).symm
set_option maxHeartbeats 4000000 in
theorem parse_spec (s : List UInt8) (hs : s.length ≤ 40) : Spec Try.prog 25 [.v (.string (mkS s))] (dPr (prR s)) := by
  refine hspec_fn Try.func25 rfl ok_tcp_parse okr_tcp_parse rfl (by kernel_rfl) ?_
  intro Γ hW0 hN0 hL0
  have hW := hW0 rfl
  clear hW0 hN0 hL0
  unfold x_tcp_parse r_tcp_parse
  repeat' (first
    | (with_reducible first | refine go_seq ?_ | refine go_region ?_ | refine go_regionD mixed_ok ?_ | refine go_cond ?_ | refine go_skip ?_ | refine go_block ?_ | refine nx_code ?_ | refine nx_block ?_ | refine go_ret ?_ | refine nx_nil ?_ | refine go_exit ?_ | refine ex_code ?_ | refine ex_loop ?_ | refine ex_here ?_)
    | ((with_reducible refine ex_past ?_ ?_); (exact by decide))
    | ((with_reducible refine endD_intro ?_ ?_); (exact by kernel_rfl))
    | ((with_reducible refine runR_n ?_ ?_); exact auN)
    | fail
    | (refine auD ?_)
    | (with_reducible refine runR_b (fun h => ?_) (fun h => ?_) <;> first | exact auH | simp only [h, runR_t, runR_f])
    | (with_reducible refine condK_bl ?_ ?_)
    | (with_reducible refine condK_b (fun h => ?_) (fun h => ?_) <;> first | exact auH | skip)
    | fail)
  apply go_le
  · exact le_row ⟨.d0, .d0, .d4⟩ 1 2 rfl rfl
  dsimp only [writesX, dstsX, appS, havE, setsE, Env.get, Env.set, N8.get, N8.set, updL, lget, lset, env0]
  refine go_loopH (α := List Op2 × List UInt8 × Nat × Nat) (fun x => [(⟨.d0, .d0, .d4⟩, .sl 1 x.2.2.1 2 0 x.1.length false), (⟨.d0, .d0, .d0⟩, .v (.string (mkS x.2.1)))]) (fun x => [(0, none), (1, some ⟨x.2.2.1, 2, x.1.map Op2.enc⟩), (2, none)]) (fun x => x.2.2.2) (fun x => x.2.1.length) (fun x => prs s = (prs x.2.1).map (x.1 ++ ·) ∧ x.1.length + x.2.1.length ≤ 40) ([], s, Γ.g0, Γ.g0 + 1) ⟨by simp, by simpa using hs⟩ ?_ ?_
  · skip
    refine le_mk ?_ ?_ (Nat.le_refl _)
    all_goals dsimp only [leE, leC, leR, leN, leD, leH, leO, writesX, dstsX, appS, havE, setsE, Env.get, Env.set, N8.get, N8.set, updL, lget, lset, env0]
    all_goals (repeat' (first | exact trivial | exact rfl | apply And.intro))
  rintro ⟨out, t, nm, gn⟩ ⟨hpr, hlen⟩
  dsimp only at hpr hlen ⊢
  dsimp only [writesX, dstsX, appS, havE, setsE, Env.get, Env.set, N8.get, N8.set, updL, lget, lset, env0]
  have hb0 := bN_lt t 0
  have hb1 := bN_lt t 1
  by_cases he : t = []
  · have hz : zer t = true := by rw [he]; rfl
    have hyes : prR s = (out, true) := prR_some (by rw [hpr, prs_zero hz]; simp)
    rw [hyes]
    have hl0 : t.length = 0 := by rw [he]; rfl
    have hme : mkS t = mkS [] := by rw [he]
    repeat' (first
      | (with_reducible first | refine go_seq ?_ | refine go_region ?_ | refine go_regionD mixed_ok ?_ | refine go_cond ?_ | refine go_skip ?_ | refine go_block ?_ | refine nx_code ?_ | refine nx_block ?_ | refine go_ret ?_ | refine nx_nil ?_ | refine go_exit ?_ | refine ex_code ?_ | refine ex_loop ?_ | refine ex_here ?_)
      | ((with_reducible refine ex_past ?_ ?_); (exact by decide))
      | ((with_reducible refine endD_intro ?_ ?_); (exact by kernel_rfl))
      | ((with_reducible refine runR_n ?_ ?_); exact auN)
      | (first | (simp only [hme]) | (simp only [mkS_size, List.length_nil, mkS_at, emR, mkS_inj, Int.toNat_natCast]))
      | (refine auD ?_)
      | (with_reducible refine runR_b (fun h => ?_) (fun h => ?_) <;> first | exact auH | simp only [h, runR_t, runR_f])
      | (with_reducible refine condK_bl ?_ ?_)
      | (with_reducible refine condK_b (fun h => ?_) (fun h => ?_) <;> first | exact auH | skip)
      | fail)
    (all_goals first | exact auP | skip)
    all_goals first
      | (exfalso; simp at h; done)
      | skip
    refine go_loopH (α := Unit) (fun _ => [(⟨.d0, .d7, .d1⟩, .v (.int .i64 0))]) (fun _ => []) (fun _ => gn) (fun _ => 0) (fun _ => True) () trivial ?_ ?_
    · skip
      refine le_mk ?_ ?_ (Nat.le_refl _)
      all_goals dsimp only [leE, leC, leR, leN, leD, leH, leO, writesX, dstsX, appS, havE, setsE, Env.get, Env.set, N8.get, N8.set, updL, lget, lset, env0]
      all_goals (repeat' (first | exact trivial | exact rfl | apply And.intro))
    rintro ⟨⟩ -
    dsimp only [writesX, dstsX, appS, havE, setsE, Env.get, Env.set, N8.get, N8.set, updL, lget, lset, env0]
    repeat' (first
      | (with_reducible first | refine go_seq ?_ | refine go_region ?_ | refine go_regionD mixed_ok ?_ | refine go_cond ?_ | refine go_skip ?_ | refine go_block ?_ | refine nx_code ?_ | refine nx_block ?_ | refine go_ret ?_ | refine nx_nil ?_ | refine go_exit ?_ | refine ex_code ?_ | refine ex_loop ?_ | refine ex_here ?_)
      | ((with_reducible refine ex_past ?_ ?_); (exact by decide))
      | ((with_reducible refine endD_intro ?_ ?_); (exact by kernel_rfl))
      | ((with_reducible refine runR_n ?_ ?_); exact auN)
      | (simp only [mkS_size, List.length_nil])
      | (refine auD ?_)
      | (with_reducible refine runR_b (fun h => ?_) (fun h => ?_) <;> first | exact auH | simp only [h, runR_t, runR_f])
      | (with_reducible refine condK_bl ?_ ?_)
      | (with_reducible refine condK_b (fun h => ?_) (fun h => ?_) <;> first | exact auH | skip)
      | fail)
    (all_goals first | exact auP | skip)
    all_goals first
      | (exfalso; simp at h; done)
      | skip
    refine retq_le (leG_freeze hW ⟨.d0, .d0, .d2⟩ rfl rfl ⟨rfl, rfl, by simp⟩) ?_
    rw [xall (List.length_map _).symm]
    have hnf : nfLL Γ.g0 (out.map Op2.enc) := nfLL_map (fun x => by simp [nfL, nfD])
    all_goals with_reducible refine ret_spec2 (by (try dsimp only [RetOK, resOk, resDs, resD, resV, cellV, cellO, cellP, cellOk, htake, nfD, nfL, nfLL, nfH, lget, partOf, xget, ddrop, dtake, dget, Env.get, N8.get, env0, List.length_cons, List.length_nil, Env.set, N8.set, lset, updL]); (repeat' (first | exact trivial | exact rfl | exact nfLL_map (fun x => by simp [nfL, nfD, nfD, nfL]) | decide | apply And.intro))) ?_
    all_goals (try dsimp only [RetOK, resOk, resDs, resD, resV, cellV, cellO, cellP, cellOk, htake, nfD, nfL, nfLL, nfH, lget, partOf, xget, ddrop, dtake, dget, Env.get, N8.get, env0, List.length_cons, List.length_nil, Env.set, N8.set, lset, updL])
    all_goals (try simp only [hsM] at *)
  have hpos : 0 < t.length := List.length_pos_iff.2 he
  by_cases h0 : bN t 0 = 0
  · have hc0 : ((bN t 0 : Nat) : Int) = 0 := by omega
    repeat' (first
      | (with_reducible first | refine go_seq ?_ | refine go_region ?_ | refine go_regionD mixed_ok ?_ | refine go_cond ?_ | refine go_skip ?_ | refine go_block ?_ | refine nx_code ?_ | refine nx_block ?_ | refine go_ret ?_ | refine nx_nil ?_ | refine go_exit ?_ | refine ex_code ?_ | refine ex_loop ?_ | refine ex_here ?_)
      | ((with_reducible refine ex_past ?_ ?_); (exact by decide))
      | ((with_reducible refine endD_intro ?_ ?_); (exact by kernel_rfl))
      | ((with_reducible refine runR_n ?_ ?_); exact auN)
      | (first | (simp only [mkS_size, mkS_at, emR, mkS_inj, Int.toNat_natCast]) | (simp only [hc0]))
      | (refine auD ?_)
      | (with_reducible refine runR_b (fun h => ?_) (fun h => ?_) <;> first | exact auH | simp only [h, runR_t, runR_f])
      | (with_reducible refine condK_bl ?_ ?_)
      | (with_reducible refine condK_b (fun h => ?_) (fun h => ?_) <;> first | exact auH | skip)
      | fail)
    (all_goals first | exact auP | skip)
    all_goals first
      | (exfalso; simp_all; done)
      | skip
    refine go_loopH (α := Nat) (fun i => [(⟨.d0, .d7, .d1⟩, .v (.int .i64 (i : Nat)))]) (fun _ => []) (fun _ => gn) (fun i => t.length - i) (fun i => i ≤ t.length ∧ ∀ k, k < i → bN t k = 0) 0 ⟨Nat.zero_le _, fun k h => absurd h (Nat.not_lt_zero _)⟩ ?_ ?_
    · skip
      refine le_mk ?_ ?_ (Nat.le_refl _)
      all_goals dsimp only [leE, leC, leR, leN, leD, leH, leO, writesX, dstsX, appS, havE, setsE, Env.get, Env.set, N8.get, N8.set, updL, lget, lset, env0]
      all_goals (repeat' (first | exact trivial | exact rfl | apply And.intro))
    rintro i ⟨hi, hp⟩
    dsimp only at hi hp ⊢
    dsimp only [writesX, dstsX, appS, havE, setsE, Env.get, Env.set, N8.get, N8.set, updL, lget, lset, env0]
    by_cases hlt : i < t.length
    · by_cases hb : bN t i = 0
      · skip
        repeat' (first
          | (with_reducible first | refine go_seq ?_ | refine go_region ?_ | refine go_regionD mixed_ok ?_ | refine go_cond ?_ | refine go_skip ?_ | refine go_block ?_ | refine nx_code ?_ | refine nx_block ?_ | refine go_ret ?_ | refine nx_nil ?_ | refine go_exit ?_ | refine ex_code ?_ | refine ex_loop ?_ | refine ex_here ?_)
          | ((with_reducible refine ex_past ?_ ?_); (exact by decide))
          | ((with_reducible refine endD_intro ?_ ?_); (exact by kernel_rfl))
          | ((with_reducible refine runR_n ?_ ?_); exact auN)
          | (simp only [mkS_size, mkS_at, Int.toNat_natCast])
          | (refine auD ?_)
          | (with_reducible refine runR_b (fun h => ?_) (fun h => ?_) <;> first | exact auH | simp only [h, runR_t, runR_f])
          | (with_reducible refine condK_bl ?_ ?_)
          | (with_reducible refine condK_b (fun h => ?_) (fun h => ?_) <;> first | exact auH | skip)
          | fail)
        (all_goals first | exact auP | skip)
        all_goals first
          | (exfalso; simp_all; done)
          | skip
        refine nx_loop ⟨i + 1, ⟨hlt, fun k hk => ?_⟩, by omega, ?_⟩
        · by_cases e : k = i
          · rw [e]; exact hb
          · exact hp k (by omega)
        refine le_mk ?_ ?_ (Nat.le_refl _)
        all_goals dsimp only [leE, leC, leR, leN, leD, leH, leO, writesX, dstsX, appS, havE, setsE, Env.get, Env.set, N8.get, N8.set, updL, lget, lset, env0]
        all_goals (repeat' (first | exact trivial | exact rfl | apply And.intro))
        all_goals exact dint ((IntWalk.i64_in _ (by omega)).trans (by omega))
      · have hz : zer t = false := by
          cases hz : zer t with
          | false => rfl
          | true => exact absurd ((zer_iff t).1 hz i hlt) hb
        have hno : prR s = ([], false) := prR_none (by rw [hpr, prs_bad hz h0]; rfl)
        rw [hno]
        have hbi : ¬ ((bN t i : Nat) : Int) = 0 := by omega
        repeat' (first
          | (with_reducible first | refine go_seq ?_ | refine go_region ?_ | refine go_regionD mixed_ok ?_ | refine go_cond ?_ | refine go_skip ?_ | refine go_block ?_ | refine nx_code ?_ | refine nx_block ?_ | refine go_ret ?_ | refine nx_nil ?_ | refine go_exit ?_ | refine ex_code ?_ | refine ex_loop ?_ | refine ex_here ?_)
          | ((with_reducible refine ex_past ?_ ?_); (exact by decide))
          | ((with_reducible refine endD_intro ?_ ?_); (exact by kernel_rfl))
          | ((with_reducible refine runR_n ?_ ?_); exact auN)
          | (simp only [mkS_size, mkS_at, Int.toNat_natCast])
          | (refine auD ?_)
          | (with_reducible refine runR_b (fun h => ?_) (fun h => ?_) <;> first | exact auH | simp only [h, runR_t, runR_f])
          | (with_reducible refine condK_bl ?_ ?_)
          | (with_reducible refine condK_b (fun h => ?_) (fun h => ?_) <;> first | exact auH | skip)
          | fail)
        (all_goals first | exact auP | skip)
        all_goals first
          | (exfalso; simp_all; done)
          | skip
        refine retq_le (le_leG (le_row ⟨.d0, .d0, .d2⟩ 9 2 rfl rfl)) (retq_le (leG_freeze hW ⟨.d0, .d0, .d2⟩ rfl rfl ⟨rfl, rfl, by exact Nat.le_refl _⟩) ?_)
        dsimp only [xtake, xdrop]
        all_goals with_reducible refine ret_spec2 (by (try dsimp only [RetOK, resOk, resDs, resD, resV, cellV, cellO, cellP, cellOk, htake, nfD, nfL, nfLL, nfH, lget, partOf, xget, ddrop, dtake, dget, Env.get, N8.get, env0, List.length_cons, List.length_nil, Env.set, N8.set, lset, updL]); (repeat' (first | exact trivial | exact rfl | exact nfLL_map (fun x => by simp [nfL, nfD, nfD, nfL]) | decide | apply And.intro))) ?_
        all_goals (try dsimp only [RetOK, resOk, resDs, resD, resV, cellV, cellO, cellP, cellOk, htake, nfD, nfL, nfLL, nfH, lget, partOf, xget, ddrop, dtake, dget, Env.get, N8.get, env0, List.length_cons, List.length_nil, Env.set, N8.set, lset, updL])
        all_goals (try simp only [hsM] at *)
        all_goals rfl
    · have hz : zer t = true := (zer_iff t).2 (fun k hk => hp k (by omega))
      have hyes : prR s = (out, true) := prR_some (by rw [hpr, prs_zero hz]; simp)
      rw [hyes]
      repeat' (first
        | (with_reducible first | refine go_seq ?_ | refine go_region ?_ | refine go_regionD mixed_ok ?_ | refine go_cond ?_ | refine go_skip ?_ | refine go_block ?_ | refine nx_code ?_ | refine nx_block ?_ | refine go_ret ?_ | refine nx_nil ?_ | refine go_exit ?_ | refine ex_code ?_ | refine ex_loop ?_ | refine ex_here ?_)
        | ((with_reducible refine ex_past ?_ ?_); (exact by decide))
        | ((with_reducible refine endD_intro ?_ ?_); (exact by kernel_rfl))
        | ((with_reducible refine runR_n ?_ ?_); exact auN)
        | (simp only [mkS_size])
        | (refine auD ?_)
        | (with_reducible refine runR_b (fun h => ?_) (fun h => ?_) <;> first | exact auH | simp only [h, runR_t, runR_f])
        | (with_reducible refine condK_bl ?_ ?_)
        | (with_reducible refine condK_b (fun h => ?_) (fun h => ?_) <;> first | exact auH | skip)
        | fail)
      (all_goals first | exact auP | skip)
      refine retq_le (leG_freeze hW ⟨.d0, .d0, .d2⟩ rfl rfl ⟨rfl, rfl, by simp⟩) ?_
      rw [xall (List.length_map _).symm]
      have hnf : nfLL Γ.g0 (out.map Op2.enc) := nfLL_map (fun x => by simp [nfL, nfD])
      all_goals with_reducible refine ret_spec2 (by (try dsimp only [RetOK, resOk, resDs, resD, resV, cellV, cellO, cellP, cellOk, htake, nfD, nfL, nfLL, nfH, lget, partOf, xget, ddrop, dtake, dget, Env.get, N8.get, env0, List.length_cons, List.length_nil, Env.set, N8.set, lset, updL]); (repeat' (first | exact trivial | exact rfl | exact nfLL_map (fun x => by simp [nfL, nfD, nfD, nfL]) | decide | apply And.intro))) ?_
      all_goals (try dsimp only [RetOK, resOk, resDs, resD, resV, cellV, cellO, cellP, cellOk, htake, nfD, nfL, nfLL, nfH, lget, partOf, xget, ddrop, dtake, dget, Env.get, N8.get, env0, List.length_cons, List.length_nil, Env.set, N8.set, lset, updL])
      all_goals (try simp only [hsM] at *)
  have hx1 : (mkS t).extract 1 t.length = mkS (t.drop 1) := by rw [mkS_ext, List.take_of_length_le (by simp)]
  by_cases h1 : bN t 0 = 1
  · have hc1 : ((bN t 0 : Nat) : Int) = 1 := by omega
    repeat' (first
      | (with_reducible first | refine go_seq ?_ | refine go_region ?_ | refine go_regionD mixed_ok ?_ | refine go_cond ?_ | refine go_skip ?_ | refine go_block ?_ | refine nx_code ?_ | refine nx_block ?_ | refine go_ret ?_ | refine nx_nil ?_ | refine go_exit ?_ | refine ex_code ?_ | refine ex_loop ?_ | refine ex_here ?_)
      | ((with_reducible refine ex_past ?_ ?_); (exact by decide))
      | ((with_reducible refine endD_intro ?_ ?_); (exact by kernel_rfl))
      | ((with_reducible refine runR_n ?_ ?_); exact auN)
      | (first | (simp only [mkS_size, mkS_at, emR, mkS_inj, Int.toNat_natCast]) | (simp only [hc1]) | (simp only [hx1]))
      | (refine auD ?_)
      | (with_reducible refine runR_b (fun h => ?_) (fun h => ?_) <;> first | exact auH | simp only [h, runR_t, runR_f])
      | (with_reducible refine condK_bl ?_ ?_)
      | (with_reducible refine condK_b (fun h => ?_) (fun h => ?_) <;> first | exact auH | skip)
      | (first | (refine runR_n ⟨by trivial, by trivial, by trivial, by trivial, by rw [List.length_map]⟩ ?_) | (refine runR_n ⟨by rfl, by unfold room maxLen; rw [List.length_map]; simp; omega⟩ ?_) | fail))
    (all_goals first | exact auP | skip)
    all_goals first
      | (exfalso; simp_all; done)
      | skip
    refine nx_loop ⟨(out ++ [⟨1, []⟩], t.drop 1, gn + 1, gn + 1 + 1), ⟨?_, by simp; omega⟩, by simp; omega, ?_⟩
    · rw [hpr, prs_one h1]
      cases prs (t.drop 1) <;> simp
    refine le_mk ?_ ?_ (Nat.le_refl _)
    all_goals dsimp only [leE, leC, leR, leN, leD, leH, leO, writesX, dstsX, appS, havE, setsE, Env.get, Env.set, N8.get, N8.set, updL, lget, lset, env0]
    all_goals (repeat' (first | exact trivial | exact rfl | apply And.intro))
    all_goals first
      | (simp; done)
      | (refine congrArg some (congrArg (AObj.mk _ 2) ?_); simp; done)
      | rfl
  by_cases hn : 2 ≤ t.length ∧ 2 ≤ bN t 1 ∧ bN t 1 ≤ t.length
  · obtain ⟨n1, n2, n3⟩ := hn
    have e0 : IntKind.i64.wrap ((bN t 0 : Nat) : Int) = ((bN t 0 : Nat) : Int) := IntWalk.i64_in _ (by omega)
    have e1 : IntKind.i64.wrap ((bN t 1 : Nat) : Int) = ((bN t 1 : Nat) : Int) := IntWalk.i64_in _ (by omega)
    have hx2 : (mkS t).extract 2 (bN t 1) = mkS ((t.drop 2).take (bN t 1 - 2)) := mkS_ext _ _ _
    have hx3 : (mkS t).extract (bN t 1) t.length = mkS (t.drop (bN t 1)) := by rw [mkS_ext, List.take_of_length_le (by simp)]
    have hnx := prs_n (s := t) (by omega) ⟨n1, n2, n3⟩
    have i0 : ¬ ((bN t 0 : Nat) : Int) = 0 := by omega
    have i1 : ¬ ((bN t 0 : Nat) : Int) = 1 := by omega
    repeat' (first
      | (with_reducible first | refine go_seq ?_ | refine go_region ?_ | refine go_regionD mixed_ok ?_ | refine go_cond ?_ | refine go_skip ?_ | refine go_block ?_ | refine nx_code ?_ | refine nx_block ?_ | refine go_ret ?_ | refine nx_nil ?_ | refine go_exit ?_ | refine ex_code ?_ | refine ex_loop ?_ | refine ex_here ?_)
      | ((with_reducible refine ex_past ?_ ?_); (exact by decide))
      | ((with_reducible refine endD_intro ?_ ?_); (exact by kernel_rfl))
      | ((with_reducible refine runR_n ?_ ?_); exact auN)
      | (first | (simp only [mkS_size, mkS_at, emR, mkS_inj, e0, e1, Int.toNat_natCast]) | (simp only [hx2, hx3]))
      | (refine auD ?_)
      | (with_reducible refine runR_b (fun h => ?_) (fun h => ?_) <;> first | exact auH | simp only [h, runR_t, runR_f])
      | (with_reducible refine condK_bl ?_ ?_)
      | (with_reducible refine condK_b (fun h => ?_) (fun h => ?_) <;> first | exact auH | skip)
      | (first | (refine runR_n ⟨by trivial, by trivial, by trivial, by trivial, by rw [List.length_map]⟩ ?_) | (refine runR_n ⟨by rfl, by unfold room maxLen; rw [List.length_map]; simp; omega⟩ ?_) | fail))
    (all_goals first | exact auP | skip)
    all_goals first
      | (exfalso; simp_all; done)
      | skip
    refine nx_loop ⟨(out ++ [⟨(bN t 0 : Nat), (t.drop 2).take (bN t 1 - 2)⟩], t.drop (bN t 1), gn + 1, gn + 1 + 1), ⟨?_, by simp; omega⟩, by simp; omega, ?_⟩
    · rw [hpr, hnx]
      cases prs (t.drop (bN t 1)) <;> simp
    refine le_mk ?_ ?_ (Nat.le_refl _)
    all_goals dsimp only [leE, leC, leR, leN, leD, leH, leO, writesX, dstsX, appS, havE, setsE, Env.get, Env.set, N8.get, N8.set, updL, lget, lset, env0]
    all_goals (repeat' (first | exact trivial | exact rfl | apply And.intro))
    all_goals first
      | (simp; done)
      | (refine congrArg some (congrArg (AObj.mk _ 2) ?_); simp; done)
      | rfl
  · have hno : prR s = ([], false) := prR_none (by rw [hpr, prs_no (by omega) hn]; rfl)
    rw [hno]
    have e1 : IntKind.i64.wrap ((bN t 1 : Nat) : Int) = ((bN t 1 : Nat) : Int) := IntWalk.i64_in _ (by omega)
    have i0 : ¬ ((bN t 0 : Nat) : Int) = 0 := by omega
    have i1 : ¬ ((bN t 0 : Nat) : Int) = 1 := by omega
    repeat' (first
      | (with_reducible first | refine go_seq ?_ | refine go_region ?_ | refine go_regionD mixed_ok ?_ | refine go_cond ?_ | refine go_skip ?_ | refine go_block ?_ | refine nx_code ?_ | refine nx_block ?_ | refine go_ret ?_ | refine nx_nil ?_ | refine go_exit ?_ | refine ex_code ?_ | refine ex_loop ?_ | refine ex_here ?_)
      | ((with_reducible refine ex_past ?_ ?_); (exact by decide))
      | ((with_reducible refine endD_intro ?_ ?_); (exact by kernel_rfl))
      | ((with_reducible refine runR_n ?_ ?_); exact auN)
      | (first | (simp only [mkS_size, mkS_at, emR, mkS_inj, e1, Int.toNat_natCast]))
      | (refine auD ?_)
      | (with_reducible refine runR_b (fun h => ?_) (fun h => ?_) <;> first | exact auH | simp only [h, runR_t, runR_f])
      | (with_reducible refine condK_bl ?_ ?_)
      | (with_reducible refine condK_b (fun h => ?_) (fun h => ?_) <;> first | exact auH | skip)
      | fail)
    (all_goals first | exact auP | skip)
    all_goals first
      | (exfalso; simp_all; done)
      | (exfalso; apply hn; simp_all; omega)
      | skip
    all_goals (refine retq_le (le_leG (le_row ⟨.d0, .d0, .d2⟩ 9 2 rfl rfl)) (retq_le (leG_freeze hW ⟨.d0, .d0, .d2⟩ rfl rfl ⟨rfl, rfl, by exact Nat.le_refl _⟩) ?_))
    all_goals dsimp only [xtake, xdrop]
    all_goals with_reducible refine ret_spec2 (by (try dsimp only [RetOK, resOk, resDs, resD, resV, cellV, cellO, cellP, cellOk, htake, nfD, nfL, nfLL, nfH, lget, partOf, xget, ddrop, dtake, dget, Env.get, N8.get, env0, List.length_cons, List.length_nil, Env.set, N8.set, lset, updL]); (repeat' (first | exact trivial | exact rfl | exact nfLL_map (fun x => by simp [nfL, nfD, nfD, nfL]) | decide | apply And.intro))) ?_
    all_goals (try dsimp only [RetOK, resOk, resDs, resD, resV, cellV, cellO, cellP, cellOk, htake, nfD, nfL, nfLL, nfH, lget, partOf, xget, ddrop, dtake, dget, Env.get, N8.get, env0, List.length_cons, List.length_nil, Env.set, N8.set, lset, updL])
    all_goals (try simp only [hsM] at *)
    all_goals rfl
end Go.Proofs.Ythdghenfidkdcaa
