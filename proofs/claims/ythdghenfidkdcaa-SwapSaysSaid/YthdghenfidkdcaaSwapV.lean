/-
  A packet with another name, in the reference: the new packet.
-/
import Derived.Test.YthdghenfidkdcaaSwapW
namespace Go.Proofs.Ythdghenfidkdcaa
set_option linter.unusedVariables false
set_option linter.unusedSimpArgs false
set_option maxRecDepth 8000 in
set_option maxHeartbeats 4000000 in
theorem renamed_from (s : List UInt8) (a port : Int) (hs : s.length ≤ 140737488351232) (h1 : (edR s).2 = 0) (h3 : 0 ≤ port ∧ port ≤ 65535) (hab : 0 ≤ a ∧ a < 4294967296) : Spec Try.prog 7 [.v (.string (mkS s)), .v (.int .u32 a), .v (.int .i64 port), .v (.bool true)] (.tup [.v (.string (mkS (rnR s a port 12 0).1)), .v (.int .i64 (rnR s a port 12 0).2)]) := by
  have he := endsOf_spec s hs
  obtain ⟨⟨n0, n1⟩, hLs, -, hp, hck, hed, hNe⟩ := ed_ok h1
  have hre : rnR s a port 12 0 = ((rnW s (hN s) (bN s 9 : Nat) a port 12 0).take (pL s), 0) := by unfold rnR; rw [if_neg (not_not_intro h1), if_neg (not_not_intro h3)]
  have hes : edR s = (⟨lgAt s 12, lgAt s 16, (bN s 9 : Nat), wordAtI s (hN s), wordAtI s (hN s + 2)⟩, 0) := by rw [← hed, ← h1]
  rw [hes] at he
  clear hes hed h1
  have h2 := wordAt_spec s 2 (by omega) (by omega) 2 rfl
  have b2 := wordAtI_bd s 2
  rw [show wordAtI s 2 = ((pL s : Nat) : Int) by unfold pL; omega] at h2
  have b0 := bN_lt s 0
  have c0 : IntKind.i64.wrap (bN s 0 : Nat) = (bN s 0 : Nat) := IntWalk.i64_in _ (by omega)
  have c4 : ((bN s 0 : Nat) : Int).tmod 16 = ((bN s 0 % 16 : Nat) : Int) := (Int.ofNat_tmod _ 16).symm
  have cs : IntKind.i64.wrap (4 * ((bN s 0 % 16 : Nat) : Int)) = ((hN s : Nat) : Int) := by rw [hNe, IntWalk.i64_in _ (by omega)]; omega
  have bA := wordAtI_bd s 12
  have bA2 := wordAtI_bd s (12 + 2)
  have bT := wordAtI_bd s 10
  have bO := wordAtI_bd s (hN s + 0)
  have lgE : lgAt s 12 = 65536 * wordAtI s 12 + wordAtI s (12 + 2) := rfl
  have k1 : IntKind.i64.wrap (lgAt s 12) = lgAt s 12 := IntWalk.i64_in _ (by omega)
  have k2 : IntKind.i64.wrap ((lgAt s 12).tdiv 65536) = wordAtI s 12 := by rw [Int.tdiv_eq_ediv_of_nonneg (by omega), IntWalk.i64_in _ (by omega)]; omega
  have k3 : (lgAt s 12).tmod 65536 = wordAtI s (12 + 2) := by rw [Int.tmod_eq_emod_of_nonneg (by omega)]; omega
  have k4 : IntKind.i64.wrap a = a := IntWalk.i64_in _ (by omega)
  have k5 : IntKind.i64.wrap (a.tdiv 65536) = a / 65536 := by rw [Int.tdiv_eq_ediv_of_nonneg (by omega), IntWalk.i64_in _ (by omega)]
  have k6 : a.tmod 65536 = a % 65536 := Int.tmod_eq_emod_of_nonneg (by omega)
  have e18 : IntKind.i64.wrap (16 + 2) = 18 := by decide
  have e8 : IntKind.i64.wrap (6 + 2) = 8 := by decide
  have w10 := wordAt_spec (s.take (hN s)) 10 (by simp; omega) (by simp; omega) 10 rfl
  rw [word_take s _ 10 (by omega)] at w10
  have x1 : (mkS s).extract 0 (hN s) = mkS (s.take (hN s)) := xtE _ _
  have x2 : (mkS s).extract (hN s) (pL s) = mkS ((s.drop (hN s)).take (pL s - hN s)) := mkS_ext _ _ _
  have hf1 := fun n => fixed4 (wordAtI s 10) (wordAtI s 12) (a / 65536) (wordAtI s (12 + 2)) (a % 65536) true 1 n (by intro x hx; simp only [List.mem_cons, List.not_mem_nil, or_false] at hx; omega) bT
  have hbt := fixL_bd 4 [wordAtI s 12, a / 65536, wordAtI s (12 + 2), a % 65536] (wordAtI s 10) (Nat.le_refl _) (by intro x hx; simp only [List.mem_cons, List.not_mem_nil, or_false] at hx; omega) bT
  have hT : fixL (wordAtI s 10) [wordAtI s 12, a / 65536, wordAtI s (12 + 2), a % 65536] = rnT s a 12 := rfl
  rw [hT] at hbt
  rw [hT] at hf1
  have ht := word_spec (rnT s a 12) hbt.1
  have hq := word_spec port h3.1
  have ha := long_spec a hab.1 hab.2
  have hfin := ren_eq s (hN s) (ckI (bN s 9 : Nat)) (bN s 9 : Nat) a port 12 0 (pL s) _ _ rfl rfl rfl n0 hck hLs (.inl ⟨rfl, rfl⟩)
  have ld : (s.take (hN s)).length = hN s := by simp; omega
  have lb : ((s.drop (hN s)).take (pL s - hN s)).length = pL s - hN s := by simp; omega
  have wdi : ∀ i, i + 1 < pL s - hN s → wordAtI ((s.drop (hN s)).take (pL s - hN s)) i = wordAtI s (hN s + i) := fun i hi => by rw [word_take _ _ _ hi, wordAtI_drop]
  generalize s.take (hN s) = hd at *
  generalize (s.drop (hN s)).take (pL s - hN s) = bd at *
  have hck6 : 6 ≤ ckI (bN s 9 : Nat) := by unfold ckI; split <;> omega
  have x3 : (mkS hd).extract 12 16 = mkS ((hd.drop 12).take 4) := mkS_ext _ _ _
  obtain ⟨A, hA⟩ : ∃ A, (hd.take 10 ++ wd (rnT s a 12) ++ lg a ++ hd.drop 16) = A := ⟨_, rfl⟩
  obtain ⟨B, hB⟩ : ∃ B, (wd port ++ bd.drop 2) = B := ⟨_, rfl⟩
  have hAp : putW (putW (putW hd 10 (rnT s a 12)) 12 (a / 65536)) (12 + 2) (a % 65536) = A := (head12 hd (rnT s a 12) a (by omega)).symm.trans hA
  have hBp : putW bd 0 port = B := (putW_cat bd 0 port (by omega)).symm.trans hB
  have lA : A.length = hN s := by rw [← hAp]; simp only [putW_len]; exact ld
  have lB : B.length = pL s - hN s := by rw [← hBp, putW_len, lb]
  have eB : wordAtI B (ckI (bN s 9 : Nat)) = wordAtI s (hN s + ckI (bN s 9 : Nat)) := by rw [← hBp, word_ne _ _ _ _ (by omega) (by omega), wdi _ (by omega)]
  rw [hAp, hBp] at hfin
  clear hAp hBp wdi
  generalize ((bN s 9 : Nat) : Int) = p at *
  have bC := wordAtI_bd s (hN s + ckI p)
  have hf2 := fun fu n => fixed6 (wordAtI s (hN s + ckI p)) (wordAtI s 12) (a / 65536) (wordAtI s (12 + 2)) (a % 65536) (wordAtI s (hN s + 0)) port fu 3 n (by intro x hx; simp only [List.mem_cons, List.not_mem_nil, or_false] at hx; omega) bC
  have hcb := fixL_bd 6 [wordAtI s 12, a / 65536, wordAtI s (12 + 2), a % 65536, wordAtI s (hN s + 0), port] (wordAtI s (hN s + ckI p)) (Nat.le_refl _) (by intro x hx; simp only [List.mem_cons, List.not_mem_nil, or_false] at hx; omega) bC
  have hC : rnC s (hN s) p a port 12 0 = if p = 6 ∨ 0 < wordAtI s (hN s + ckI p) then noZ p (fixL (wordAtI s (hN s + ckI p)) [wordAtI s 12, a / 65536, wordAtI s (12 + 2), a % 65536, wordAtI s (hN s + 0), port]) else wordAtI s (hN s + ckI p) := rfl
  rw [hC] at hfin
  clear hC hT
  generalize fixL (wordAtI s (hN s + ckI p)) [wordAtI s 12, a / 65536, wordAtI s (12 + 2), a % 65536, wordAtI s (hN s + 0), port] = C at *
  generalize rnT s a 12 = T at *
  rcases hp with rfl | rfl
  · have hk : ckI 6 = 16 := rfl
    rw [hk] at eB hck hfin hck6 hf2 bC
    have wB := wordAt_spec B 16 (by omega) (by omega) 16 rfl
    rw [eB] at wB
    rw [if_pos (.inl rfl), noZ_neg (by omega)] at hfin
    have hc := word_spec C (by omega)
    have hcat := putW_cat B 16 C (by omega)
    rw [← hcat, ← List.append_assoc, ← List.append_assoc] at hfin
    rw [hre, ← hfin]
    clear hre hfin hcat
    refine hspec_fn Try.func7 rfl ok_custref_Renamed okr_custref_Renamed rfl (by kernel_rfl) ?_
    intro Γ hW0 hN0 hL0
    have hW := hW0 rfl
    clear hW0 hN0 hL0
    unfold x_custref_Renamed r_custref_Renamed
    repeat' (first
      | (with_reducible first | refine go_seq ?_ | refine go_region ?_ | refine go_regionD mixed_ok ?_ | refine go_cond ?_ | refine go_skip ?_ | refine go_block ?_ | refine nx_code ?_ | refine nx_block ?_ | refine go_ret ?_ | refine nx_nil ?_ | refine go_exit ?_ | refine ex_code ?_ | refine ex_loop ?_ | refine ex_here ?_)
      | ((with_reducible refine ex_past ?_ ?_); (exact by decide))
      | ((with_reducible refine endD_intro ?_ ?_); (exact by kernel_rfl))
      | ((with_reducible refine runR_n ?_ ?_); exact auN)
      | (first | (simp only [mkS_size, mkS_at, mkS_app, Int.toNat_natCast]) | (simp only [c0, c4, cs]) | (simp only [x1, x2]) | (simp only [k1, k2, k3, k4, k5, k6]) | (simp only [xtE]) | (simp only [xdE]) | (simp only [x3]) | (simp only [hA]) | (simp only [hB]) | (simp only [e18, e8]) | (simp only [List.cons_append, List.nil_append]) | (with_reducible refine runR_l ?_) | (with_reducible refine runR_call (between_spec _ _ _) ?_) | (with_reducible refine runR_call he ?_) | (with_reducible refine runR_call h2 ?_) | (with_reducible refine runR_call w10 ?_) | (with_reducible refine runR_call ht ?_) | (with_reducible refine runR_call hq ?_) | (with_reducible refine runR_call ha ?_) | (with_reducible refine runR_call wB ?_) | (with_reducible refine runR_call hc ?_) | ((with_reducible refine runR_callH 1 ?_ (hf1 _) (fun _ _ _ h => h) ?_); (exact rfl)) | ((with_reducible refine runR_callH 3 ?_ (hf2 _ _) (fun _ _ _ h => h) ?_); (exact rfl)))
      | (refine auD ?_)
      | (with_reducible refine runR_b (fun h => ?_) (fun h => ?_) <;> first | exact auH | simp only [h, runR_t, runR_f])
      | (with_reducible refine condK_bl ?_ ?_)
      | (with_reducible refine condK_b (fun h => ?_) (fun h => ?_) <;> first | exact auH | skip)
      | (first | (refine runR_n (by simp only [mkS_size, List.length_append, List.length_take, List.length_drop, wd_len, lg_len]; omega) ?_) | (refine runR_n (by omega) ?_) | (refine runR_n ⟨.inl (by decide), trivial, trivial, by unfold room maxLen; decide⟩ ?_) | fail))
    (all_goals first | exact auP | skip)
    all_goals first
      | (exfalso; simp_all; done)
      | skip
    all_goals with_reducible refine ret_spec2 (by (try dsimp only [RetOK, resOk, resDs, resD, resV, cellV, cellO, cellP, cellOk, htake, nfD, nfL, nfLL, nfH, lget, partOf, xget, ddrop, dtake, dget, Env.get, N8.get, env0, List.length_cons, List.length_nil, Env.set, N8.set, lset, updL]); (repeat' (first | exact trivial | exact rfl | exact nfLL_map (fun x => by simp [nfL, nfD, nfD, nfL]) | decide | apply And.intro))) ?_
    all_goals (try dsimp only [RetOK, resOk, resDs, resD, resV, cellV, cellO, cellP, cellOk, htake, nfD, nfL, nfLL, nfH, lget, partOf, xget, ddrop, dtake, dget, Env.get, N8.get, env0, List.length_cons, List.length_nil, Env.set, N8.set, lset, updL])
    all_goals (try simp only [hsM] at *)
    all_goals rfl
  · have hk : ckI 17 = 6 := rfl
    rw [hk] at eB hck hfin hck6 hf2 bC
    have wB := wordAt_spec B 6 (by omega) (by omega) 6 rfl
    rw [eB] at wB
    generalize wordAtI s (hN s + 6) = w at *
    by_cases hw : w = 0
    · subst hw
      rw [if_neg (by omega)] at hfin
      have hc := word_spec 0 (by omega)
      have hcat := putW_cat B 6 0 (by omega)
      rw [← hcat, ← List.append_assoc, ← List.append_assoc] at hfin
      rw [hre, ← hfin]
      clear hre hfin hcat
      refine hspec_fn Try.func7 rfl ok_custref_Renamed okr_custref_Renamed rfl (by kernel_rfl) ?_
      intro Γ hW0 hN0 hL0
      have hW := hW0 rfl
      clear hW0 hN0 hL0
      unfold x_custref_Renamed r_custref_Renamed
      repeat' (first
        | (with_reducible first | refine go_seq ?_ | refine go_region ?_ | refine go_regionD mixed_ok ?_ | refine go_cond ?_ | refine go_skip ?_ | refine go_block ?_ | refine nx_code ?_ | refine nx_block ?_ | refine go_ret ?_ | refine nx_nil ?_ | refine go_exit ?_ | refine ex_code ?_ | refine ex_loop ?_ | refine ex_here ?_)
        | ((with_reducible refine ex_past ?_ ?_); (exact by decide))
        | ((with_reducible refine endD_intro ?_ ?_); (exact by kernel_rfl))
        | ((with_reducible refine runR_n ?_ ?_); exact auN)
        | (first | (simp only [mkS_size, mkS_at, mkS_app, Int.toNat_natCast]) | (simp only [c0, c4, cs]) | (simp only [x1, x2]) | (simp only [k1, k2, k3, k4, k5, k6]) | (simp only [xtE]) | (simp only [xdE]) | (simp only [x3]) | (simp only [hA]) | (simp only [hB]) | (simp only [e18, e8]) | (simp only [List.cons_append, List.nil_append]) | (with_reducible refine runR_l ?_) | (with_reducible refine runR_call (between_spec _ _ _) ?_) | (with_reducible refine runR_call he ?_) | (with_reducible refine runR_call h2 ?_) | (with_reducible refine runR_call w10 ?_) | (with_reducible refine runR_call ht ?_) | (with_reducible refine runR_call hq ?_) | (with_reducible refine runR_call ha ?_) | (with_reducible refine runR_call wB ?_) | (with_reducible refine runR_call hc ?_) | ((with_reducible refine runR_callH 1 ?_ (hf1 _) (fun _ _ _ h => h) ?_); (exact rfl)) | ((with_reducible refine runR_callH 3 ?_ (hf2 _ _) (fun _ _ _ h => h) ?_); (exact rfl)))
        | (refine auD ?_)
        | (with_reducible refine runR_b (fun h => ?_) (fun h => ?_) <;> first | exact auH | simp only [h, runR_t, runR_f])
        | (with_reducible refine condK_bl ?_ ?_)
        | (with_reducible refine condK_b (fun h => ?_) (fun h => ?_) <;> first | exact auH | skip)
        | (first | (refine runR_n (by simp only [mkS_size, List.length_append, List.length_take, List.length_drop, wd_len, lg_len]; omega) ?_) | (refine runR_n (by omega) ?_) | (refine runR_n ⟨.inl (by decide), trivial, trivial, by unfold room maxLen; decide⟩ ?_) | fail))
      (all_goals first | exact auP | skip)
      all_goals first
        | (exfalso; simp_all; done)
        | skip
      all_goals with_reducible refine ret_spec2 (by (try dsimp only [RetOK, resOk, resDs, resD, resV, cellV, cellO, cellP, cellOk, htake, nfD, nfL, nfLL, nfH, lget, partOf, xget, ddrop, dtake, dget, Env.get, N8.get, env0, List.length_cons, List.length_nil, Env.set, N8.set, lset, updL]); (repeat' (first | exact trivial | exact rfl | exact nfLL_map (fun x => by simp [nfL, nfD, nfD, nfL]) | decide | apply And.intro))) ?_
      all_goals (try dsimp only [RetOK, resOk, resDs, resD, resV, cellV, cellO, cellP, cellOk, htake, nfD, nfL, nfLL, nfH, lget, partOf, xget, ddrop, dtake, dget, Env.get, N8.get, env0, List.length_cons, List.length_nil, Env.set, N8.set, lset, updL])
      all_goals (try simp only [hsM] at *)
      all_goals rfl
    · rw [if_pos (by omega)] at hfin
      by_cases hz : C = 0
      · subst hz
        rw [noZ_pos ⟨rfl, rfl⟩] at hfin
        have hc := word_spec 65535 (by omega)
        have hcat := putW_cat B 6 65535 (by omega)
        rw [← hcat, ← List.append_assoc, ← List.append_assoc] at hfin
        rw [hre, ← hfin]
        clear hre hfin hcat
        refine hspec_fn Try.func7 rfl ok_custref_Renamed okr_custref_Renamed rfl (by kernel_rfl) ?_
        intro Γ hW0 hN0 hL0
        have hW := hW0 rfl
        clear hW0 hN0 hL0
        unfold x_custref_Renamed r_custref_Renamed
        repeat' (first
          | (with_reducible first | refine go_seq ?_ | refine go_region ?_ | refine go_regionD mixed_ok ?_ | refine go_cond ?_ | refine go_skip ?_ | refine go_block ?_ | refine nx_code ?_ | refine nx_block ?_ | refine go_ret ?_ | refine nx_nil ?_ | refine go_exit ?_ | refine ex_code ?_ | refine ex_loop ?_ | refine ex_here ?_)
          | ((with_reducible refine ex_past ?_ ?_); (exact by decide))
          | ((with_reducible refine endD_intro ?_ ?_); (exact by kernel_rfl))
          | ((with_reducible refine runR_n ?_ ?_); exact auN)
          | (first | (simp only [mkS_size, mkS_at, mkS_app, Int.toNat_natCast]) | (simp only [c0, c4, cs]) | (simp only [x1, x2]) | (simp only [k1, k2, k3, k4, k5, k6]) | (simp only [xtE]) | (simp only [xdE]) | (simp only [x3]) | (simp only [hA]) | (simp only [hB]) | (simp only [e18, e8]) | (simp only [List.cons_append, List.nil_append]) | (with_reducible refine runR_l ?_) | (with_reducible refine runR_call (between_spec _ _ _) ?_) | (with_reducible refine runR_call he ?_) | (with_reducible refine runR_call h2 ?_) | (with_reducible refine runR_call w10 ?_) | (with_reducible refine runR_call ht ?_) | (with_reducible refine runR_call hq ?_) | (with_reducible refine runR_call ha ?_) | (with_reducible refine runR_call wB ?_) | (with_reducible refine runR_call hc ?_) | ((with_reducible refine runR_callH 1 ?_ (hf1 _) (fun _ _ _ h => h) ?_); (exact rfl)) | ((with_reducible refine runR_callH 3 ?_ (hf2 _ _) (fun _ _ _ h => h) ?_); (exact rfl)))
          | (refine auD ?_)
          | (with_reducible refine runR_b (fun h => ?_) (fun h => ?_) <;> first | exact auH | simp only [h, runR_t, runR_f])
          | (with_reducible refine condK_bl ?_ ?_)
          | (with_reducible refine condK_b (fun h => ?_) (fun h => ?_) <;> first | exact auH | skip)
          | (first | (refine runR_n (by simp only [mkS_size, List.length_append, List.length_take, List.length_drop, wd_len, lg_len]; omega) ?_) | (refine runR_n (by omega) ?_) | (refine runR_n ⟨.inl (by decide), trivial, trivial, by unfold room maxLen; decide⟩ ?_) | fail))
        (all_goals first | exact auP | skip)
        all_goals first
          | (exfalso; simp_all; done)
          | skip
        all_goals with_reducible refine ret_spec2 (by (try dsimp only [RetOK, resOk, resDs, resD, resV, cellV, cellO, cellP, cellOk, htake, nfD, nfL, nfLL, nfH, lget, partOf, xget, ddrop, dtake, dget, Env.get, N8.get, env0, List.length_cons, List.length_nil, Env.set, N8.set, lset, updL]); (repeat' (first | exact trivial | exact rfl | exact nfLL_map (fun x => by simp [nfL, nfD, nfD, nfL]) | decide | apply And.intro))) ?_
        all_goals (try dsimp only [RetOK, resOk, resDs, resD, resV, cellV, cellO, cellP, cellOk, htake, nfD, nfL, nfLL, nfH, lget, partOf, xget, ddrop, dtake, dget, Env.get, N8.get, env0, List.length_cons, List.length_nil, Env.set, N8.set, lset, updL])
        all_goals (try simp only [hsM] at *)
        all_goals rfl
      · rw [noZ_neg (by omega)] at hfin
        have hc := word_spec C (by omega)
        have hcat := putW_cat B 6 C (by omega)
        rw [← hcat, ← List.append_assoc, ← List.append_assoc] at hfin
        rw [hre, ← hfin]
        clear hre hfin hcat
        refine hspec_fn Try.func7 rfl ok_custref_Renamed okr_custref_Renamed rfl (by kernel_rfl) ?_
        intro Γ hW0 hN0 hL0
        have hW := hW0 rfl
        clear hW0 hN0 hL0
        unfold x_custref_Renamed r_custref_Renamed
        repeat' (first
          | (with_reducible first | refine go_seq ?_ | refine go_region ?_ | refine go_regionD mixed_ok ?_ | refine go_cond ?_ | refine go_skip ?_ | refine go_block ?_ | refine nx_code ?_ | refine nx_block ?_ | refine go_ret ?_ | refine nx_nil ?_ | refine go_exit ?_ | refine ex_code ?_ | refine ex_loop ?_ | refine ex_here ?_)
          | ((with_reducible refine ex_past ?_ ?_); (exact by decide))
          | ((with_reducible refine endD_intro ?_ ?_); (exact by kernel_rfl))
          | ((with_reducible refine runR_n ?_ ?_); exact auN)
          | (first | (simp only [mkS_size, mkS_at, mkS_app, Int.toNat_natCast]) | (simp only [c0, c4, cs]) | (simp only [x1, x2]) | (simp only [k1, k2, k3, k4, k5, k6]) | (simp only [xtE]) | (simp only [xdE]) | (simp only [x3]) | (simp only [hA]) | (simp only [hB]) | (simp only [e18, e8]) | (simp only [List.cons_append, List.nil_append]) | (with_reducible refine runR_l ?_) | (with_reducible refine runR_call (between_spec _ _ _) ?_) | (with_reducible refine runR_call he ?_) | (with_reducible refine runR_call h2 ?_) | (with_reducible refine runR_call w10 ?_) | (with_reducible refine runR_call ht ?_) | (with_reducible refine runR_call hq ?_) | (with_reducible refine runR_call ha ?_) | (with_reducible refine runR_call wB ?_) | (with_reducible refine runR_call hc ?_) | ((with_reducible refine runR_callH 1 ?_ (hf1 _) (fun _ _ _ h => h) ?_); (exact rfl)) | ((with_reducible refine runR_callH 3 ?_ (hf2 _ _) (fun _ _ _ h => h) ?_); (exact rfl)))
          | (refine auD ?_)
          | (with_reducible refine runR_b (fun h => ?_) (fun h => ?_) <;> first | exact auH | simp only [h, runR_t, runR_f])
          | (with_reducible refine condK_bl ?_ ?_)
          | (with_reducible refine condK_b (fun h => ?_) (fun h => ?_) <;> first | exact auH | skip)
          | (first | (refine runR_n (by simp only [mkS_size, List.length_append, List.length_take, List.length_drop, wd_len, lg_len]; omega) ?_) | (refine runR_n (by omega) ?_) | (refine runR_n ⟨.inl (by decide), trivial, trivial, by unfold room maxLen; decide⟩ ?_) | fail))
        (all_goals first | exact auP | skip)
        all_goals first
          | (exfalso; simp_all; done)
          | skip
        all_goals with_reducible refine ret_spec2 (by (try dsimp only [RetOK, resOk, resDs, resD, resV, cellV, cellO, cellP, cellOk, htake, nfD, nfL, nfLL, nfH, lget, partOf, xget, ddrop, dtake, dget, Env.get, N8.get, env0, List.length_cons, List.length_nil, Env.set, N8.set, lset, updL]); (repeat' (first | exact trivial | exact rfl | exact nfLL_map (fun x => by simp [nfL, nfD, nfD, nfL]) | decide | apply And.intro))) ?_
        all_goals (try dsimp only [RetOK, resOk, resDs, resD, resV, cellV, cellO, cellP, cellOk, htake, nfD, nfL, nfLL, nfH, lget, partOf, xget, ddrop, dtake, dget, Env.get, N8.get, env0, List.length_cons, List.length_nil, Env.set, N8.set, lset, updL])
        all_goals (try simp only [hsM] at *)
        all_goals rfl
set_option maxRecDepth 8000 in
set_option maxHeartbeats 4000000 in
theorem renamed_to (s : List UInt8) (a port : Int) (hs : s.length ≤ 140737488351232) (h1 : (edR s).2 = 0) (h3 : 0 ≤ port ∧ port ≤ 65535) (hab : 0 ≤ a ∧ a < 4294967296) : Spec Try.prog 7 [.v (.string (mkS s)), .v (.int .u32 a), .v (.int .i64 port), .v (.bool false)] (.tup [.v (.string (mkS (rnR s a port 16 2).1)), .v (.int .i64 (rnR s a port 16 2).2)]) := by
  have he := endsOf_spec s hs
  obtain ⟨⟨n0, n1⟩, hLs, -, hp, hck, hed, hNe⟩ := ed_ok h1
  have hre : rnR s a port 16 2 = ((rnW s (hN s) (bN s 9 : Nat) a port 16 2).take (pL s), 0) := by unfold rnR; rw [if_neg (not_not_intro h1), if_neg (not_not_intro h3)]
  have hes : edR s = (⟨lgAt s 12, lgAt s 16, (bN s 9 : Nat), wordAtI s (hN s), wordAtI s (hN s + 2)⟩, 0) := by rw [← hed, ← h1]
  rw [hes] at he
  clear hes hed h1
  have h2 := wordAt_spec s 2 (by omega) (by omega) 2 rfl
  have b2 := wordAtI_bd s 2
  rw [show wordAtI s 2 = ((pL s : Nat) : Int) by unfold pL; omega] at h2
  have b0 := bN_lt s 0
  have c0 : IntKind.i64.wrap (bN s 0 : Nat) = (bN s 0 : Nat) := IntWalk.i64_in _ (by omega)
  have c4 : ((bN s 0 : Nat) : Int).tmod 16 = ((bN s 0 % 16 : Nat) : Int) := (Int.ofNat_tmod _ 16).symm
  have cs : IntKind.i64.wrap (4 * ((bN s 0 % 16 : Nat) : Int)) = ((hN s : Nat) : Int) := by rw [hNe, IntWalk.i64_in _ (by omega)]; omega
  have bA := wordAtI_bd s 16
  have bA2 := wordAtI_bd s (16 + 2)
  have bT := wordAtI_bd s 10
  have bO := wordAtI_bd s (hN s + 2)
  have lgE : lgAt s 16 = 65536 * wordAtI s 16 + wordAtI s (16 + 2) := rfl
  have k1 : IntKind.i64.wrap (lgAt s 16) = lgAt s 16 := IntWalk.i64_in _ (by omega)
  have k2 : IntKind.i64.wrap ((lgAt s 16).tdiv 65536) = wordAtI s 16 := by rw [Int.tdiv_eq_ediv_of_nonneg (by omega), IntWalk.i64_in _ (by omega)]; omega
  have k3 : (lgAt s 16).tmod 65536 = wordAtI s (16 + 2) := by rw [Int.tmod_eq_emod_of_nonneg (by omega)]; omega
  have k4 : IntKind.i64.wrap a = a := IntWalk.i64_in _ (by omega)
  have k5 : IntKind.i64.wrap (a.tdiv 65536) = a / 65536 := by rw [Int.tdiv_eq_ediv_of_nonneg (by omega), IntWalk.i64_in _ (by omega)]
  have k6 : a.tmod 65536 = a % 65536 := Int.tmod_eq_emod_of_nonneg (by omega)
  have e18 : IntKind.i64.wrap (16 + 2) = 18 := by decide
  have e8 : IntKind.i64.wrap (6 + 2) = 8 := by decide
  have w10 := wordAt_spec (s.take (hN s)) 10 (by simp; omega) (by simp; omega) 10 rfl
  rw [word_take s _ 10 (by omega)] at w10
  have x1 : (mkS s).extract 0 (hN s) = mkS (s.take (hN s)) := xtE _ _
  have x2 : (mkS s).extract (hN s) (pL s) = mkS ((s.drop (hN s)).take (pL s - hN s)) := mkS_ext _ _ _
  have hf1 := fun n => fixed4 (wordAtI s 10) (wordAtI s 16) (a / 65536) (wordAtI s (16 + 2)) (a % 65536) true 1 n (by intro x hx; simp only [List.mem_cons, List.not_mem_nil, or_false] at hx; omega) bT
  have hbt := fixL_bd 4 [wordAtI s 16, a / 65536, wordAtI s (16 + 2), a % 65536] (wordAtI s 10) (Nat.le_refl _) (by intro x hx; simp only [List.mem_cons, List.not_mem_nil, or_false] at hx; omega) bT
  have hT : fixL (wordAtI s 10) [wordAtI s 16, a / 65536, wordAtI s (16 + 2), a % 65536] = rnT s a 16 := rfl
  rw [hT] at hbt
  rw [hT] at hf1
  have ht := word_spec (rnT s a 16) hbt.1
  have hq := word_spec port h3.1
  have ha := long_spec a hab.1 hab.2
  have hfin := ren_eq s (hN s) (ckI (bN s 9 : Nat)) (bN s 9 : Nat) a port 16 2 (pL s) _ _ rfl rfl rfl n0 hck hLs (.inr ⟨rfl, rfl⟩)
  have ld : (s.take (hN s)).length = hN s := by simp; omega
  have lb : ((s.drop (hN s)).take (pL s - hN s)).length = pL s - hN s := by simp; omega
  have wdi : ∀ i, i + 1 < pL s - hN s → wordAtI ((s.drop (hN s)).take (pL s - hN s)) i = wordAtI s (hN s + i) := fun i hi => by rw [word_take _ _ _ hi, wordAtI_drop]
  generalize s.take (hN s) = hd at *
  generalize (s.drop (hN s)).take (pL s - hN s) = bd at *
  have hck6 : 6 ≤ ckI (bN s 9 : Nat) := by unfold ckI; split <;> omega
  have x3 : (mkS hd).extract 12 16 = mkS ((hd.drop 12).take 4) := mkS_ext _ _ _
  obtain ⟨A, hA⟩ : ∃ A, (hd.take 10 ++ wd (rnT s a 16) ++ (hd.drop 12).take 4 ++ lg a ++ hd.drop 20) = A := ⟨_, rfl⟩
  obtain ⟨B, hB⟩ : ∃ B, (bd.take 2 ++ wd port ++ bd.drop 4) = B := ⟨_, rfl⟩
  have hAp : putW (putW (putW hd 10 (rnT s a 16)) 16 (a / 65536)) (16 + 2) (a % 65536) = A := (head16 hd (rnT s a 16) a (by omega)).symm.trans hA
  have hBp : putW bd 2 port = B := (putW_cat bd 2 port (by omega)).symm.trans hB
  have lA : A.length = hN s := by rw [← hAp]; simp only [putW_len]; exact ld
  have lB : B.length = pL s - hN s := by rw [← hBp, putW_len, lb]
  have eB : wordAtI B (ckI (bN s 9 : Nat)) = wordAtI s (hN s + ckI (bN s 9 : Nat)) := by rw [← hBp, word_ne _ _ _ _ (by omega) (by omega), wdi _ (by omega)]
  rw [hAp, hBp] at hfin
  clear hAp hBp wdi
  generalize ((bN s 9 : Nat) : Int) = p at *
  have bC := wordAtI_bd s (hN s + ckI p)
  have hf2 := fun fu n => fixed6 (wordAtI s (hN s + ckI p)) (wordAtI s 16) (a / 65536) (wordAtI s (16 + 2)) (a % 65536) (wordAtI s (hN s + 2)) port fu 3 n (by intro x hx; simp only [List.mem_cons, List.not_mem_nil, or_false] at hx; omega) bC
  have hcb := fixL_bd 6 [wordAtI s 16, a / 65536, wordAtI s (16 + 2), a % 65536, wordAtI s (hN s + 2), port] (wordAtI s (hN s + ckI p)) (Nat.le_refl _) (by intro x hx; simp only [List.mem_cons, List.not_mem_nil, or_false] at hx; omega) bC
  have hC : rnC s (hN s) p a port 16 2 = if p = 6 ∨ 0 < wordAtI s (hN s + ckI p) then noZ p (fixL (wordAtI s (hN s + ckI p)) [wordAtI s 16, a / 65536, wordAtI s (16 + 2), a % 65536, wordAtI s (hN s + 2), port]) else wordAtI s (hN s + ckI p) := rfl
  rw [hC] at hfin
  clear hC hT
  generalize fixL (wordAtI s (hN s + ckI p)) [wordAtI s 16, a / 65536, wordAtI s (16 + 2), a % 65536, wordAtI s (hN s + 2), port] = C at *
  generalize rnT s a 16 = T at *
  rcases hp with rfl | rfl
  · have hk : ckI 6 = 16 := rfl
    rw [hk] at eB hck hfin hck6 hf2 bC
    have wB := wordAt_spec B 16 (by omega) (by omega) 16 rfl
    rw [eB] at wB
    rw [if_pos (.inl rfl), noZ_neg (by omega)] at hfin
    have hc := word_spec C (by omega)
    have hcat := putW_cat B 16 C (by omega)
    rw [← hcat, ← List.append_assoc, ← List.append_assoc] at hfin
    rw [hre, ← hfin]
    clear hre hfin hcat
    refine hspec_fn Try.func7 rfl ok_custref_Renamed okr_custref_Renamed rfl (by kernel_rfl) ?_
    intro Γ hW0 hN0 hL0
    have hW := hW0 rfl
    clear hW0 hN0 hL0
    unfold x_custref_Renamed r_custref_Renamed
    repeat' (first
      | (with_reducible first | refine go_seq ?_ | refine go_region ?_ | refine go_regionD mixed_ok ?_ | refine go_cond ?_ | refine go_skip ?_ | refine go_block ?_ | refine nx_code ?_ | refine nx_block ?_ | refine go_ret ?_ | refine nx_nil ?_ | refine go_exit ?_ | refine ex_code ?_ | refine ex_loop ?_ | refine ex_here ?_)
      | ((with_reducible refine ex_past ?_ ?_); (exact by decide))
      | ((with_reducible refine endD_intro ?_ ?_); (exact by kernel_rfl))
      | ((with_reducible refine runR_n ?_ ?_); exact auN)
      | (first | (simp only [mkS_size, mkS_at, mkS_app, Int.toNat_natCast]) | (simp only [c0, c4, cs]) | (simp only [x1, x2]) | (simp only [k1, k2, k3, k4, k5, k6]) | (simp only [xtE]) | (simp only [xdE]) | (simp only [x3]) | (simp only [hA]) | (simp only [hB]) | (simp only [e18, e8]) | (simp only [List.cons_append, List.nil_append]) | (with_reducible refine runR_l ?_) | (with_reducible refine runR_call (between_spec _ _ _) ?_) | (with_reducible refine runR_call he ?_) | (with_reducible refine runR_call h2 ?_) | (with_reducible refine runR_call w10 ?_) | (with_reducible refine runR_call ht ?_) | (with_reducible refine runR_call hq ?_) | (with_reducible refine runR_call ha ?_) | (with_reducible refine runR_call wB ?_) | (with_reducible refine runR_call hc ?_) | ((with_reducible refine runR_callH 1 ?_ (hf1 _) (fun _ _ _ h => h) ?_); (exact rfl)) | ((with_reducible refine runR_callH 3 ?_ (hf2 _ _) (fun _ _ _ h => h) ?_); (exact rfl)))
      | (refine auD ?_)
      | (with_reducible refine runR_b (fun h => ?_) (fun h => ?_) <;> first | exact auH | simp only [h, runR_t, runR_f])
      | (with_reducible refine condK_bl ?_ ?_)
      | (with_reducible refine condK_b (fun h => ?_) (fun h => ?_) <;> first | exact auH | skip)
      | (first | (refine runR_n (by simp only [mkS_size, List.length_append, List.length_take, List.length_drop, wd_len, lg_len]; omega) ?_) | (refine runR_n (by omega) ?_) | (refine runR_n ⟨.inl (by decide), trivial, trivial, by unfold room maxLen; decide⟩ ?_) | fail))
    (all_goals first | exact auP | skip)
    all_goals first
      | (exfalso; simp_all; done)
      | skip
    all_goals with_reducible refine ret_spec2 (by (try dsimp only [RetOK, resOk, resDs, resD, resV, cellV, cellO, cellP, cellOk, htake, nfD, nfL, nfLL, nfH, lget, partOf, xget, ddrop, dtake, dget, Env.get, N8.get, env0, List.length_cons, List.length_nil, Env.set, N8.set, lset, updL]); (repeat' (first | exact trivial | exact rfl | exact nfLL_map (fun x => by simp [nfL, nfD, nfD, nfL]) | decide | apply And.intro))) ?_
    all_goals (try dsimp only [RetOK, resOk, resDs, resD, resV, cellV, cellO, cellP, cellOk, htake, nfD, nfL, nfLL, nfH, lget, partOf, xget, ddrop, dtake, dget, Env.get, N8.get, env0, List.length_cons, List.length_nil, Env.set, N8.set, lset, updL])
    all_goals (try simp only [hsM] at *)
    all_goals rfl
  · have hk : ckI 17 = 6 := rfl
    rw [hk] at eB hck hfin hck6 hf2 bC
    have wB := wordAt_spec B 6 (by omega) (by omega) 6 rfl
    rw [eB] at wB
    generalize wordAtI s (hN s + 6) = w at *
    by_cases hw : w = 0
    · subst hw
      rw [if_neg (by omega)] at hfin
      have hc := word_spec 0 (by omega)
      have hcat := putW_cat B 6 0 (by omega)
      rw [← hcat, ← List.append_assoc, ← List.append_assoc] at hfin
      rw [hre, ← hfin]
      clear hre hfin hcat
      refine hspec_fn Try.func7 rfl ok_custref_Renamed okr_custref_Renamed rfl (by kernel_rfl) ?_
      intro Γ hW0 hN0 hL0
      have hW := hW0 rfl
      clear hW0 hN0 hL0
      unfold x_custref_Renamed r_custref_Renamed
      repeat' (first
        | (with_reducible first | refine go_seq ?_ | refine go_region ?_ | refine go_regionD mixed_ok ?_ | refine go_cond ?_ | refine go_skip ?_ | refine go_block ?_ | refine nx_code ?_ | refine nx_block ?_ | refine go_ret ?_ | refine nx_nil ?_ | refine go_exit ?_ | refine ex_code ?_ | refine ex_loop ?_ | refine ex_here ?_)
        | ((with_reducible refine ex_past ?_ ?_); (exact by decide))
        | ((with_reducible refine endD_intro ?_ ?_); (exact by kernel_rfl))
        | ((with_reducible refine runR_n ?_ ?_); exact auN)
        | (first | (simp only [mkS_size, mkS_at, mkS_app, Int.toNat_natCast]) | (simp only [c0, c4, cs]) | (simp only [x1, x2]) | (simp only [k1, k2, k3, k4, k5, k6]) | (simp only [xtE]) | (simp only [xdE]) | (simp only [x3]) | (simp only [hA]) | (simp only [hB]) | (simp only [e18, e8]) | (simp only [List.cons_append, List.nil_append]) | (with_reducible refine runR_l ?_) | (with_reducible refine runR_call (between_spec _ _ _) ?_) | (with_reducible refine runR_call he ?_) | (with_reducible refine runR_call h2 ?_) | (with_reducible refine runR_call w10 ?_) | (with_reducible refine runR_call ht ?_) | (with_reducible refine runR_call hq ?_) | (with_reducible refine runR_call ha ?_) | (with_reducible refine runR_call wB ?_) | (with_reducible refine runR_call hc ?_) | ((with_reducible refine runR_callH 1 ?_ (hf1 _) (fun _ _ _ h => h) ?_); (exact rfl)) | ((with_reducible refine runR_callH 3 ?_ (hf2 _ _) (fun _ _ _ h => h) ?_); (exact rfl)))
        | (refine auD ?_)
        | (with_reducible refine runR_b (fun h => ?_) (fun h => ?_) <;> first | exact auH | simp only [h, runR_t, runR_f])
        | (with_reducible refine condK_bl ?_ ?_)
        | (with_reducible refine condK_b (fun h => ?_) (fun h => ?_) <;> first | exact auH | skip)
        | (first | (refine runR_n (by simp only [mkS_size, List.length_append, List.length_take, List.length_drop, wd_len, lg_len]; omega) ?_) | (refine runR_n (by omega) ?_) | (refine runR_n ⟨.inl (by decide), trivial, trivial, by unfold room maxLen; decide⟩ ?_) | fail))
      (all_goals first | exact auP | skip)
      all_goals first
        | (exfalso; simp_all; done)
        | skip
      all_goals with_reducible refine ret_spec2 (by (try dsimp only [RetOK, resOk, resDs, resD, resV, cellV, cellO, cellP, cellOk, htake, nfD, nfL, nfLL, nfH, lget, partOf, xget, ddrop, dtake, dget, Env.get, N8.get, env0, List.length_cons, List.length_nil, Env.set, N8.set, lset, updL]); (repeat' (first | exact trivial | exact rfl | exact nfLL_map (fun x => by simp [nfL, nfD, nfD, nfL]) | decide | apply And.intro))) ?_
      all_goals (try dsimp only [RetOK, resOk, resDs, resD, resV, cellV, cellO, cellP, cellOk, htake, nfD, nfL, nfLL, nfH, lget, partOf, xget, ddrop, dtake, dget, Env.get, N8.get, env0, List.length_cons, List.length_nil, Env.set, N8.set, lset, updL])
      all_goals (try simp only [hsM] at *)
      all_goals rfl
    · rw [if_pos (by omega)] at hfin
      by_cases hz : C = 0
      · subst hz
        rw [noZ_pos ⟨rfl, rfl⟩] at hfin
        have hc := word_spec 65535 (by omega)
        have hcat := putW_cat B 6 65535 (by omega)
        rw [← hcat, ← List.append_assoc, ← List.append_assoc] at hfin
        rw [hre, ← hfin]
        clear hre hfin hcat
        refine hspec_fn Try.func7 rfl ok_custref_Renamed okr_custref_Renamed rfl (by kernel_rfl) ?_
        intro Γ hW0 hN0 hL0
        have hW := hW0 rfl
        clear hW0 hN0 hL0
        unfold x_custref_Renamed r_custref_Renamed
        repeat' (first
          | (with_reducible first | refine go_seq ?_ | refine go_region ?_ | refine go_regionD mixed_ok ?_ | refine go_cond ?_ | refine go_skip ?_ | refine go_block ?_ | refine nx_code ?_ | refine nx_block ?_ | refine go_ret ?_ | refine nx_nil ?_ | refine go_exit ?_ | refine ex_code ?_ | refine ex_loop ?_ | refine ex_here ?_)
          | ((with_reducible refine ex_past ?_ ?_); (exact by decide))
          | ((with_reducible refine endD_intro ?_ ?_); (exact by kernel_rfl))
          | ((with_reducible refine runR_n ?_ ?_); exact auN)
          | (first | (simp only [mkS_size, mkS_at, mkS_app, Int.toNat_natCast]) | (simp only [c0, c4, cs]) | (simp only [x1, x2]) | (simp only [k1, k2, k3, k4, k5, k6]) | (simp only [xtE]) | (simp only [xdE]) | (simp only [x3]) | (simp only [hA]) | (simp only [hB]) | (simp only [e18, e8]) | (simp only [List.cons_append, List.nil_append]) | (with_reducible refine runR_l ?_) | (with_reducible refine runR_call (between_spec _ _ _) ?_) | (with_reducible refine runR_call he ?_) | (with_reducible refine runR_call h2 ?_) | (with_reducible refine runR_call w10 ?_) | (with_reducible refine runR_call ht ?_) | (with_reducible refine runR_call hq ?_) | (with_reducible refine runR_call ha ?_) | (with_reducible refine runR_call wB ?_) | (with_reducible refine runR_call hc ?_) | ((with_reducible refine runR_callH 1 ?_ (hf1 _) (fun _ _ _ h => h) ?_); (exact rfl)) | ((with_reducible refine runR_callH 3 ?_ (hf2 _ _) (fun _ _ _ h => h) ?_); (exact rfl)))
          | (refine auD ?_)
          | (with_reducible refine runR_b (fun h => ?_) (fun h => ?_) <;> first | exact auH | simp only [h, runR_t, runR_f])
          | (with_reducible refine condK_bl ?_ ?_)
          | (with_reducible refine condK_b (fun h => ?_) (fun h => ?_) <;> first | exact auH | skip)
          | (first | (refine runR_n (by simp only [mkS_size, List.length_append, List.length_take, List.length_drop, wd_len, lg_len]; omega) ?_) | (refine runR_n (by omega) ?_) | (refine runR_n ⟨.inl (by decide), trivial, trivial, by unfold room maxLen; decide⟩ ?_) | fail))
        (all_goals first | exact auP | skip)
        all_goals first
          | (exfalso; simp_all; done)
          | skip
        all_goals with_reducible refine ret_spec2 (by (try dsimp only [RetOK, resOk, resDs, resD, resV, cellV, cellO, cellP, cellOk, htake, nfD, nfL, nfLL, nfH, lget, partOf, xget, ddrop, dtake, dget, Env.get, N8.get, env0, List.length_cons, List.length_nil, Env.set, N8.set, lset, updL]); (repeat' (first | exact trivial | exact rfl | exact nfLL_map (fun x => by simp [nfL, nfD, nfD, nfL]) | decide | apply And.intro))) ?_
        all_goals (try dsimp only [RetOK, resOk, resDs, resD, resV, cellV, cellO, cellP, cellOk, htake, nfD, nfL, nfLL, nfH, lget, partOf, xget, ddrop, dtake, dget, Env.get, N8.get, env0, List.length_cons, List.length_nil, Env.set, N8.set, lset, updL])
        all_goals (try simp only [hsM] at *)
        all_goals rfl
      · rw [noZ_neg (by omega)] at hfin
        have hc := word_spec C (by omega)
        have hcat := putW_cat B 6 C (by omega)
        rw [← hcat, ← List.append_assoc, ← List.append_assoc] at hfin
        rw [hre, ← hfin]
        clear hre hfin hcat
        refine hspec_fn Try.func7 rfl ok_custref_Renamed okr_custref_Renamed rfl (by kernel_rfl) ?_
        intro Γ hW0 hN0 hL0
        have hW := hW0 rfl
        clear hW0 hN0 hL0
        unfold x_custref_Renamed r_custref_Renamed
        repeat' (first
          | (with_reducible first | refine go_seq ?_ | refine go_region ?_ | refine go_regionD mixed_ok ?_ | refine go_cond ?_ | refine go_skip ?_ | refine go_block ?_ | refine nx_code ?_ | refine nx_block ?_ | refine go_ret ?_ | refine nx_nil ?_ | refine go_exit ?_ | refine ex_code ?_ | refine ex_loop ?_ | refine ex_here ?_)
          | ((with_reducible refine ex_past ?_ ?_); (exact by decide))
          | ((with_reducible refine endD_intro ?_ ?_); (exact by kernel_rfl))
          | ((with_reducible refine runR_n ?_ ?_); exact auN)
          | (first | (simp only [mkS_size, mkS_at, mkS_app, Int.toNat_natCast]) | (simp only [c0, c4, cs]) | (simp only [x1, x2]) | (simp only [k1, k2, k3, k4, k5, k6]) | (simp only [xtE]) | (simp only [xdE]) | (simp only [x3]) | (simp only [hA]) | (simp only [hB]) | (simp only [e18, e8]) | (simp only [List.cons_append, List.nil_append]) | (with_reducible refine runR_l ?_) | (with_reducible refine runR_call (between_spec _ _ _) ?_) | (with_reducible refine runR_call he ?_) | (with_reducible refine runR_call h2 ?_) | (with_reducible refine runR_call w10 ?_) | (with_reducible refine runR_call ht ?_) | (with_reducible refine runR_call hq ?_) | (with_reducible refine runR_call ha ?_) | (with_reducible refine runR_call wB ?_) | (with_reducible refine runR_call hc ?_) | ((with_reducible refine runR_callH 1 ?_ (hf1 _) (fun _ _ _ h => h) ?_); (exact rfl)) | ((with_reducible refine runR_callH 3 ?_ (hf2 _ _) (fun _ _ _ h => h) ?_); (exact rfl)))
          | (refine auD ?_)
          | (with_reducible refine runR_b (fun h => ?_) (fun h => ?_) <;> first | exact auH | simp only [h, runR_t, runR_f])
          | (with_reducible refine condK_bl ?_ ?_)
          | (with_reducible refine condK_b (fun h => ?_) (fun h => ?_) <;> first | exact auH | skip)
          | (first | (refine runR_n (by simp only [mkS_size, List.length_append, List.length_take, List.length_drop, wd_len, lg_len]; omega) ?_) | (refine runR_n (by omega) ?_) | (refine runR_n ⟨.inl (by decide), trivial, trivial, by unfold room maxLen; decide⟩ ?_) | fail))
        (all_goals first | exact auP | skip)
        all_goals first
          | (exfalso; simp_all; done)
          | skip
        all_goals with_reducible refine ret_spec2 (by (try dsimp only [RetOK, resOk, resDs, resD, resV, cellV, cellO, cellP, cellOk, htake, nfD, nfL, nfLL, nfH, lget, partOf, xget, ddrop, dtake, dget, Env.get, N8.get, env0, List.length_cons, List.length_nil, Env.set, N8.set, lset, updL]); (repeat' (first | exact trivial | exact rfl | exact nfLL_map (fun x => by simp [nfL, nfD, nfD, nfL]) | decide | apply And.intro))) ?_
        all_goals (try dsimp only [RetOK, resOk, resDs, resD, resV, cellV, cellO, cellP, cellOk, htake, nfD, nfL, nfLL, nfH, lget, partOf, xget, ddrop, dtake, dget, Env.get, N8.get, env0, List.length_cons, List.length_nil, Env.set, N8.set, lset, updL])
        all_goals (try simp only [hsM] at *)
        all_goals rfl
end Go.Proofs.Ythdghenfidkdcaa
