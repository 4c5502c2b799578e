/-
  A packet with another name, in the reference.
-/
import Derived.Test.YthdghenfidkdcaaSwapQ
namespace Go.Proofs.Ythdghenfidkdcaa
set_option linter.unusedVariables false
set_option linter.unusedSimpArgs false
set_option maxRecDepth 8000 in
set_option maxHeartbeats 1000000 in
theorem fixed0 (c : Int) (l : List Int) (fu : Bool) (n : Nat) (hev : l.length % 2 = 0) (hl : l.length ≤ 1000) (hx : ∀ x ∈ l, 0 ≤ x ∧ x ≤ 65535) (hc : 0 ≤ c ∧ c ≤ 65535) : HSpec Try.prog 18 [.v (.int .i64 c), .sl 0 n 1 0 l.length fu] [some ⟨n, 1, l.map encI⟩] (fun d H => d = .v (.int .i64 (fixL c l)) ∧ H = [some ⟨n, 1, l.map encI⟩]) := by
  refine hspec_fn Try.func18 rfl ok_custref_fixed okr_custref_fixed rfl (by kernel_rfl) ?_
  intro Γ hW0 hN0 hL0
  clear hW0
  unfold x_custref_fixed r_custref_fixed
  have hn : n < Γ.g0 := hN0 0 _ rfl
  repeat' (first
    | (with_reducible first | refine go_seq ?_ | refine go_region ?_ | refine go_regionD mixed_ok ?_ | refine go_cond ?_ | refine go_skip ?_ | refine go_block ?_ | refine nx_code ?_ | refine nx_block ?_ | refine go_ret ?_ | refine nx_nil ?_ | refine go_exit ?_ | refine ex_code ?_ | refine ex_loop ?_ | refine ex_here ?_)
    | ((with_reducible refine ex_past ?_ ?_); (exact by decide))
    | ((with_reducible refine endD_intro ?_ ?_); (exact by kernel_rfl))
    | ((with_reducible refine runR_n ?_ ?_); exact auN)
    | fail
    | (refine auD ?_)
    | (with_reducible refine runR_b (fun h => ?_) (fun h => ?_) <;> first | exact auH | simp only [h, runR_t, runR_f])
    | (with_reducible refine condK_bl ?_ ?_)
    | (with_reducible refine condK_b (fun h => ?_) (fun h => ?_) <;> first | exact auH | skip)
    | fail)
  refine go_loopH (α := Nat × Int) (fun x => [(⟨.d0, .d0, .d5⟩, .v (.int .i64 (x.1 : Nat))), (⟨.d0, .d0, .d0⟩, .v (.int .i64 x.2))]) (fun _ => []) (fun _ => Γ.g0) (fun x => l.length - x.1) (fun x => x.1 % 2 = 0 ∧ x.1 ≤ l.length ∧ (0 ≤ x.2 ∧ x.2 ≤ 65535) ∧ fixL x.2 (l.drop x.1) = fixL c l) (0, c) ⟨rfl, Nat.zero_le _, hc, rfl⟩ ?_ ?_
  · skip
    refine le_mk ?_ ?_ (Nat.le_refl _)
    all_goals dsimp only [leE, leC, leR, leN, leD, leH, leO, writesX, dstsX, appS, havE, setsE, Env.get, Env.set, N8.get, N8.set, updL, lget, lset, env0]
    all_goals (repeat' (first | exact trivial | exact rfl | apply And.intro))
  rintro ⟨i, x⟩ ⟨hi2, hi, hxb, hf⟩
  dsimp only at hi2 hi hxb hf ⊢
  dsimp only [writesX, dstsX, appS, havE, setsE, Env.get, Env.set, N8.get, N8.set, updL, lget, lset, env0]
  by_cases hlt : i < l.length
  · have hlt1 : i + 1 < l.length := by omega
    obtain ⟨o, ho⟩ : ∃ o, l[i]? = some o := ⟨_, List.getElem?_eq_getElem hlt⟩
    obtain ⟨w, hw⟩ : ∃ w, l[i + 1]? = some w := ⟨_, List.getElem?_eq_getElem hlt1⟩
    have y0 := xget_map encI l i o ho
    have y1 := xget_map encI l (i + 1) w hw
    have bo := hx o (List.mem_of_getElem? ho)
    have bw := hx w (List.mem_of_getElem? hw)
    have hdr : l.drop i = o :: w :: l.drop (i + 2) := by
      rw [List.drop_eq_getElem_cons hlt, List.drop_eq_getElem_cons hlt1]
      congr 1
      · exact Option.some.inj ((List.getElem?_eq_getElem hlt).symm.trans ho)
      congr 1
      exact Option.some.inj ((List.getElem?_eq_getElem hlt1).symm.trans hw)
    rw [hdr, fixL] at hf
    have hfb := fixW_bd x o w hxb.2 bo.2 bw.1
    have e1 : IntKind.i64.wrap (65535 - x) = 65535 - x := IntWalk.i64_in _ (by omega)
    have e2 : IntKind.i64.wrap (65535 - o) = 65535 - o := IntWalk.i64_in _ (by omega)
    have hb1 := foldI_bd (65535 - x + (65535 - o)) (by omega)
    have he1 := endAround_spec (65535 - x) (65535 - o) (by omega) (by omega)
    have he2 := endAround_spec (foldI (65535 - x + (65535 - o))) w hb1 bw
    rw [foldI_add _ _ (by omega) bw.1] at he2
    have e3 : IntKind.i64.wrap (65535 - foldI (65535 - x + (65535 - o) + w)) = fixW x o w := IntWalk.i64_in _ (by unfold fixW at hfb; omega)
    have ei : IntKind.i64.wrap ((i : Int) + 1) = ((i + 1 : Nat) : Int) := by rw [IntWalk.i64_in _ (by omega)]; omega
    repeat' (first
      | (with_reducible first | refine go_seq ?_ | refine go_region ?_ | refine go_regionD mixed_ok ?_ | refine go_cond ?_ | refine go_skip ?_ | refine go_block ?_ | refine nx_code ?_ | refine nx_block ?_ | refine go_ret ?_ | refine nx_nil ?_ | refine go_exit ?_ | refine ex_code ?_ | refine ex_loop ?_ | refine ex_here ?_)
      | ((with_reducible refine ex_past ?_ ?_); (exact by decide))
      | ((with_reducible refine endD_intro ?_ ?_); (exact by kernel_rfl))
      | ((with_reducible refine runR_n ?_ ?_); exact auN)
      | (first | (simp only [ei, Int.toNat_natCast, Nat.zero_add, y0, y1]) | (simp only [e1, e2]) | (simp only [e3]) | (with_reducible refine runR_call he1 ?_) | (with_reducible refine runR_call he2 ?_))
      | (refine auD ?_)
      | (with_reducible refine runR_b (fun h => ?_) (fun h => ?_) <;> first | exact auH | simp only [h, runR_t, runR_f])
      | (with_reducible refine condK_bl ?_ ?_)
      | (with_reducible refine condK_b (fun h => ?_) (fun h => ?_) <;> first | exact auH | skip)
      | fail)
    (all_goals first | exact auP | skip)
    refine nx_loop ⟨(i + 2, fixW x o w), ⟨by dsimp only; omega, by dsimp only; omega, hfb, hf⟩, by dsimp only; omega, ?_⟩
    refine le_mk ?_ ?_ (Nat.le_refl _)
    all_goals dsimp only [leE, leC, leR, leN, leD, leH, leO, writesX, dstsX, appS, havE, setsE, Env.get, Env.set, N8.get, N8.set, updL, lget, lset, env0]
    all_goals (repeat' (first | exact trivial | exact rfl | apply And.intro))
    all_goals exact dint ((IntWalk.i64_in _ (by omega)).trans (by omega))
  · obtain rfl : i = l.length := by omega
    rw [List.drop_length, fixL] at hf
    · rw [← hf]
      repeat' (first
        | (with_reducible first | refine go_seq ?_ | refine go_region ?_ | refine go_regionD mixed_ok ?_ | refine go_cond ?_ | refine go_skip ?_ | refine go_block ?_ | refine nx_code ?_ | refine nx_block ?_ | refine go_ret ?_ | refine nx_nil ?_ | refine go_exit ?_ | refine ex_code ?_ | refine ex_loop ?_ | refine ex_here ?_)
        | ((with_reducible refine ex_past ?_ ?_); (exact by decide))
        | ((with_reducible refine endD_intro ?_ ?_); (exact by kernel_rfl))
        | ((with_reducible refine runR_n ?_ ?_); exact auN)
        | fail
        | (refine auD ?_)
        | (with_reducible refine runR_b (fun h => ?_) (fun h => ?_) <;> first | exact auH | simp only [h, runR_t, runR_f])
        | (with_reducible refine condK_bl ?_ ?_)
        | (with_reducible refine condK_b (fun h => ?_) (fun h => ?_) <;> first | exact auH | skip)
        | fail)
      (all_goals first | exact auP | skip)
      refine ret_h1 trivial trivial ?_ rfl hn (nfLL_map (fun x => by simp [nfL, nfD])) rfl
      rfl
    · intro o n r q; cases q
theorem fixed_k (c : Int) (l : List Int) (fu : Bool) (k n : Nat) (hev : l.length % 2 = 0) (hl : l.length ≤ 1000) (hx : ∀ x ∈ l, 0 ≤ x ∧ x ≤ 65535) (hc : 0 ≤ c ∧ c ≤ 65535) : HSpec Try.prog 18 [.v (.int .i64 c), .sl k n 1 0 l.length fu] [some ⟨n, 1, l.map encI⟩] (fun d H => d = .v (.int .i64 (fixL c l)) ∧ H = [some ⟨n, 1, l.map encI⟩]) := by
  refine hspec_args (fixed0 c l fu n hev hl hx hc) (fun K w vs hv => argsRel_mem hv rfl (fun i d e h1 h2 v hv => ?_))
  match i, h1, h2 with
  | 0, h1, h2 =>
    obtain rfl := Option.some.inj h1
    obtain rfl := Option.some.inj h2
    exact hv
  | 1, h1, h2 =>
    obtain rfl := Option.some.inj h1
    obtain rfl := Option.some.inj h2
    exact sl_label hv
  | i + 2, h1, _ => simp at h1
theorem fixed4 (c a1 a2 a3 a4 : Int) (fu : Bool) (k n : Nat) (hx : ∀ x ∈ [a1, a2, a3, a4], 0 ≤ x ∧ x ≤ 65535) (hc : 0 ≤ c ∧ c ≤ 65535) : HSpec Try.prog 18 [.v (.int .i64 c), .sl k n 1 0 4 fu] [some ⟨n, 1, [[.v (.int .i64 a1)], [.v (.int .i64 a2)], [.v (.int .i64 a3)], [.v (.int .i64 a4)]]⟩] (fun d H => d = .v (.int .i64 (fixL c [a1, a2, a3, a4])) ∧ H = [some ⟨n, 1, [[.v (.int .i64 a1)], [.v (.int .i64 a2)], [.v (.int .i64 a3)], [.v (.int .i64 a4)]]⟩]) :=
  fixed_k c [a1, a2, a3, a4] fu k n (show 4 % 2 = 0 by decide) (show 4 ≤ 1000 by decide) hx hc
theorem fixed6 (c a1 a2 a3 a4 a5 a6 : Int) (fu : Bool) (k n : Nat) (hx : ∀ x ∈ [a1, a2, a3, a4, a5, a6], 0 ≤ x ∧ x ≤ 65535) (hc : 0 ≤ c ∧ c ≤ 65535) : HSpec Try.prog 18 [.v (.int .i64 c), .sl k n 1 0 6 fu] [some ⟨n, 1, [[.v (.int .i64 a1)], [.v (.int .i64 a2)], [.v (.int .i64 a3)], [.v (.int .i64 a4)], [.v (.int .i64 a5)], [.v (.int .i64 a6)]]⟩] (fun d H => d = .v (.int .i64 (fixL c [a1, a2, a3, a4, a5, a6])) ∧ H = [some ⟨n, 1, [[.v (.int .i64 a1)], [.v (.int .i64 a2)], [.v (.int .i64 a3)], [.v (.int .i64 a4)], [.v (.int .i64 a5)], [.v (.int .i64 a6)]]⟩]) :=
  fixed_k c [a1, a2, a3, a4, a5, a6] fu k n (show 6 % 2 = 0 by decide) (show 6 ≤ 1000 by decide) hx hc
def rnR (s : List UInt8) (a port : Int) (at' off : Nat) : List UInt8 × Int :=
  if ¬ (edR s).2 = 0 then ([], (edR s).2)
  else if ¬ (0 ≤ port ∧ port ≤ 65535) then ([], 1)
  else ((rnW s (hN s) (bN s 9 : Nat) a port at' off).take (pL s), 0)
theorem xtE (l : List UInt8) (j : Nat) : (mkS l).extract 0 j = mkS (l.take j) := by rw [mkS_ext]; rfl
theorem xdE (l : List UInt8) (i : Nat) : (mkS l).extract i l.length = mkS (l.drop i) := by rw [mkS_ext, List.take_of_length_le (by simp)]
set_option maxHeartbeats 4000000 in
theorem renamed_bad (s : List UInt8) (a port : Int) (fr : Bool) (hs : s.length ≤ 140737488351232) (hb : ¬ (edR s).2 = 0 ∨ ¬ (0 ≤ port ∧ port ≤ 65535)) (at' off : Nat) : Spec Try.prog 7 [.v (.string (mkS s)), .v (.int .u32 a), .v (.int .i64 port), .v (.bool fr)] (.tup [.v (.string (mkS (rnR s a port at' off).1)), .v (.int .i64 (rnR s a port at' off).2)]) := by
  have he := endsOf_spec s hs
  by_cases h1 : (edR s).2 = 0
  rotate_left
  · have e : rnR s a port at' off = ([], (edR s).2) := by unfold rnR; rw [if_pos h1]
    rw [e]
    clear e hb
    generalize edR s = r at *
    obtain ⟨f, e⟩ := r
    dsimp only at *
    refine hspec_fn Try.func7 rfl ok_custref_Renamed okr_custref_Renamed rfl (by kernel_rfl) ?_
    intro Γ hW0 hN0 hL0
    have hW := hW0 rfl
    clear hW0 hN0 hL0
    unfold x_custref_Renamed r_custref_Renamed
    repeat' (first
      | (with_reducible first | refine go_seq ?_ | refine go_region ?_ | refine go_regionD mixed_ok ?_ | refine go_cond ?_ | refine go_skip ?_ | refine go_block ?_ | refine nx_code ?_ | refine nx_block ?_ | refine go_ret ?_ | refine nx_nil ?_ | refine go_exit ?_ | refine ex_code ?_ | refine ex_loop ?_ | refine ex_here ?_)
      | ((with_reducible refine ex_past ?_ ?_); (exact by decide))
      | ((with_reducible refine endD_intro ?_ ?_); (exact by kernel_rfl))
      | ((with_reducible refine runR_n ?_ ?_); exact auN)
      | (first | (simp only [mkS_size, mkS_at, mkS_app, Int.toNat_natCast]) | (simp only [c0, c4, cs]) | (simp only [x1, x2]) | (simp only [k1, k2, k3, k4, k5, k6]) | (simp only [xtE]) | (simp only [xdE]) | (simp only [x3]) | (simp only [hA]) | (simp only [hB]) | (simp only [e18, e8]) | (with_reducible refine runR_call (between_spec _ _ _) ?_) | (with_reducible refine runR_call he ?_) | (with_reducible refine runR_call h2 ?_) | (with_reducible refine runR_call w10 ?_) | (with_reducible refine runR_call ht ?_) | (with_reducible refine runR_call hq ?_) | (with_reducible refine runR_call ha ?_) | (with_reducible refine runR_call wB ?_) | (with_reducible refine runR_call hc ?_) | ((with_reducible refine runR_callH 1 ?_ (hf1 _) (fun _ _ _ h => h) ?_); (exact rfl)) | ((with_reducible refine runR_callH 3 ?_ (hf2 _ _) (fun _ _ _ h => h) ?_); (exact rfl)))
      | (refine auD ?_)
      | (with_reducible refine runR_b (fun h => ?_) (fun h => ?_) <;> first | exact auH | simp only [h, runR_t, runR_f])
      | (with_reducible refine condK_bl ?_ ?_)
      | (with_reducible refine condK_b (fun h => ?_) (fun h => ?_) <;> first | exact auH | skip)
      | (first | (refine runR_n (by simp only [mkS_size, List.length_append, List.length_take, List.length_drop, wd_len, lg_len]; omega) ?_) | (refine runR_n (by omega) ?_) | fail))
    (all_goals first | exact auP | skip)
    all_goals first
      | (exfalso; simp_all; done)
      | skip
    all_goals with_reducible refine ret_spec2 (by (try dsimp only [RetOK, resOk, resDs, resD, resV, cellV, cellO, cellP, cellOk, htake, nfD, nfL, nfLL, nfH, lget, partOf, xget, ddrop, dtake, dget, Env.get, N8.get, env0, List.length_cons, List.length_nil, Env.set, N8.set, lset, updL]); (repeat' (first | exact trivial | exact rfl | exact nfLL_map (fun x => by simp [nfL, nfD, nfD, nfL]) | decide | apply And.intro))) ?_
    all_goals (try dsimp only [RetOK, resOk, resDs, resD, resV, cellV, cellO, cellP, cellOk, htake, nfD, nfL, nfLL, nfH, lget, partOf, xget, ddrop, dtake, dget, Env.get, N8.get, env0, List.length_cons, List.length_nil, Env.set, N8.set, lset, updL])
    all_goals (try simp only [hsM] at *)
    all_goals rfl
  · have h3 := hb.resolve_left (not_not_intro h1)
    have e : rnR s a port at' off = ([], 1) := by unfold rnR; rw [if_neg (not_not_intro h1), if_pos h3]
    rw [e]
    clear e hb
    generalize edR s = r at *
    obtain ⟨f, e⟩ := r
    dsimp only at *
    subst h1
    refine hspec_fn Try.func7 rfl ok_custref_Renamed okr_custref_Renamed rfl (by kernel_rfl) ?_
    intro Γ hW0 hN0 hL0
    have hW := hW0 rfl
    clear hW0 hN0 hL0
    unfold x_custref_Renamed r_custref_Renamed
    repeat' (first
      | (with_reducible first | refine go_seq ?_ | refine go_region ?_ | refine go_regionD mixed_ok ?_ | refine go_cond ?_ | refine go_skip ?_ | refine go_block ?_ | refine nx_code ?_ | refine nx_block ?_ | refine go_ret ?_ | refine nx_nil ?_ | refine go_exit ?_ | refine ex_code ?_ | refine ex_loop ?_ | refine ex_here ?_)
      | ((with_reducible refine ex_past ?_ ?_); (exact by decide))
      | ((with_reducible refine endD_intro ?_ ?_); (exact by kernel_rfl))
      | ((with_reducible refine runR_n ?_ ?_); exact auN)
      | (first | (simp only [mkS_size, mkS_at, mkS_app, Int.toNat_natCast]) | (simp only [c0, c4, cs]) | (simp only [x1, x2]) | (simp only [k1, k2, k3, k4, k5, k6]) | (simp only [xtE]) | (simp only [xdE]) | (simp only [x3]) | (simp only [hA]) | (simp only [hB]) | (simp only [e18, e8]) | (with_reducible refine runR_call (between_spec _ _ _) ?_) | (with_reducible refine runR_call he ?_) | (with_reducible refine runR_call h2 ?_) | (with_reducible refine runR_call w10 ?_) | (with_reducible refine runR_call ht ?_) | (with_reducible refine runR_call hq ?_) | (with_reducible refine runR_call ha ?_) | (with_reducible refine runR_call wB ?_) | (with_reducible refine runR_call hc ?_) | ((with_reducible refine runR_callH 1 ?_ (hf1 _) (fun _ _ _ h => h) ?_); (exact rfl)) | ((with_reducible refine runR_callH 3 ?_ (hf2 _ _) (fun _ _ _ h => h) ?_); (exact rfl)))
      | (refine auD ?_)
      | (with_reducible refine runR_b (fun h => ?_) (fun h => ?_) <;> first | exact auH | simp only [h, runR_t, runR_f])
      | (with_reducible refine condK_bl ?_ ?_)
      | (with_reducible refine condK_b (fun h => ?_) (fun h => ?_) <;> first | exact auH | skip)
      | (first | (refine runR_n (by simp only [mkS_size, List.length_append, List.length_take, List.length_drop, wd_len, lg_len]; omega) ?_) | (refine runR_n (by omega) ?_) | fail))
    (all_goals first | exact auP | skip)
    all_goals first
      | (exfalso; simp_all; done)
      | skip
    all_goals with_reducible refine ret_spec2 (by (try dsimp only [RetOK, resOk, resDs, resD, resV, cellV, cellO, cellP, cellOk, htake, nfD, nfL, nfLL, nfH, lget, partOf, xget, ddrop, dtake, dget, Env.get, N8.get, env0, List.length_cons, List.length_nil, Env.set, N8.set, lset, updL]); (repeat' (first | exact trivial | exact rfl | exact nfLL_map (fun x => by simp [nfL, nfD, nfD, nfL]) | decide | apply And.intro))) ?_
    all_goals (try dsimp only [RetOK, resOk, resDs, resD, resV, cellV, cellO, cellP, cellOk, htake, nfD, nfL, nfLL, nfH, lget, partOf, xget, ddrop, dtake, dget, Env.get, N8.get, env0, List.length_cons, List.length_nil, Env.set, N8.set, lset, updL])
    all_goals (try simp only [hsM] at *)
    all_goals rfl
end Go.Proofs.Ythdghenfidkdcaa
