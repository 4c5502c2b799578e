/-
  A guard at work: what comes of a server.
-/
import Derived.Test.YtegejpieedckiaaProxE
import Derived.Test.YtegejpieedckiaaTcpY
namespace Go.Proofs.Ytegejpieedckiaa
set_option linter.unusedVariables false
set_option linter.unusedSimpArgs false
def hasF (g : Sg) (fl : Int) : Bool := !decide (bits .and .i64 g.flags fl = 0)
/-- A segment without options, as it is laid. -/
abbrev Sg.encN (g : Sg) : List DV := [.v (.int .i64 g.fr), .v (.int .i64 g.to), .v (.int .u32 g.seq), .v (.int .u32 g.ack), .v (.int .i64 g.flags), .v (.int .i64 g.win), .v (.int .i64 g.urg), nilS, .v (.string (ByteArray.mk #[]))]
abbrev sgQ (g : Sg) (t : Gd) : Sg := ⟨g.fr, g.to, (t.ck + 1) % 4294967296, 0, 4, 0, 0, [], []⟩
abbrev sgK (g : Sg) : Sg := ⟨g.to, g.fr, g.ack, (g.seq + 1) % 4294967296, 16, 65535, 0, [], []⟩
abbrev Gd.opened (g : Sg) (now : Int) (t : Gd) : Gd := ⟨t.fr, t.to, t.fp, t.tp, t.seq, t.ck, (t.ck - g.seq) % 4294967296, true, now⟩
theorem u32_mod (n : Int) : IntKind.u32.wrap n = n % 4294967296 := by simp [IntKind.wrap, IntKind.bits, IntKind.signed]
theorem has_spec (k n : Nat) (g : Sg) (fl : Int) : Spec Try.prog 47 [.ptr k n 7 0 0, dG g, .v (.int .i64 fl)] (.v (.bool (hasF g fl))) := by
  refine hspec_fn Try.func47 rfl ok_proxy_guard_has okr_proxy_guard_has rfl (by kernel_rfl) ?_
  intro Γ hW0 hN0 hL0
  have hW := hW0 rfl
  clear hW0 hN0 hL0
  unfold x_proxy_guard_has r_proxy_guard_has
  repeat' (first
    | (with_reducible first | refine go_seq ?_ | refine go_region ?_ | refine go_regionD mixed_ok ?_ | refine go_cond ?_ | refine go_skip ?_ | refine go_block ?_ | refine nx_code ?_ | refine nx_block ?_ | refine go_ret ?_ | refine nx_nil ?_ | refine go_exit ?_ | refine ex_code ?_ | refine ex_loop ?_ | refine ex_here ?_)
    | ((with_reducible refine ex_past ?_ ?_); (exact by decide))
    | ((with_reducible refine endD_intro ?_ ?_); (exact by kernel_rfl))
    | ((with_reducible refine runR_n ?_ ?_); exact auN)
    | fail
    | (refine auD ?_)
    | (with_reducible refine runR_b (fun h => ?_) (fun h => ?_) <;> first | exact auH | simp only [h, runR_t, runR_f])
    | (with_reducible refine condK_bl ?_ ?_)
    | (with_reducible refine condK_b (fun h => ?_) (fun h => ?_) <;> first | exact auH | skip)
    | fail)
  (all_goals first | exact auP | skip)
  all_goals with_reducible refine ret_spec2 (by (try dsimp only [RetOK, resOk, resDs, resD, resV, cellV, cellO, cellP, cellOk, htake, nfD, nfL, nfLL, nfH, lget, partOf, xget, ddrop, dtake, dget, Env.get, N8.get, env0, List.length_cons, List.length_nil, Env.set, N8.set, lset, updL]); (repeat' (first | exact trivial | exact rfl | exact nfLL_map (fun x => by simp [nfL, nfD, nfD, nfL]) | decide | apply And.intro))) ?_
  all_goals (try dsimp only [RetOK, resOk, resDs, resD, resV, cellV, cellO, cellP, cellOk, htake, nfD, nfL, nfLL, nfH, lget, partOf, xget, ddrop, dtake, dget, Env.get, N8.get, env0, List.length_cons, List.length_nil, Env.set, N8.set, lset, updL])
  all_goals (try simp only [hsM] at *)
  all_goals rfl
abbrev SegArg (g : Sg) : Prop := g.opts.length ≤ maxLen ∧ g.opts.length * 24 ≤ 140737488351232 ∧ (∀ t ∈ g.opts, t.d.length ≤ 140737488351232) ∧ (0 ≤ g.seq ∧ g.seq < 4294967296) ∧ (0 ≤ g.ack ∧ g.ack < 4294967296)
abbrev oGu (n : Nat) (k0 k1 sz now : Int) (tk cl sv : DV) : Option AObj := some ⟨n, 7, [cGu k0 k1 sz now tk cl sv]⟩
theorem nf_opt (g : Nat) (l : List Op2) : nfLL g (l.map Op2.enc) := nfLL_map (fun x => by simp [nfL, nfD])
set_option maxRecDepth 8000 in
set_option maxHeartbeats 4000000 in
theorem fromS_A1 (k0 k1 sz now : Int) (ms : List Gd) (n m i : Nat) (g : Sg) (t : Gd) (hm : ms[i]? = some t) (hl : ms.length ≤ 64) (ha : SegArg g) (hdl : 0 ≤ t.dl ∧ t.dl < 4294967296) (hf4 : hasF g 4 = true) (hop : t.op = true) : MSpec Try.prog 18 [.ptr 0 n 7 0 0, .v (.int .i64 (i : Nat)), dG g] [oGu n k0 k1 sz now (.sl 1 m 9 0 ms.length false) nilS nilS, some ⟨m, 9, ms.map Gd.enc⟩] 1 (fun q d H => d = .tup [] ∧ H = [oGu n k0 k1 sz now (.sl 1 m 9 0 (butI i ms).length false) (.sl 8 q 9 0 1 false) nilS, some ⟨m, 9, (butI i ms).map Gd.enc⟩, some ⟨q, 9, [(mvd g t.dl 0).enc]⟩]) := by
  have hlen : (ms.map Gd.enc).length = ms.length := List.length_map _
  have ex := xget_gd hm
  have hmv := move_spec g _ 0 ha.1 ha.2.1 ha.2.2.1 hdl (by decide) ha.2.2.2.1 ha.2.2.2.2
  have hlv := leaves_spec k0 k1 sz now ms n m i (List.getElem?_eq_some_iff.1 hm).1 hl
  have h4 := has_spec 0 n g 4
  have h2 := has_spec 0 n g 2
  have h16 := has_spec 0 n g 16
  have hi : i < ms.length := (List.getElem?_eq_some_iff.1 hm).1
  refine mspec_fn Try.func18 rfl ok_proxy_guard_fromServer okr_proxy_guard_fromServer rfl (by kernel_rfl) ?_
  intro Γ hW0 hN0 hL0
  clear hW0
  unfold x_proxy_guard_fromServer r_proxy_guard_fromServer
  have hn := hN0 0 _ rfl
  have hmg := hN0 1 _ rfl
  repeat' (first
    | (with_reducible first | refine go_seq ?_ | refine go_region ?_ | refine go_regionD mixed_ok ?_ | refine go_cond ?_ | refine go_skip ?_ | refine go_block ?_ | refine nx_code ?_ | refine nx_block ?_ | refine go_ret ?_ | refine nx_nil ?_ | refine go_exit ?_ | refine ex_code ?_ | refine ex_loop ?_ | refine ex_here ?_)
    | ((with_reducible refine ex_past ?_ ?_); (exact by decide))
    | ((with_reducible refine endD_intro ?_ ?_); (exact by kernel_rfl))
    | ((with_reducible refine runR_n ?_ ?_); exact auN)
    | (first | (simp only [hlen]) | (simp only [u32_mod]) | (with_reducible refine runR_call hmv ?_) | (with_reducible refine runR_call h4 ?_) | (with_reducible refine runR_call h2 ?_) | (with_reducible refine runR_call h16 ?_) | (simp only [hf4]) | (simp only [hf2]) | (simp only [hf16]) | (simp only [hop]) | (refine runR_callHH 0 1 (by decide) rfl rfl hlv (fun _ _ _ h => h) ?_) | (refine runR_callHHM 0 1 [20] (by decide) rfl rfl rfl hhd ?_))
    | (refine auD ?_)
    | (with_reducible refine runR_b (fun h => ?_) (fun h => ?_) <;> first | exact auH | simp only [h, runR_t, runR_f])
    | (with_reducible refine condK_bl ?_ ?_)
    | (with_reducible refine condK_b (fun h => ?_) (fun h => ?_) <;> first | exact auH | skip)
    | (first | (simp only [Int.toNat_natCast, Nat.zero_add, ex]) | (with_reducible refine runR_l ?_) | (refine runR_n ⟨.inl (by decide), by trivial, by trivial, by unfold room maxLen; decide⟩ ?_) | (refine runR_n ⟨by omega, by omega⟩ ?_) | fail))
  (all_goals first | exact auP | skip)
  refine ret_m [0, 1, 6] [Γ.g0 + 3 + 1] trivial (by decide) rfl (fun a ha => ?_) (fun q => ?_) (fun q => ?_)
  · obtain rfl := List.mem_singleton.1 ha
    exact ⟨6, _, rfl, rfl⟩
  · exact rfl
  · exact ⟨⟨.inr ⟨hn, rfl⟩, rfl, ⟨⟨rfl, trivial⟩, ⟨rfl, trivial⟩, ⟨rfl, trivial⟩, ⟨1, m, .inr ⟨hmg, rfl⟩, rfl⟩, ⟨rfl, trivial⟩, ⟨8, q, .inl ⟨0, rfl, rfl⟩, rfl⟩, ⟨rfl, trivial⟩, rfl⟩, rfl⟩, ⟨.inr ⟨hmg, rfl⟩, rfl, renMLL_nf _ (nf_gd _ _)⟩, ⟨.inl ⟨0, rfl, rfl⟩, rfl, (renMLL_nf _ (by refine ⟨?_, trivial⟩; simp [nfL, nfD, nf_opt]))⟩, rfl⟩
set_option maxRecDepth 8000 in
set_option maxHeartbeats 4000000 in
theorem fromS_A2 (k0 k1 sz now : Int) (ms : List Gd) (n m i : Nat) (g : Sg) (t : Gd) (hm : ms[i]? = some t) (hl : ms.length ≤ 64) (ha : SegArg g) (hdl : 0 ≤ t.dl ∧ t.dl < 4294967296) (hf4 : hasF g 4 = true) (hop : t.op = false) : MSpec Try.prog 18 [.ptr 0 n 7 0 0, .v (.int .i64 (i : Nat)), dG g] [oGu n k0 k1 sz now (.sl 1 m 9 0 ms.length false) nilS nilS, some ⟨m, 9, ms.map Gd.enc⟩] 1 (fun q d H => d = .tup [] ∧ H = [oGu n k0 k1 sz now (.sl 1 m 9 0 (butI i ms).length false) (.sl 8 q 9 0 1 false) nilS, some ⟨m, 9, (butI i ms).map Gd.enc⟩, some ⟨q, 9, [(sgQ g t).encN]⟩]) := by
  have hlen : (ms.map Gd.enc).length = ms.length := List.length_map _
  have ex := xget_gd hm
  have hmv := move_spec g _ 0 ha.1 ha.2.1 ha.2.2.1 hdl (by decide) ha.2.2.2.1 ha.2.2.2.2
  have hlv := leaves_spec k0 k1 sz now ms n m i (List.getElem?_eq_some_iff.1 hm).1 hl
  have h4 := has_spec 0 n g 4
  have h2 := has_spec 0 n g 2
  have h16 := has_spec 0 n g 16
  have hi : i < ms.length := (List.getElem?_eq_some_iff.1 hm).1
  refine mspec_fn Try.func18 rfl ok_proxy_guard_fromServer okr_proxy_guard_fromServer rfl (by kernel_rfl) ?_
  intro Γ hW0 hN0 hL0
  clear hW0
  unfold x_proxy_guard_fromServer r_proxy_guard_fromServer
  have hn := hN0 0 _ rfl
  have hmg := hN0 1 _ rfl
  repeat' (first
    | (with_reducible first | refine go_seq ?_ | refine go_region ?_ | refine go_regionD mixed_ok ?_ | refine go_cond ?_ | refine go_skip ?_ | refine go_block ?_ | refine nx_code ?_ | refine nx_block ?_ | refine go_ret ?_ | refine nx_nil ?_ | refine go_exit ?_ | refine ex_code ?_ | refine ex_loop ?_ | refine ex_here ?_)
    | ((with_reducible refine ex_past ?_ ?_); (exact by decide))
    | ((with_reducible refine endD_intro ?_ ?_); (exact by kernel_rfl))
    | ((with_reducible refine runR_n ?_ ?_); exact auN)
    | (first | (simp only [hlen]) | (simp only [u32_mod]) | (with_reducible refine runR_call hmv ?_) | (with_reducible refine runR_call h4 ?_) | (with_reducible refine runR_call h2 ?_) | (with_reducible refine runR_call h16 ?_) | (simp only [hf4]) | (simp only [hf2]) | (simp only [hf16]) | (simp only [hop]) | (refine runR_callHH 0 1 (by decide) rfl rfl hlv (fun _ _ _ h => h) ?_) | (refine runR_callHHM 0 1 [20] (by decide) rfl rfl rfl hhd ?_))
    | (refine auD ?_)
    | (with_reducible refine runR_b (fun h => ?_) (fun h => ?_) <;> first | exact auH | simp only [h, runR_t, runR_f])
    | (with_reducible refine condK_bl ?_ ?_)
    | (with_reducible refine condK_b (fun h => ?_) (fun h => ?_) <;> first | exact auH | skip)
    | (first | (simp only [Int.toNat_natCast, Nat.zero_add, ex]) | (with_reducible refine runR_l ?_) | (refine runR_n ⟨.inl (by decide), by trivial, by trivial, by unfold room maxLen; decide⟩ ?_) | (refine runR_n ⟨by omega, by omega⟩ ?_) | fail))
  (all_goals first | exact auP | skip)
  refine ret_m [0, 1, 6] [Γ.g0 + 3 + 1] trivial (by decide) rfl (fun a ha => ?_) (fun q => ?_) (fun q => ?_)
  · obtain rfl := List.mem_singleton.1 ha
    exact ⟨6, _, rfl, rfl⟩
  · exact rfl
  · exact ⟨⟨.inr ⟨hn, rfl⟩, rfl, ⟨⟨rfl, trivial⟩, ⟨rfl, trivial⟩, ⟨rfl, trivial⟩, ⟨1, m, .inr ⟨hmg, rfl⟩, rfl⟩, ⟨rfl, trivial⟩, ⟨8, q, .inl ⟨0, rfl, rfl⟩, rfl⟩, ⟨rfl, trivial⟩, rfl⟩, rfl⟩, ⟨.inr ⟨hmg, rfl⟩, rfl, renMLL_nf _ (nf_gd _ _)⟩, ⟨.inl ⟨0, rfl, rfl⟩, rfl, (renMLL_nf _ (by refine ⟨?_, trivial⟩; simp [nfL, nfD, nf_opt]))⟩, rfl⟩
set_option maxRecDepth 8000 in
set_option maxHeartbeats 4000000 in
theorem fromS_B (k0 k1 sz now : Int) (ms : List Gd) (n m i : Nat) (g : Sg) (t : Gd) (hm : ms[i]? = some t) (hl : ms.length ≤ 64) (ha : SegArg g) (hdl : 0 ≤ t.dl ∧ t.dl < 4294967296) (hf4 : hasF g 4 = false) (hop : t.op = true) (hf2 : hasF g 2 = false) : MSpec Try.prog 18 [.ptr 0 n 7 0 0, .v (.int .i64 (i : Nat)), dG g] [oGu n k0 k1 sz now (.sl 1 m 9 0 ms.length false) nilS nilS, some ⟨m, 9, ms.map Gd.enc⟩] 2 (fun q d H => d = .tup [] ∧ H = [oGu n k0 k1 sz now (.sl 9 q 9 0 (butI i ms ++ [t.heardAt now]).length false) (.sl 8 (q + 1) 9 0 1 false) nilS, none, some ⟨q, 9, (butI i ms ++ [t.heardAt now]).map Gd.enc⟩, some ⟨q + 1, 9, [(mvd g t.dl 0).enc]⟩]) := by
  obtain ⟨tfr, tto, tfp, ttp, tseq, tck, tdl, top, tat⟩ := t
  dsimp only at hop
  subst hop
  have hhd := heard_spec k0 k1 sz now ms n m i ⟨tfr, tto, tfp, ttp, tseq, tck, tdl, true, tat⟩ (List.getElem?_eq_some_iff.1 hm).1 hl
  have hlen : (ms.map Gd.enc).length = ms.length := List.length_map _
  have ex := xget_gd hm
  have hmv := move_spec g _ 0 ha.1 ha.2.1 ha.2.2.1 hdl (by decide) ha.2.2.2.1 ha.2.2.2.2
  have hlv := leaves_spec k0 k1 sz now ms n m i (List.getElem?_eq_some_iff.1 hm).1 hl
  have h4 := has_spec 0 n g 4
  have h2 := has_spec 0 n g 2
  have h16 := has_spec 0 n g 16
  have hi : i < ms.length := (List.getElem?_eq_some_iff.1 hm).1
  refine mspec_fn Try.func18 rfl ok_proxy_guard_fromServer okr_proxy_guard_fromServer rfl (by kernel_rfl) ?_
  intro Γ hW0 hN0 hL0
  clear hW0
  unfold x_proxy_guard_fromServer r_proxy_guard_fromServer
  have hn := hN0 0 _ rfl
  have hmg := hN0 1 _ rfl
  repeat' (first
    | (with_reducible first | refine go_seq ?_ | refine go_region ?_ | refine go_regionD mixed_ok ?_ | refine go_cond ?_ | refine go_skip ?_ | refine go_block ?_ | refine nx_code ?_ | refine nx_block ?_ | refine go_ret ?_ | refine nx_nil ?_ | refine go_exit ?_ | refine ex_code ?_ | refine ex_loop ?_ | refine ex_here ?_)
    | ((with_reducible refine ex_past ?_ ?_); (exact by decide))
    | ((with_reducible refine endD_intro ?_ ?_); (exact by kernel_rfl))
    | ((with_reducible refine runR_n ?_ ?_); exact auN)
    | (first | (simp only [hlen]) | (simp only [u32_mod]) | (with_reducible refine runR_call hmv ?_) | (with_reducible refine runR_call h4 ?_) | (with_reducible refine runR_call h2 ?_) | (with_reducible refine runR_call h16 ?_) | (simp only [hf4]) | (simp only [hf2]) | (simp only [hf16]) | (simp only [hop]) | (refine runR_callHH 0 1 (by decide) rfl rfl hlv (fun _ _ _ h => h) ?_) | (refine runR_callHHM 0 1 [20] (by decide) rfl rfl rfl hhd ?_))
    | (refine auD ?_)
    | (with_reducible refine runR_b (fun h => ?_) (fun h => ?_) <;> first | exact auH | simp only [h, runR_t, runR_f])
    | (with_reducible refine condK_bl ?_ ?_)
    | (with_reducible refine condK_b (fun h => ?_) (fun h => ?_) <;> first | exact auH | skip)
    | (first | (simp only [Int.toNat_natCast, Nat.zero_add, ex]) | (with_reducible refine runR_l ?_) | (refine runR_n ⟨.inl (by decide), by trivial, by trivial, by unfold room maxLen; decide⟩ ?_) | (refine runR_n ⟨by omega, by omega⟩ ?_) | fail))
  (all_goals first | exact auP | skip)
  refine ret_m [0, 1, 20, 8] [Γ.g0 + 3, Γ.g0 + 3 + 1 + 1] trivial (by decide) rfl (fun a ha => ?_) (fun q => ?_) (fun q => ?_)
  · rcases List.mem_cons.1 ha with rfl | ha
    · exact ⟨20, _, rfl, rfl⟩
    · obtain rfl := List.mem_singleton.1 ha
      exact ⟨8, _, rfl, rfl⟩
  · exact rfl
  · exact ⟨⟨.inr ⟨hn, rfl⟩, rfl, ⟨⟨rfl, trivial⟩, ⟨rfl, trivial⟩, ⟨rfl, trivial⟩, ⟨9, q, .inl ⟨0, rfl, rfl⟩, rfl⟩, ⟨rfl, trivial⟩, ⟨8, q + 1, .inl ⟨1, rfl, rfl⟩, rfl⟩, ⟨rfl, trivial⟩, rfl⟩, rfl⟩, ⟨.inl ⟨0, rfl, rfl⟩, rfl, renMLL_nf _ (nf_gd _ _)⟩, ⟨.inl ⟨1, rfl, rfl⟩, rfl, (renMLL_nf _ (by refine ⟨?_, trivial⟩; simp [nfL, nfD, nf_opt]))⟩, rfl⟩
set_option maxRecDepth 8000 in
set_option maxHeartbeats 4000000 in
theorem fromS_C (k0 k1 sz now : Int) (ms : List Gd) (n m i : Nat) (g : Sg) (t : Gd) (hm : ms[i]? = some t) (hl : ms.length ≤ 64) (ha : SegArg g) (hdl : 0 ≤ t.dl ∧ t.dl < 4294967296) (hf4 : hasF g 4 = false) (hop : t.op = false) (hf2 : hasF g 2 = true) (hf16 : hasF g 16 = true) (hak : g.ack = (t.seq + 1) % 4294967296) : MSpec Try.prog 18 [.ptr 0 n 7 0 0, .v (.int .i64 (i : Nat)), dG g] [oGu n k0 k1 sz now (.sl 1 m 9 0 ms.length false) nilS nilS, some ⟨m, 9, ms.map Gd.enc⟩] 2 (fun q d H => d = .tup [] ∧ H = [oGu n k0 k1 sz now (.sl 9 q 9 0 (butI i ms ++ [t.opened g now]).length false) nilS (.sl 8 (q + 1) 9 0 1 false), none, some ⟨q, 9, (butI i ms ++ [t.opened g now]).map Gd.enc⟩, some ⟨q + 1, 9, [(sgK g).encN]⟩]) := by
  obtain ⟨tfr, tto, tfp, ttp, tseq, tck, tdl, top, tat⟩ := t
  dsimp only at hop
  dsimp only at hak
  subst hop
  have hhd := heard_spec k0 k1 sz now ms n m i ⟨tfr, tto, tfp, ttp, tseq, tck, (tck - g.seq) % 4294967296, true, tat⟩ (List.getElem?_eq_some_iff.1 hm).1 hl
  have hlen : (ms.map Gd.enc).length = ms.length := List.length_map _
  have ex := xget_gd hm
  have hmv := move_spec g _ 0 ha.1 ha.2.1 ha.2.2.1 hdl (by decide) ha.2.2.2.1 ha.2.2.2.2
  have hlv := leaves_spec k0 k1 sz now ms n m i (List.getElem?_eq_some_iff.1 hm).1 hl
  have h4 := has_spec 0 n g 4
  have h2 := has_spec 0 n g 2
  have h16 := has_spec 0 n g 16
  have hi : i < ms.length := (List.getElem?_eq_some_iff.1 hm).1
  refine mspec_fn Try.func18 rfl ok_proxy_guard_fromServer okr_proxy_guard_fromServer rfl (by kernel_rfl) ?_
  intro Γ hW0 hN0 hL0
  clear hW0
  unfold x_proxy_guard_fromServer r_proxy_guard_fromServer
  have hn := hN0 0 _ rfl
  have hmg := hN0 1 _ rfl
  repeat' (first
    | (with_reducible first | refine go_seq ?_ | refine go_region ?_ | refine go_regionD mixed_ok ?_ | refine go_cond ?_ | refine go_skip ?_ | refine go_block ?_ | refine nx_code ?_ | refine nx_block ?_ | refine go_ret ?_ | refine nx_nil ?_ | refine go_exit ?_ | refine ex_code ?_ | refine ex_loop ?_ | refine ex_here ?_)
    | ((with_reducible refine ex_past ?_ ?_); (exact by decide))
    | ((with_reducible refine endD_intro ?_ ?_); (exact by kernel_rfl))
    | ((with_reducible refine runR_n ?_ ?_); exact auN)
    | (first | (simp only [hlen]) | (simp only [u32_mod]) | (with_reducible refine runR_call hmv ?_) | (with_reducible refine runR_call h4 ?_) | (with_reducible refine runR_call h2 ?_) | (with_reducible refine runR_call h16 ?_) | (simp only [hf4]) | (simp only [hf2]) | (simp only [hf16]) | (simp only [hop]) | (refine runR_callHH 0 1 (by decide) rfl rfl hlv (fun _ _ _ h => h) ?_) | (refine runR_callHHM 0 1 [20] (by decide) rfl rfl rfl hhd ?_))
    | (refine auD ?_)
    | (with_reducible refine runR_b (fun h => ?_) (fun h => ?_) <;> first | exact auH | simp only [h, runR_t, runR_f])
    | (with_reducible refine condK_bl ?_ ?_)
    | (with_reducible refine condK_b (fun h => ?_) (fun h => ?_) <;> first | exact auH | skip)
    | (first | (simp only [Int.toNat_natCast, Nat.zero_add, ex]) | (with_reducible refine runR_l ?_) | (refine runR_n ⟨.inl (by decide), by trivial, by trivial, by unfold room maxLen; decide⟩ ?_) | (refine runR_n ⟨by omega, by omega⟩ ?_) | fail))
  (all_goals first | exact auP | skip)
  refine ret_m [0, 1, 20, 10] [Γ.g0 + 3, Γ.g0 + 3 + 1 + 1] trivial (by decide) rfl (fun a ha => ?_) (fun q => ?_) (fun q => ?_)
  · rcases List.mem_cons.1 ha with rfl | ha
    · exact ⟨20, _, rfl, rfl⟩
    · obtain rfl := List.mem_singleton.1 ha
      exact ⟨10, _, rfl, rfl⟩
  · exact rfl
  · exact ⟨⟨.inr ⟨hn, rfl⟩, rfl, ⟨⟨rfl, trivial⟩, ⟨rfl, trivial⟩, ⟨rfl, trivial⟩, ⟨9, q, .inl ⟨0, rfl, rfl⟩, rfl⟩, ⟨rfl, trivial⟩, ⟨rfl, trivial⟩, ⟨8, q + 1, .inl ⟨1, rfl, rfl⟩, rfl⟩, rfl⟩, rfl⟩, ⟨.inl ⟨0, rfl, rfl⟩, rfl, renMLL_nf _ (nf_gd _ _)⟩, ⟨.inl ⟨1, rfl, rfl⟩, rfl, (renMLL_nf _ (by refine ⟨?_, trivial⟩; simp [nfL, nfD, nf_opt]))⟩, rfl⟩
set_option maxRecDepth 8000 in
set_option maxHeartbeats 4000000 in
theorem fromS_D1 (k0 k1 sz now : Int) (ms : List Gd) (n m i : Nat) (g : Sg) (t : Gd) (hm : ms[i]? = some t) (hl : ms.length ≤ 64) (ha : SegArg g) (hdl : 0 ≤ t.dl ∧ t.dl < 4294967296) (hf4 : hasF g 4 = false) (hop : t.op = true) (hf2 : hasF g 2 = true) : HSpec Try.prog 18 [.ptr 0 n 7 0 0, .v (.int .i64 (i : Nat)), dG g] [oGu n k0 k1 sz now (.sl 1 m 9 0 ms.length false) nilS nilS, some ⟨m, 9, ms.map Gd.enc⟩] (fun d H => d = .tup [] ∧ H = [oGu n k0 k1 sz now (.sl 1 m 9 0 ms.length false) nilS nilS, some ⟨m, 9, ms.map Gd.enc⟩]) := by
  have hlen : (ms.map Gd.enc).length = ms.length := List.length_map _
  have ex := xget_gd hm
  have hmv := move_spec g _ 0 ha.1 ha.2.1 ha.2.2.1 hdl (by decide) ha.2.2.2.1 ha.2.2.2.2
  have hlv := leaves_spec k0 k1 sz now ms n m i (List.getElem?_eq_some_iff.1 hm).1 hl
  have h4 := has_spec 0 n g 4
  have h2 := has_spec 0 n g 2
  have h16 := has_spec 0 n g 16
  have hi : i < ms.length := (List.getElem?_eq_some_iff.1 hm).1
  refine hspec_fn Try.func18 rfl ok_proxy_guard_fromServer okr_proxy_guard_fromServer rfl (by kernel_rfl) ?_
  intro Γ hW0 hN0 hL0
  clear hW0
  unfold x_proxy_guard_fromServer r_proxy_guard_fromServer
  have hn := hN0 0 _ rfl
  have hmg := hN0 1 _ rfl
  repeat' (first
    | (with_reducible first | refine go_seq ?_ | refine go_region ?_ | refine go_regionD mixed_ok ?_ | refine go_cond ?_ | refine go_skip ?_ | refine go_block ?_ | refine nx_code ?_ | refine nx_block ?_ | refine go_ret ?_ | refine nx_nil ?_ | refine go_exit ?_ | refine ex_code ?_ | refine ex_loop ?_ | refine ex_here ?_)
    | ((with_reducible refine ex_past ?_ ?_); (exact by decide))
    | ((with_reducible refine endD_intro ?_ ?_); (exact by kernel_rfl))
    | ((with_reducible refine runR_n ?_ ?_); exact auN)
    | (first | (simp only [hlen]) | (simp only [u32_mod]) | (with_reducible refine runR_call hmv ?_) | (with_reducible refine runR_call h4 ?_) | (with_reducible refine runR_call h2 ?_) | (with_reducible refine runR_call h16 ?_) | (simp only [hf4]) | (simp only [hf2]) | (simp only [hf16]) | (simp only [hop]) | (refine runR_callHH 0 1 (by decide) rfl rfl hlv (fun _ _ _ h => h) ?_) | (refine runR_callHHM 0 1 [20] (by decide) rfl rfl rfl hhd ?_))
    | (refine auD ?_)
    | (with_reducible refine runR_b (fun h => ?_) (fun h => ?_) <;> first | exact auH | simp only [h, runR_t, runR_f])
    | (with_reducible refine condK_bl ?_ ?_)
    | (with_reducible refine condK_b (fun h => ?_) (fun h => ?_) <;> first | exact auH | skip)
    | (first | (simp only [Int.toNat_natCast, Nat.zero_add, ex]) | (with_reducible refine runR_l ?_) | (refine runR_n ⟨.inl (by decide), by trivial, by trivial, by unfold room maxLen; decide⟩ ?_) | (refine runR_n ⟨by omega, by omega⟩ ?_) | fail))
  (all_goals first | exact auP | skip)
  refine ret_h2 trivial trivial rfl rfl hn ?_ hmg (nf_gd _ _)
  exact ⟨⟨trivial, trivial, trivial, hmg, trivial, trivial, trivial, trivial⟩, trivial⟩
set_option maxRecDepth 8000 in
set_option maxHeartbeats 4000000 in
theorem fromS_D2 (k0 k1 sz now : Int) (ms : List Gd) (n m i : Nat) (g : Sg) (t : Gd) (hm : ms[i]? = some t) (hl : ms.length ≤ 64) (ha : SegArg g) (hdl : 0 ≤ t.dl ∧ t.dl < 4294967296) (hf4 : hasF g 4 = false) (hop : t.op = false) (hf2 : hasF g 2 = false) : HSpec Try.prog 18 [.ptr 0 n 7 0 0, .v (.int .i64 (i : Nat)), dG g] [oGu n k0 k1 sz now (.sl 1 m 9 0 ms.length false) nilS nilS, some ⟨m, 9, ms.map Gd.enc⟩] (fun d H => d = .tup [] ∧ H = [oGu n k0 k1 sz now (.sl 1 m 9 0 ms.length false) nilS nilS, some ⟨m, 9, ms.map Gd.enc⟩]) := by
  have hlen : (ms.map Gd.enc).length = ms.length := List.length_map _
  have ex := xget_gd hm
  have hmv := move_spec g _ 0 ha.1 ha.2.1 ha.2.2.1 hdl (by decide) ha.2.2.2.1 ha.2.2.2.2
  have hlv := leaves_spec k0 k1 sz now ms n m i (List.getElem?_eq_some_iff.1 hm).1 hl
  have h4 := has_spec 0 n g 4
  have h2 := has_spec 0 n g 2
  have h16 := has_spec 0 n g 16
  have hi : i < ms.length := (List.getElem?_eq_some_iff.1 hm).1
  refine hspec_fn Try.func18 rfl ok_proxy_guard_fromServer okr_proxy_guard_fromServer rfl (by kernel_rfl) ?_
  intro Γ hW0 hN0 hL0
  clear hW0
  unfold x_proxy_guard_fromServer r_proxy_guard_fromServer
  have hn := hN0 0 _ rfl
  have hmg := hN0 1 _ rfl
  repeat' (first
    | (with_reducible first | refine go_seq ?_ | refine go_region ?_ | refine go_regionD mixed_ok ?_ | refine go_cond ?_ | refine go_skip ?_ | refine go_block ?_ | refine nx_code ?_ | refine nx_block ?_ | refine go_ret ?_ | refine nx_nil ?_ | refine go_exit ?_ | refine ex_code ?_ | refine ex_loop ?_ | refine ex_here ?_)
    | ((with_reducible refine ex_past ?_ ?_); (exact by decide))
    | ((with_reducible refine endD_intro ?_ ?_); (exact by kernel_rfl))
    | ((with_reducible refine runR_n ?_ ?_); exact auN)
    | (first | (simp only [hlen]) | (simp only [u32_mod]) | (with_reducible refine runR_call hmv ?_) | (with_reducible refine runR_call h4 ?_) | (with_reducible refine runR_call h2 ?_) | (with_reducible refine runR_call h16 ?_) | (simp only [hf4]) | (simp only [hf2]) | (simp only [hf16]) | (simp only [hop]) | (refine runR_callHH 0 1 (by decide) rfl rfl hlv (fun _ _ _ h => h) ?_) | (refine runR_callHHM 0 1 [20] (by decide) rfl rfl rfl hhd ?_))
    | (refine auD ?_)
    | (with_reducible refine runR_b (fun h => ?_) (fun h => ?_) <;> first | exact auH | simp only [h, runR_t, runR_f])
    | (with_reducible refine condK_bl ?_ ?_)
    | (with_reducible refine condK_b (fun h => ?_) (fun h => ?_) <;> first | exact auH | skip)
    | (first | (simp only [Int.toNat_natCast, Nat.zero_add, ex]) | (with_reducible refine runR_l ?_) | (refine runR_n ⟨.inl (by decide), by trivial, by trivial, by unfold room maxLen; decide⟩ ?_) | (refine runR_n ⟨by omega, by omega⟩ ?_) | fail))
  (all_goals first | exact auP | skip)
  refine ret_h2 trivial trivial rfl rfl hn ?_ hmg (nf_gd _ _)
  exact ⟨⟨trivial, trivial, trivial, hmg, trivial, trivial, trivial, trivial⟩, trivial⟩
set_option maxRecDepth 8000 in
set_option maxHeartbeats 4000000 in
theorem fromS_D3 (k0 k1 sz now : Int) (ms : List Gd) (n m i : Nat) (g : Sg) (t : Gd) (hm : ms[i]? = some t) (hl : ms.length ≤ 64) (ha : SegArg g) (hdl : 0 ≤ t.dl ∧ t.dl < 4294967296) (hf4 : hasF g 4 = false) (hop : t.op = false) (hf2 : hasF g 2 = true) (hf16 : hasF g 16 = false) : HSpec Try.prog 18 [.ptr 0 n 7 0 0, .v (.int .i64 (i : Nat)), dG g] [oGu n k0 k1 sz now (.sl 1 m 9 0 ms.length false) nilS nilS, some ⟨m, 9, ms.map Gd.enc⟩] (fun d H => d = .tup [] ∧ H = [oGu n k0 k1 sz now (.sl 1 m 9 0 ms.length false) nilS nilS, some ⟨m, 9, ms.map Gd.enc⟩]) := by
  have hlen : (ms.map Gd.enc).length = ms.length := List.length_map _
  have ex := xget_gd hm
  have hmv := move_spec g _ 0 ha.1 ha.2.1 ha.2.2.1 hdl (by decide) ha.2.2.2.1 ha.2.2.2.2
  have hlv := leaves_spec k0 k1 sz now ms n m i (List.getElem?_eq_some_iff.1 hm).1 hl
  have h4 := has_spec 0 n g 4
  have h2 := has_spec 0 n g 2
  have h16 := has_spec 0 n g 16
  have hi : i < ms.length := (List.getElem?_eq_some_iff.1 hm).1
  refine hspec_fn Try.func18 rfl ok_proxy_guard_fromServer okr_proxy_guard_fromServer rfl (by kernel_rfl) ?_
  intro Γ hW0 hN0 hL0
  clear hW0
  unfold x_proxy_guard_fromServer r_proxy_guard_fromServer
  have hn := hN0 0 _ rfl
  have hmg := hN0 1 _ rfl
  repeat' (first
    | (with_reducible first | refine go_seq ?_ | refine go_region ?_ | refine go_regionD mixed_ok ?_ | refine go_cond ?_ | refine go_skip ?_ | refine go_block ?_ | refine nx_code ?_ | refine nx_block ?_ | refine go_ret ?_ | refine nx_nil ?_ | refine go_exit ?_ | refine ex_code ?_ | refine ex_loop ?_ | refine ex_here ?_)
    | ((with_reducible refine ex_past ?_ ?_); (exact by decide))
    | ((with_reducible refine endD_intro ?_ ?_); (exact by kernel_rfl))
    | ((with_reducible refine runR_n ?_ ?_); exact auN)
    | (first | (simp only [hlen]) | (simp only [u32_mod]) | (with_reducible refine runR_call hmv ?_) | (with_reducible refine runR_call h4 ?_) | (with_reducible refine runR_call h2 ?_) | (with_reducible refine runR_call h16 ?_) | (simp only [hf4]) | (simp only [hf2]) | (simp only [hf16]) | (simp only [hop]) | (refine runR_callHH 0 1 (by decide) rfl rfl hlv (fun _ _ _ h => h) ?_) | (refine runR_callHHM 0 1 [20] (by decide) rfl rfl rfl hhd ?_))
    | (refine auD ?_)
    | (with_reducible refine runR_b (fun h => ?_) (fun h => ?_) <;> first | exact auH | simp only [h, runR_t, runR_f])
    | (with_reducible refine condK_bl ?_ ?_)
    | (with_reducible refine condK_b (fun h => ?_) (fun h => ?_) <;> first | exact auH | skip)
    | (first | (simp only [Int.toNat_natCast, Nat.zero_add, ex]) | (with_reducible refine runR_l ?_) | (refine runR_n ⟨.inl (by decide), by trivial, by trivial, by unfold room maxLen; decide⟩ ?_) | (refine runR_n ⟨by omega, by omega⟩ ?_) | fail))
  (all_goals first | exact auP | skip)
  refine ret_h2 trivial trivial rfl rfl hn ?_ hmg (nf_gd _ _)
  exact ⟨⟨trivial, trivial, trivial, hmg, trivial, trivial, trivial, trivial⟩, trivial⟩
set_option maxRecDepth 8000 in
set_option maxHeartbeats 4000000 in
theorem fromS_D4 (k0 k1 sz now : Int) (ms : List Gd) (n m i : Nat) (g : Sg) (t : Gd) (hm : ms[i]? = some t) (hl : ms.length ≤ 64) (ha : SegArg g) (hdl : 0 ≤ t.dl ∧ t.dl < 4294967296) (hf4 : hasF g 4 = false) (hop : t.op = false) (hf2 : hasF g 2 = true) (hf16 : hasF g 16 = true) (hak : ¬ g.ack = (t.seq + 1) % 4294967296) : HSpec Try.prog 18 [.ptr 0 n 7 0 0, .v (.int .i64 (i : Nat)), dG g] [oGu n k0 k1 sz now (.sl 1 m 9 0 ms.length false) nilS nilS, some ⟨m, 9, ms.map Gd.enc⟩] (fun d H => d = .tup [] ∧ H = [oGu n k0 k1 sz now (.sl 1 m 9 0 ms.length false) nilS nilS, some ⟨m, 9, ms.map Gd.enc⟩]) := by
  have hlen : (ms.map Gd.enc).length = ms.length := List.length_map _
  have ex := xget_gd hm
  have hmv := move_spec g _ 0 ha.1 ha.2.1 ha.2.2.1 hdl (by decide) ha.2.2.2.1 ha.2.2.2.2
  have hlv := leaves_spec k0 k1 sz now ms n m i (List.getElem?_eq_some_iff.1 hm).1 hl
  have h4 := has_spec 0 n g 4
  have h2 := has_spec 0 n g 2
  have h16 := has_spec 0 n g 16
  have hi : i < ms.length := (List.getElem?_eq_some_iff.1 hm).1
  refine hspec_fn Try.func18 rfl ok_proxy_guard_fromServer okr_proxy_guard_fromServer rfl (by kernel_rfl) ?_
  intro Γ hW0 hN0 hL0
  clear hW0
  unfold x_proxy_guard_fromServer r_proxy_guard_fromServer
  have hn := hN0 0 _ rfl
  have hmg := hN0 1 _ rfl
  repeat' (first
    | (with_reducible first | refine go_seq ?_ | refine go_region ?_ | refine go_regionD mixed_ok ?_ | refine go_cond ?_ | refine go_skip ?_ | refine go_block ?_ | refine nx_code ?_ | refine nx_block ?_ | refine go_ret ?_ | refine nx_nil ?_ | refine go_exit ?_ | refine ex_code ?_ | refine ex_loop ?_ | refine ex_here ?_)
    | ((with_reducible refine ex_past ?_ ?_); (exact by decide))
    | ((with_reducible refine endD_intro ?_ ?_); (exact by kernel_rfl))
    | ((with_reducible refine runR_n ?_ ?_); exact auN)
    | (first | (simp only [hlen]) | (simp only [u32_mod]) | (with_reducible refine runR_call hmv ?_) | (with_reducible refine runR_call h4 ?_) | (with_reducible refine runR_call h2 ?_) | (with_reducible refine runR_call h16 ?_) | (simp only [hf4]) | (simp only [hf2]) | (simp only [hf16]) | (simp only [hop]) | (refine runR_callHH 0 1 (by decide) rfl rfl hlv (fun _ _ _ h => h) ?_) | (refine runR_callHHM 0 1 [20] (by decide) rfl rfl rfl hhd ?_))
    | (refine auD ?_)
    | (with_reducible refine runR_b (fun h => ?_) (fun h => ?_) <;> first | exact auH | simp only [h, runR_t, runR_f])
    | (with_reducible refine condK_bl ?_ ?_)
    | (with_reducible refine condK_b (fun h => ?_) (fun h => ?_) <;> first | exact auH | skip)
    | (first | (simp only [Int.toNat_natCast, Nat.zero_add, ex]) | (with_reducible refine runR_l ?_) | (refine runR_n ⟨.inl (by decide), by trivial, by trivial, by unfold room maxLen; decide⟩ ?_) | (refine runR_n ⟨by omega, by omega⟩ ?_) | fail))
  (all_goals first | exact auP | skip)
  refine ret_h2 trivial trivial rfl rfl hn ?_ hmg (nf_gd _ _)
  exact ⟨⟨trivial, trivial, trivial, hmg, trivial, trivial, trivial, trivial⟩, trivial⟩
end Go.Proofs.Ytegejpieedckiaa
