/-
  A guard at work: it asks a server; what comes of a client in a talk.
-/
import Derived.Test.YtegejpieedckiaaProxN
import Derived.Test.YtegejpieedckiaaTcpY
namespace Go.Proofs.Ytegejpieedckiaa
set_option linter.unusedVariables false
set_option linter.unusedSimpArgs false
/-- A segment as it is laid; with this flag of the row of its options. -/
abbrev Sg.encC (c : Bool) (g : Sg) : List DV := [.v (.int .i64 g.fr), .v (.int .i64 g.to), .v (.int .u32 g.seq), .v (.int .u32 g.ack), .v (.int .i64 g.flags), .v (.int .i64 g.win), .v (.int .i64 g.urg), .snap 2 (g.opts.map Op2.enc) c, .v (.string (ByteArray.mk #[]))]
abbrev sgAsk (t : Gd) (size : Int) : Sg := ⟨t.fp, t.tp, t.seq, 0, 2, 65535, 0, [⟨2, wd size⟩], []⟩
abbrev sgSyn (sz : Int) (g : Sg) (c : Int) : Sg := ⟨g.to, g.fr, c, (g.seq + 1) % 4294967296, 18, 65535, 0, [⟨2, wd sz⟩], []⟩
abbrev sgRst (g : Sg) : Sg := ⟨g.to, g.fr, g.ack, 0, 4, 0, 0, [], []⟩
theorem mss_own (n : Int) : Spec Try.prog 59 [.v (.int .i64 n)] (.snap 2 ([(⟨2, wd n⟩ : Op2)].map Op2.enc) true) := by
  have h1 : n.fdiv (2 ^ 8) = n / 256 := Int.fdiv_eq_ediv_of_nonneg _ (by decide)
  have hs : strOf [[.v (.int .u8 (IntKind.u8.wrap (n / 256)))], [.v (.int .u8 (IntKind.u8.wrap n))]] = mkS (wd n) := by rw [strOf2, u8_wrap, u8_wrap]; rfl
  refine hspec_fn Try.func59 rfl ok_proxy_mss okr_proxy_mss rfl (by kernel_rfl) ?_
  intro Γ hW0 hN0 hL0
  have hW := hW0 rfl
  clear hW0 hN0 hL0
  unfold x_proxy_mss r_proxy_mss
  refine auC ?_
  repeat' (first
    | (refine auS ?_)
    | (simp only [min8, h1, hs])
    | (refine auD ?_)
    | (with_reducible refine runR_b (fun h => ?_) (fun h => ?_) <;> first | exact auH | simp only [h, runR_t, runR_f])
    | (with_reducible refine condK_bl ?_ ?_)
    | (with_reducible refine condK_b (fun h => ?_) (fun h => ?_) <;> first | exact auH | skip)
    | fail)
  (all_goals first | exact auP | skip)
  refine retq_le (leG_freeze hW ⟨.d0, .d0, .d2⟩ rfl rfl ⟨rfl, rfl, Nat.le_refl _⟩) ?_
  simp only [one_row]
  all_goals refine auF ?_
  all_goals (try first | refine auR ?_ | exact auR0)
  all_goals (try simp only [hsM] at *)
  all_goals rfl
set_option maxRecDepth 8000 in
set_option maxHeartbeats 2000000 in
theorem ask_spec (k0 k1 sz now size : Int) (ms : List Gd) (lb n m : Nat) (t : Gd) : MSpec Try.prog 55 [.ptr 0 n 7 0 0, .agg t.enc, .v (.int .i64 size)] [oGu n k0 k1 sz now (.sl lb m 9 0 ms.length false) nilS nilS, some ⟨m, 9, ms.map Gd.enc⟩] 1 (fun q d H => d = .tup [] ∧ H = [oGu n k0 k1 sz now (.sl lb m 9 0 ms.length false) nilS (.sl 8 q 9 0 1 false), some ⟨m, 9, ms.map Gd.enc⟩, some ⟨q, 9, [(sgAsk t size).encC true]⟩]) := by
  have hm := mss_own size
  refine mspec_fn Try.func55 rfl ok_proxy_guard_ask okr_proxy_guard_ask rfl (by kernel_rfl) ?_
  intro Γ hW0 hN0 hL0
  clear hW0
  unfold x_proxy_guard_ask r_proxy_guard_ask
  refine auC ?_
  have hn := hN0 0 _ rfl
  have hmg := hN0 1 _ rfl
  repeat' (first
    | (refine auS ?_)
    | (first | (simp only [nilS]) | (with_reducible refine runR_call hm ?_))
    | (refine auD ?_)
    | (with_reducible refine runR_b (fun h => ?_) (fun h => ?_) <;> first | exact auH | simp only [h, runR_t, runR_f])
    | (with_reducible refine condK_bl ?_ ?_)
    | (with_reducible refine condK_b (fun h => ?_) (fun h => ?_) <;> first | exact auH | skip)
    | (first | (with_reducible refine runR_l ?_) | (refine runR_n ⟨.inl (by decide), by trivial, by trivial, by unfold room maxLen; decide⟩ ?_) | fail))
  (all_goals first | exact auP | skip)
  refine ret_m [0, 1, 4] [Γ.g0 + 2] trivial (by decide) rfl (fun a ha => ?_) (fun q => ?_) (fun q => ?_)
  · obtain rfl := List.mem_singleton.1 ha
    exact ⟨4, _, rfl, rfl⟩
  · exact rfl
  · exact ⟨⟨.inr ⟨hn, rfl⟩, rfl, ⟨⟨rfl, trivial⟩, ⟨rfl, trivial⟩, ⟨rfl, trivial⟩, ⟨lb, m, .inr ⟨hmg, rfl⟩, rfl⟩, ⟨rfl, trivial⟩, ⟨rfl, trivial⟩, ⟨8, q, .inl ⟨0, rfl, rfl⟩, rfl⟩, rfl⟩, rfl⟩, ⟨.inr ⟨hmg, rfl⟩, rfl, renMLL_nf _ (nf_gd _ _)⟩, ⟨.inl ⟨0, rfl, rfl⟩, rfl, renMLL_nf _ (by refine ⟨?_, trivial⟩; simp [nfL, nfD, nfLL])⟩, rfl⟩
set_option maxRecDepth 8000 in
set_option maxHeartbeats 4000000 in
theorem fromC_A (k0 k1 sz now : Int) (ms : List Gd) (n m i : Nat) (g : Sg) (t : Gd) (hm : ms[i]? = some t) (hl : ms.length ≤ 64) (ha : SegArg g) (hdl : 0 ≤ t.dl ∧ t.dl < 4294967296) (hf4 : hasF g 4 = true) (hop : t.op = true) : MSpec Try.prog 29 [.ptr 0 n 7 0 0, .v (.int .i64 (i : Nat)), dG g] [oGu n k0 k1 sz now (.sl 1 m 9 0 ms.length false) nilS nilS, some ⟨m, 9, ms.map Gd.enc⟩] 1 (fun q d H => d = .tup [] ∧ H = [oGu n k0 k1 sz now (.sl 1 m 9 0 (butI i ms).length false) nilS (.sl 8 q 9 0 1 false), some ⟨m, 9, (butI i ms).map Gd.enc⟩, some ⟨q, 9, [(mvd g 0 ((0 - t.dl) % 4294967296)).enc]⟩]) := by
  have hlen : (ms.map Gd.enc).length = ms.length := List.length_map _
  have ex := xget_gd hm
  have hmv := move_spec g 0 ((0 - t.dl) % 4294967296) ha.1 ha.2.1 ha.2.2.1 (by decide) (by omega) ha.2.2.2.1 ha.2.2.2.2
  have hlv := leaves_spec k0 k1 sz now ms n m i (List.getElem?_eq_some_iff.1 hm).1 hl
  have has := ask_spec k0 k1 sz now 536 ms 1 n m t
  have hng : IntKind.u32.wrap (0 - t.dl) = (0 - t.dl) % 4294967296 := u32_mod _
  have h4 := has_spec 0 n g 4
  have h2 := has_spec 0 n g 2
  have h16 := has_spec 0 n g 16
  have hi : i < ms.length := (List.getElem?_eq_some_iff.1 hm).1
  refine mspec_fn Try.func29 rfl ok_proxy_guard_fromClient okr_proxy_guard_fromClient rfl (by kernel_rfl) ?_
  intro Γ hW0 hN0 hL0
  clear hW0
  unfold x_proxy_guard_fromClient r_proxy_guard_fromClient
  refine auC ?_
  have hn := hN0 0 _ rfl
  have hmg := hN0 1 _ rfl
  repeat' (first
    | (refine auS ?_)
    | (first | (simp only [hlen]) | (simp only [hng]) | (with_reducible refine runR_call hmv ?_) | (with_reducible refine runR_call h4 ?_) | (with_reducible refine runR_call h2 ?_) | (with_reducible refine runR_call h16 ?_) | (simp only [hf4]) | (simp only [hf2]) | (simp only [hf16]) | (simp only [hop]) | (refine runR_callHH 0 1 (by decide) rfl rfl hlv (fun _ _ _ h => h) ?_) | (refine runR_callHHM 0 1 [20] (by decide) rfl rfl rfl hhd ?_) | (refine runR_callHHM 0 1 [21] (by decide) rfl rfl rfl has ?_))
    | (refine auD ?_)
    | (with_reducible refine runR_b (fun h => ?_) (fun h => ?_) <;> first | exact auH | simp only [h, runR_t, runR_f])
    | (with_reducible refine condK_bl ?_ ?_)
    | (with_reducible refine condK_b (fun h => ?_) (fun h => ?_) <;> first | exact auH | skip)
    | (first | (simp only [Int.toNat_natCast, Nat.zero_add, ex]) | (with_reducible refine runR_l ?_) | (refine runR_n ⟨.inl (by decide), by trivial, by trivial, by unfold room maxLen; decide⟩ ?_) | (refine runR_n ⟨by omega, by omega⟩ ?_) | fail))
  (all_goals first | exact auP | skip)
  refine ret_m [0, 1, 6] [Γ.g0 + 3 + 1] trivial (by decide) rfl (fun a ha => ?_) (fun q => ?_) (fun q => ?_)
  · obtain rfl := List.mem_singleton.1 ha
    exact ⟨6, _, rfl, rfl⟩
  · exact rfl
  · exact ⟨⟨.inr ⟨hn, rfl⟩, rfl, ⟨⟨rfl, trivial⟩, ⟨rfl, trivial⟩, ⟨rfl, trivial⟩, ⟨1, m, .inr ⟨hmg, rfl⟩, rfl⟩, ⟨rfl, trivial⟩, ⟨rfl, trivial⟩, ⟨8, q, .inl ⟨0, rfl, rfl⟩, rfl⟩, rfl⟩, rfl⟩, ⟨.inr ⟨hmg, rfl⟩, rfl, renMLL_nf _ (nf_gd _ _)⟩, ⟨.inl ⟨0, rfl, rfl⟩, rfl, renMLL_nf _ (by refine ⟨?_, trivial⟩; simp [nfL, nfD, nfLL, nf_opt])⟩, rfl⟩
set_option maxRecDepth 8000 in
set_option maxHeartbeats 4000000 in
theorem fromC_A2 (k0 k1 sz now : Int) (ms : List Gd) (n m i : Nat) (g : Sg) (t : Gd) (hm : ms[i]? = some t) (hl : ms.length ≤ 64) (ha : SegArg g) (hdl : 0 ≤ t.dl ∧ t.dl < 4294967296) (hf4 : hasF g 4 = true) (hop : t.op = false) : HSpec Try.prog 29 [.ptr 0 n 7 0 0, .v (.int .i64 (i : Nat)), dG g] [oGu n k0 k1 sz now (.sl 1 m 9 0 ms.length false) nilS nilS, some ⟨m, 9, ms.map Gd.enc⟩] (fun d H => d = .tup [] ∧ H = [oGu n k0 k1 sz now (.sl 1 m 9 0 (butI i ms).length false) nilS nilS, some ⟨m, 9, (butI i ms).map Gd.enc⟩]) := by
  have hlen : (ms.map Gd.enc).length = ms.length := List.length_map _
  have ex := xget_gd hm
  have hmv := move_spec g 0 ((0 - t.dl) % 4294967296) ha.1 ha.2.1 ha.2.2.1 (by decide) (by omega) ha.2.2.2.1 ha.2.2.2.2
  have hlv := leaves_spec k0 k1 sz now ms n m i (List.getElem?_eq_some_iff.1 hm).1 hl
  have has := ask_spec k0 k1 sz now 536 ms 1 n m t
  have hng : IntKind.u32.wrap (0 - t.dl) = (0 - t.dl) % 4294967296 := u32_mod _
  have h4 := has_spec 0 n g 4
  have h2 := has_spec 0 n g 2
  have h16 := has_spec 0 n g 16
  have hi : i < ms.length := (List.getElem?_eq_some_iff.1 hm).1
  refine hspec_fn Try.func29 rfl ok_proxy_guard_fromClient okr_proxy_guard_fromClient rfl (by kernel_rfl) ?_
  intro Γ hW0 hN0 hL0
  clear hW0
  unfold x_proxy_guard_fromClient r_proxy_guard_fromClient
  refine auC ?_
  have hn := hN0 0 _ rfl
  have hmg := hN0 1 _ rfl
  repeat' (first
    | (refine auS ?_)
    | (first | (simp only [hlen]) | (simp only [hng]) | (with_reducible refine runR_call hmv ?_) | (with_reducible refine runR_call h4 ?_) | (with_reducible refine runR_call h2 ?_) | (with_reducible refine runR_call h16 ?_) | (simp only [hf4]) | (simp only [hf2]) | (simp only [hf16]) | (simp only [hop]) | (refine runR_callHH 0 1 (by decide) rfl rfl hlv (fun _ _ _ h => h) ?_) | (refine runR_callHHM 0 1 [20] (by decide) rfl rfl rfl hhd ?_) | (refine runR_callHHM 0 1 [21] (by decide) rfl rfl rfl has ?_))
    | (refine auD ?_)
    | (with_reducible refine runR_b (fun h => ?_) (fun h => ?_) <;> first | exact auH | simp only [h, runR_t, runR_f])
    | (with_reducible refine condK_bl ?_ ?_)
    | (with_reducible refine condK_b (fun h => ?_) (fun h => ?_) <;> first | exact auH | skip)
    | (first | (simp only [Int.toNat_natCast, Nat.zero_add, ex]) | (with_reducible refine runR_l ?_) | (refine runR_n ⟨.inl (by decide), by trivial, by trivial, by unfold room maxLen; decide⟩ ?_) | (refine runR_n ⟨by omega, by omega⟩ ?_) | fail))
  (all_goals first | exact auP | skip)
  refine ret_h2 trivial trivial rfl rfl hn ?_ hmg (nf_gd _ _)
  exact ⟨⟨trivial, trivial, trivial, hmg, trivial, trivial, trivial, trivial⟩, trivial⟩
set_option maxRecDepth 8000 in
set_option maxHeartbeats 4000000 in
theorem fromC_B (k0 k1 sz now : Int) (ms : List Gd) (n m i : Nat) (g : Sg) (t : Gd) (hm : ms[i]? = some t) (hl : ms.length ≤ 64) (ha : SegArg g) (hdl : 0 ≤ t.dl ∧ t.dl < 4294967296) (hf4 : hasF g 4 = false) (hf2 : hasF g 2 = true) : HSpec Try.prog 29 [.ptr 0 n 7 0 0, .v (.int .i64 (i : Nat)), dG g] [oGu n k0 k1 sz now (.sl 1 m 9 0 ms.length false) nilS nilS, some ⟨m, 9, ms.map Gd.enc⟩] (fun d H => d = .tup [] ∧ H = [oGu n k0 k1 sz now (.sl 1 m 9 0 ms.length false) nilS nilS, some ⟨m, 9, ms.map Gd.enc⟩]) := by
  have hlen : (ms.map Gd.enc).length = ms.length := List.length_map _
  have ex := xget_gd hm
  have hmv := move_spec g 0 ((0 - t.dl) % 4294967296) ha.1 ha.2.1 ha.2.2.1 (by decide) (by omega) ha.2.2.2.1 ha.2.2.2.2
  have hlv := leaves_spec k0 k1 sz now ms n m i (List.getElem?_eq_some_iff.1 hm).1 hl
  have has := ask_spec k0 k1 sz now 536 ms 1 n m t
  have hng : IntKind.u32.wrap (0 - t.dl) = (0 - t.dl) % 4294967296 := u32_mod _
  have h4 := has_spec 0 n g 4
  have h2 := has_spec 0 n g 2
  have h16 := has_spec 0 n g 16
  have hi : i < ms.length := (List.getElem?_eq_some_iff.1 hm).1
  refine hspec_fn Try.func29 rfl ok_proxy_guard_fromClient okr_proxy_guard_fromClient rfl (by kernel_rfl) ?_
  intro Γ hW0 hN0 hL0
  clear hW0
  unfold x_proxy_guard_fromClient r_proxy_guard_fromClient
  refine auC ?_
  have hn := hN0 0 _ rfl
  have hmg := hN0 1 _ rfl
  repeat' (first
    | (refine auS ?_)
    | (first | (simp only [hlen]) | (simp only [hng]) | (with_reducible refine runR_call hmv ?_) | (with_reducible refine runR_call h4 ?_) | (with_reducible refine runR_call h2 ?_) | (with_reducible refine runR_call h16 ?_) | (simp only [hf4]) | (simp only [hf2]) | (simp only [hf16]) | (simp only [hop]) | (refine runR_callHH 0 1 (by decide) rfl rfl hlv (fun _ _ _ h => h) ?_) | (refine runR_callHHM 0 1 [20] (by decide) rfl rfl rfl hhd ?_) | (refine runR_callHHM 0 1 [21] (by decide) rfl rfl rfl has ?_))
    | (refine auD ?_)
    | (with_reducible refine runR_b (fun h => ?_) (fun h => ?_) <;> first | exact auH | simp only [h, runR_t, runR_f])
    | (with_reducible refine condK_bl ?_ ?_)
    | (with_reducible refine condK_b (fun h => ?_) (fun h => ?_) <;> first | exact auH | skip)
    | (first | (simp only [Int.toNat_natCast, Nat.zero_add, ex]) | (with_reducible refine runR_l ?_) | (refine runR_n ⟨.inl (by decide), by trivial, by trivial, by unfold room maxLen; decide⟩ ?_) | (refine runR_n ⟨by omega, by omega⟩ ?_) | fail))
  (all_goals first | exact auP | skip)
  refine ret_h2 trivial trivial rfl rfl hn ?_ hmg (nf_gd _ _)
  exact ⟨⟨trivial, trivial, trivial, hmg, trivial, trivial, trivial, trivial⟩, trivial⟩
set_option maxRecDepth 8000 in
set_option maxHeartbeats 4000000 in
theorem fromC_E (k0 k1 sz now : Int) (ms : List Gd) (n m i : Nat) (g : Sg) (t : Gd) (hm : ms[i]? = some t) (hl : ms.length ≤ 64) (ha : SegArg g) (hdl : 0 ≤ t.dl ∧ t.dl < 4294967296) (hf4 : hasF g 4 = false) (hf2 : hasF g 2 = false) (hop : t.op = false) (hf16 : hasF g 16 = false) : HSpec Try.prog 29 [.ptr 0 n 7 0 0, .v (.int .i64 (i : Nat)), dG g] [oGu n k0 k1 sz now (.sl 1 m 9 0 ms.length false) nilS nilS, some ⟨m, 9, ms.map Gd.enc⟩] (fun d H => d = .tup [] ∧ H = [oGu n k0 k1 sz now (.sl 1 m 9 0 ms.length false) nilS nilS, some ⟨m, 9, ms.map Gd.enc⟩]) := by
  have hlen : (ms.map Gd.enc).length = ms.length := List.length_map _
  have ex := xget_gd hm
  have hmv := move_spec g 0 ((0 - t.dl) % 4294967296) ha.1 ha.2.1 ha.2.2.1 (by decide) (by omega) ha.2.2.2.1 ha.2.2.2.2
  have hlv := leaves_spec k0 k1 sz now ms n m i (List.getElem?_eq_some_iff.1 hm).1 hl
  have has := ask_spec k0 k1 sz now 536 ms 1 n m t
  have hng : IntKind.u32.wrap (0 - t.dl) = (0 - t.dl) % 4294967296 := u32_mod _
  have h4 := has_spec 0 n g 4
  have h2 := has_spec 0 n g 2
  have h16 := has_spec 0 n g 16
  have hi : i < ms.length := (List.getElem?_eq_some_iff.1 hm).1
  refine hspec_fn Try.func29 rfl ok_proxy_guard_fromClient okr_proxy_guard_fromClient rfl (by kernel_rfl) ?_
  intro Γ hW0 hN0 hL0
  clear hW0
  unfold x_proxy_guard_fromClient r_proxy_guard_fromClient
  refine auC ?_
  have hn := hN0 0 _ rfl
  have hmg := hN0 1 _ rfl
  repeat' (first
    | (refine auS ?_)
    | (first | (simp only [hlen]) | (simp only [hng]) | (with_reducible refine runR_call hmv ?_) | (with_reducible refine runR_call h4 ?_) | (with_reducible refine runR_call h2 ?_) | (with_reducible refine runR_call h16 ?_) | (simp only [hf4]) | (simp only [hf2]) | (simp only [hf16]) | (simp only [hop]) | (refine runR_callHH 0 1 (by decide) rfl rfl hlv (fun _ _ _ h => h) ?_) | (refine runR_callHHM 0 1 [20] (by decide) rfl rfl rfl hhd ?_) | (refine runR_callHHM 0 1 [21] (by decide) rfl rfl rfl has ?_))
    | (refine auD ?_)
    | (with_reducible refine runR_b (fun h => ?_) (fun h => ?_) <;> first | exact auH | simp only [h, runR_t, runR_f])
    | (with_reducible refine condK_bl ?_ ?_)
    | (with_reducible refine condK_b (fun h => ?_) (fun h => ?_) <;> first | exact auH | skip)
    | (first | (simp only [Int.toNat_natCast, Nat.zero_add, ex]) | (with_reducible refine runR_l ?_) | (refine runR_n ⟨.inl (by decide), by trivial, by trivial, by unfold room maxLen; decide⟩ ?_) | (refine runR_n ⟨by omega, by omega⟩ ?_) | fail))
  (all_goals first | exact auP | skip)
  refine ret_h2 trivial trivial rfl rfl hn ?_ hmg (nf_gd _ _)
  exact ⟨⟨trivial, trivial, trivial, hmg, trivial, trivial, trivial, trivial⟩, trivial⟩
set_option maxRecDepth 8000 in
set_option maxHeartbeats 4000000 in
theorem fromC_D (k0 k1 sz now : Int) (ms : List Gd) (n m i : Nat) (g : Sg) (t : Gd) (hm : ms[i]? = some t) (hl : ms.length ≤ 64) (ha : SegArg g) (hdl : 0 ≤ t.dl ∧ t.dl < 4294967296) (hf4 : hasF g 4 = false) (hf2 : hasF g 2 = false) (hop : t.op = false) (hf16 : hasF g 16 = true) : MSpec Try.prog 29 [.ptr 0 n 7 0 0, .v (.int .i64 (i : Nat)), dG g] [oGu n k0 k1 sz now (.sl 1 m 9 0 ms.length false) nilS nilS, some ⟨m, 9, ms.map Gd.enc⟩] 1 (fun q d H => d = .tup [] ∧ H = [oGu n k0 k1 sz now (.sl 1 m 9 0 ms.length false) nilS (.sl 8 q 9 0 1 false), some ⟨m, 9, ms.map Gd.enc⟩, some ⟨q, 9, [(sgAsk t 536).encC true]⟩]) := by
  obtain ⟨tfr, tto, tfp, ttp, tseq, tck, tdl, top, tat⟩ := t
  dsimp only at hop
  subst hop
  have hlen : (ms.map Gd.enc).length = ms.length := List.length_map _
  have ex := xget_gd hm
  have hmv := move_spec g 0 ((0 - tdl) % 4294967296) ha.1 ha.2.1 ha.2.2.1 (by decide) (by omega) ha.2.2.2.1 ha.2.2.2.2
  have hlv := leaves_spec k0 k1 sz now ms n m i (List.getElem?_eq_some_iff.1 hm).1 hl
  have has := ask_spec k0 k1 sz now 536 ms 1 n m ⟨tfr, tto, tfp, ttp, tseq, tck, tdl, false, tat⟩
  have hng : IntKind.u32.wrap (0 - tdl) = (0 - tdl) % 4294967296 := u32_mod _
  have h4 := has_spec 0 n g 4
  have h2 := has_spec 0 n g 2
  have h16 := has_spec 0 n g 16
  have hi : i < ms.length := (List.getElem?_eq_some_iff.1 hm).1
  refine mspec_fn Try.func29 rfl ok_proxy_guard_fromClient okr_proxy_guard_fromClient rfl (by kernel_rfl) ?_
  intro Γ hW0 hN0 hL0
  clear hW0
  unfold x_proxy_guard_fromClient r_proxy_guard_fromClient
  refine auC ?_
  have hn := hN0 0 _ rfl
  have hmg := hN0 1 _ rfl
  repeat' (first
    | (refine auS ?_)
    | (first | (simp only [hlen]) | (simp only [hng]) | (with_reducible refine runR_call hmv ?_) | (with_reducible refine runR_call h4 ?_) | (with_reducible refine runR_call h2 ?_) | (with_reducible refine runR_call h16 ?_) | (simp only [hf4]) | (simp only [hf2]) | (simp only [hf16]) | (simp only [hop]) | (refine runR_callHH 0 1 (by decide) rfl rfl hlv (fun _ _ _ h => h) ?_) | (refine runR_callHHM 0 1 [20] (by decide) rfl rfl rfl hhd ?_) | (refine runR_callHHM 0 1 [21] (by decide) rfl rfl rfl has ?_))
    | (refine auD ?_)
    | (with_reducible refine runR_b (fun h => ?_) (fun h => ?_) <;> first | exact auH | simp only [h, runR_t, runR_f])
    | (with_reducible refine condK_bl ?_ ?_)
    | (with_reducible refine condK_b (fun h => ?_) (fun h => ?_) <;> first | exact auH | skip)
    | (first | (simp only [Int.toNat_natCast, Nat.zero_add, ex]) | (with_reducible refine runR_l ?_) | (refine runR_n ⟨.inl (by decide), by trivial, by trivial, by unfold room maxLen; decide⟩ ?_) | (refine runR_n ⟨by omega, by omega⟩ ?_) | fail))
  (all_goals first | exact auP | skip)
  refine ret_m [0, 1, 21] [Γ.g0 + 3] trivial (by decide) rfl (fun a ha => ?_) (fun q => ?_) (fun q => ?_)
  · obtain rfl := List.mem_singleton.1 ha
    exact ⟨21, _, rfl, rfl⟩
  · exact rfl
  · exact ⟨⟨.inr ⟨hn, rfl⟩, rfl, ⟨⟨rfl, trivial⟩, ⟨rfl, trivial⟩, ⟨rfl, trivial⟩, ⟨1, m, .inr ⟨hmg, rfl⟩, rfl⟩, ⟨rfl, trivial⟩, ⟨rfl, trivial⟩, ⟨8, q, .inl ⟨0, rfl, rfl⟩, rfl⟩, rfl⟩, rfl⟩, ⟨.inr ⟨hmg, rfl⟩, rfl, renMLL_nf _ (nf_gd _ _)⟩, ⟨.inl ⟨0, rfl, rfl⟩, rfl, renMLL_nf _ (by refine ⟨?_, trivial⟩; simp [nfL, nfD, nfLL, nf_opt])⟩, rfl⟩
set_option maxRecDepth 8000 in
set_option maxHeartbeats 4000000 in
theorem fromC_C (k0 k1 sz now : Int) (ms : List Gd) (n m i : Nat) (g : Sg) (t : Gd) (hm : ms[i]? = some t) (hl : ms.length ≤ 64) (ha : SegArg g) (hdl : 0 ≤ t.dl ∧ t.dl < 4294967296) (hf4 : hasF g 4 = false) (hf2 : hasF g 2 = false) (hop : t.op = true) : MSpec Try.prog 29 [.ptr 0 n 7 0 0, .v (.int .i64 (i : Nat)), dG g] [oGu n k0 k1 sz now (.sl 1 m 9 0 ms.length false) nilS nilS, some ⟨m, 9, ms.map Gd.enc⟩] 2 (fun q d H => d = .tup [] ∧ H = [oGu n k0 k1 sz now (.sl 9 q 9 0 (butI i ms ++ [t.heardAt now]).length false) nilS (.sl 8 (q + 1) 9 0 1 false), none, some ⟨q, 9, (butI i ms ++ [t.heardAt now]).map Gd.enc⟩, some ⟨q + 1, 9, [(mvd g 0 ((0 - t.dl) % 4294967296)).enc]⟩]) := by
  obtain ⟨tfr, tto, tfp, ttp, tseq, tck, tdl, top, tat⟩ := t
  dsimp only at hop
  subst hop
  have hhd := heard_spec k0 k1 sz now ms n m i ⟨tfr, tto, tfp, ttp, tseq, tck, tdl, true, tat⟩ (List.getElem?_eq_some_iff.1 hm).1 hl
  have hlen : (ms.map Gd.enc).length = ms.length := List.length_map _
  have ex := xget_gd hm
  have hmv := move_spec g 0 ((0 - tdl) % 4294967296) ha.1 ha.2.1 ha.2.2.1 (by decide) (by omega) ha.2.2.2.1 ha.2.2.2.2
  have hlv := leaves_spec k0 k1 sz now ms n m i (List.getElem?_eq_some_iff.1 hm).1 hl
  have has := ask_spec k0 k1 sz now 536 ms 1 n m ⟨tfr, tto, tfp, ttp, tseq, tck, tdl, true, tat⟩
  have hng : IntKind.u32.wrap (0 - tdl) = (0 - tdl) % 4294967296 := u32_mod _
  have h4 := has_spec 0 n g 4
  have h2 := has_spec 0 n g 2
  have h16 := has_spec 0 n g 16
  have hi : i < ms.length := (List.getElem?_eq_some_iff.1 hm).1
  refine mspec_fn Try.func29 rfl ok_proxy_guard_fromClient okr_proxy_guard_fromClient rfl (by kernel_rfl) ?_
  intro Γ hW0 hN0 hL0
  clear hW0
  unfold x_proxy_guard_fromClient r_proxy_guard_fromClient
  refine auC ?_
  have hn := hN0 0 _ rfl
  have hmg := hN0 1 _ rfl
  repeat' (first
    | (refine auS ?_)
    | (first | (simp only [hlen]) | (simp only [hng]) | (with_reducible refine runR_call hmv ?_) | (with_reducible refine runR_call h4 ?_) | (with_reducible refine runR_call h2 ?_) | (with_reducible refine runR_call h16 ?_) | (simp only [hf4]) | (simp only [hf2]) | (simp only [hf16]) | (simp only [hop]) | (refine runR_callHH 0 1 (by decide) rfl rfl hlv (fun _ _ _ h => h) ?_) | (refine runR_callHHM 0 1 [20] (by decide) rfl rfl rfl hhd ?_) | (refine runR_callHHM 0 1 [21] (by decide) rfl rfl rfl has ?_))
    | (refine auD ?_)
    | (with_reducible refine runR_b (fun h => ?_) (fun h => ?_) <;> first | exact auH | simp only [h, runR_t, runR_f])
    | (with_reducible refine condK_bl ?_ ?_)
    | (with_reducible refine condK_b (fun h => ?_) (fun h => ?_) <;> first | exact auH | skip)
    | (first | (simp only [Int.toNat_natCast, Nat.zero_add, ex]) | (with_reducible refine runR_l ?_) | (refine runR_n ⟨.inl (by decide), by trivial, by trivial, by unfold room maxLen; decide⟩ ?_) | (refine runR_n ⟨by omega, by omega⟩ ?_) | fail))
  (all_goals first | exact auP | skip)
  refine ret_m [0, 1, 20, 8] [Γ.g0 + 3, Γ.g0 + 3 + 1 + 1] trivial (by decide) rfl (fun a ha => ?_) (fun q => ?_) (fun q => ?_)
  · rcases List.mem_cons.1 ha with rfl | ha
    · exact ⟨20, _, rfl, rfl⟩
    · obtain rfl := List.mem_singleton.1 ha
      exact ⟨8, _, rfl, rfl⟩
  · exact rfl
  · exact ⟨⟨.inr ⟨hn, rfl⟩, rfl, ⟨⟨rfl, trivial⟩, ⟨rfl, trivial⟩, ⟨rfl, trivial⟩, ⟨9, q, .inl ⟨0, rfl, rfl⟩, rfl⟩, ⟨rfl, trivial⟩, ⟨rfl, trivial⟩, ⟨8, q + 1, .inl ⟨1, rfl, rfl⟩, rfl⟩, rfl⟩, rfl⟩, ⟨.inl ⟨0, rfl, rfl⟩, rfl, renMLL_nf _ (nf_gd _ _)⟩, ⟨.inl ⟨1, rfl, rfl⟩, rfl, renMLL_nf _ (by refine ⟨?_, trivial⟩; simp [nfL, nfD, nf_opt])⟩, rfl⟩
end Go.Proofs.Ytegejpieedckiaa
