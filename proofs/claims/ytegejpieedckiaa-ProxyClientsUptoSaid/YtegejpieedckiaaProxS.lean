/-
  A guard at work: a client that no talk knows.
-/
import Derived.Test.YtegejpieedckiaaProxM
import Derived.Test.YtegejpieedckiaaTcpJ
import Derived.Test.YtegejpieedckiaaSipC
namespace Go.Proofs.Ytegejpieedckiaa
set_option linter.unusedVariables false
set_option linter.unusedSimpArgs false
def cnt (now : Int) : Int := now / 64 % 32
def mssN (g : Sg) : Int := if (mssR g.opts).2 = true then (mssR g.opts).1 else 536
def synC (k0 k1 : Int) (r : Rd) (g : Sg) (now : Int) : Int := (ckR k0 k1 r.fr r.to r.fp r.tp g.seq (cnt now) (atI (mssN g) 8)).1
def opnC (k0 k1 : Int) (r : Rd) (g : Sg) (now : Int) : Int × Int := opR k0 k1 r.fr r.to r.fp r.tp ((g.seq - 1) % 4294967296) ((g.ack - 1) % 4294967296) (cnt now)
abbrev newT (r : Rd) (g : Sg) (now : Int) : Gd := ⟨r.fr, r.to, r.fp, r.tp, (g.seq - 1) % 4294967296, (g.ack - 1) % 4294967296, 0, false, now⟩
theorem nfO (g : Nat) (c : Bool) (s : Sg) : nfL g (s.encC c) := by simp [nfL, nfD, nf_opt]
abbrev strD (n m : Nat) (k0 k1 sz now : Int) (ms : List Gd) : List (Option AObj) := [oGu n k0 k1 sz now (.sl 1 m 9 0 ms.length false) nilS nilS, some ⟨m, 9, ms.map Gd.enc⟩]
set_option maxRecDepth 8000 in
set_option maxHeartbeats 4000000 in
theorem str_S1 (k0 k1 sz now : Int) (ms : List Gd) (n m : Nat) (r : Rd) (g : Sg) (hl : g.opts.length ≤ maxLen) (hr : U32 r.fr ∧ U32 r.to) (hq : U32 g.seq) (hnow : 0 ≤ now ∧ now ≤ 1099511627776) (hfl : bits .and .i64 g.flags 23 = 2) : MSpec Try.prog 30 [.ptr 0 n 7 0 0, .agg r.enc, dG g] (strD n m k0 k1 sz now ms) 1 (fun q d H => d = .v (.int .i64 0) ∧ H = [oGu n k0 k1 sz now (.sl 1 m 9 0 ms.length false) (.sl 8 q 9 0 1 false) nilS, some ⟨m, 9, ms.map Gd.enc⟩, some ⟨q, 9, [(sgSyn sz g (synC k0 k1 r g now)).encC true]⟩]) := by
  have hms := mss_spec g hl
  have hmo := mss_own sz
  have hix := index_spec (mssN g)
  have hmk := make_spec k0 k1 r.fr r.to r.fp r.tp g.seq (cnt now) (atI (mssN g) 8) hr.1 hr.2 hq
  unfold synC
  generalize ckR k0 k1 r.fr r.to r.fp r.tp g.seq (cnt now) (atI (mssN g) 8) = x at *
  obtain ⟨x1, x2⟩ := x
  generalize hai : atI (mssN g) 8 = ai at *
  unfold mssN at hix
  generalize mssR g.opts = y at *
  obtain ⟨y1, y2⟩ := y
  dsimp only at *
  cases y2 with
  | true =>
    rw [if_pos rfl] at hix
    have w1 : IntKind.i64.wrap (now.tdiv 64) = now / 64 := by rw [Int.tdiv_eq_ediv_of_nonneg hnow.1, IntWalk.i64_in _ (by omega)]
    have w2 : (now / 64).tmod 32 = cnt now := Int.tmod_eq_emod_of_nonneg (by omega)
    have hlen : (ms.map Gd.enc).length = ms.length := List.length_map _
    refine mspec_fn Try.func30 rfl ok_proxy_guard_stranger okr_proxy_guard_stranger rfl (by kernel_rfl) ?_
    intro Γ hW0 hN0 hL0
    clear hW0
    unfold x_proxy_guard_stranger r_proxy_guard_stranger
    refine auC ?_
    have hn := hN0 0 _ rfl
    have hmg := hN0 1 _ rfl
    repeat' (first
      | (refine auS ?_)
      | (first | (simp only [nilS]) | (simp only [hlen]) | (simp only [w1]) | (simp only [w2]) | (simp only [u32_mod]) | (simp only [hcat]) | (simp only [hcl]) | (simp only [hfl]) | (with_reducible refine runR_call hms ?_) | (simp only [hok]) | (with_reducible refine runR_call hix ?_) | (with_reducible refine runR_call hmk ?_) | (with_reducible refine runR_call hmo ?_) | (with_reducible refine runR_call hop ?_) | (refine runR_callHHM 0 10 [21] (by decide) rfl rfl rfl (has _) ?_))
      | (refine auD ?_)
      | (with_reducible refine runR_b (fun h => ?_) (fun h => ?_) <;> first | exact auH | simp only [h, runR_t, runR_f])
      | (with_reducible refine condK_bl ?_ ?_)
      | (with_reducible refine condK_b (fun h => ?_) (fun h => ?_) <;> first | exact auH | skip)
      | (first | (with_reducible refine runR_l ?_) | (refine runR_n ⟨.inl (by decide), by trivial, by trivial, by unfold room maxLen; decide⟩ ?_) | (refine runR_n ⟨by trivial, by trivial, by trivial, by trivial, hlen.symm⟩ ?_) | (refine runR_n ⟨by trivial, by unfold room maxLen; rw [hlen]; simp; omega⟩ ?_) | fail))
    (all_goals first | exact auP | skip)
    refine ret_m [0, 1, 5] [Γ.g0 + 3] trivial (by decide) rfl (fun a ha => ?_) (fun q => ?_) (fun q => ?_)
    · obtain rfl := List.mem_singleton.1 ha
      exact ⟨5, _, rfl, rfl⟩
    · exact ⟨rfl, trivial⟩
    · exact ⟨⟨.inr ⟨hn, rfl⟩, rfl, ⟨⟨rfl, trivial⟩, ⟨rfl, trivial⟩, ⟨rfl, trivial⟩, ⟨1, m, .inr ⟨hmg, rfl⟩, rfl⟩, ⟨rfl, trivial⟩, ⟨8, q, .inl ⟨0, rfl, rfl⟩, rfl⟩, ⟨rfl, trivial⟩, rfl⟩, rfl⟩, ⟨.inr ⟨hmg, rfl⟩, rfl, renMLL_nf _ (nf_gd _ _)⟩, ⟨.inl ⟨0, rfl, rfl⟩, rfl, renMLL_nf _ (by refine ⟨?_, trivial⟩; simp [nfL, nfD, nfLL])⟩, rfl⟩
  | false =>
    rw [if_neg Bool.false_ne_true] at hix
    have w1 : IntKind.i64.wrap (now.tdiv 64) = now / 64 := by rw [Int.tdiv_eq_ediv_of_nonneg hnow.1, IntWalk.i64_in _ (by omega)]
    have w2 : (now / 64).tmod 32 = cnt now := Int.tmod_eq_emod_of_nonneg (by omega)
    have hlen : (ms.map Gd.enc).length = ms.length := List.length_map _
    refine mspec_fn Try.func30 rfl ok_proxy_guard_stranger okr_proxy_guard_stranger rfl (by kernel_rfl) ?_
    intro Γ hW0 hN0 hL0
    clear hW0
    unfold x_proxy_guard_stranger r_proxy_guard_stranger
    refine auC ?_
    have hn := hN0 0 _ rfl
    have hmg := hN0 1 _ rfl
    repeat' (first
      | (refine auS ?_)
      | (first | (simp only [nilS]) | (simp only [hlen]) | (simp only [w1]) | (simp only [w2]) | (simp only [u32_mod]) | (simp only [hcat]) | (simp only [hcl]) | (simp only [hfl]) | (with_reducible refine runR_call hms ?_) | (simp only [hok]) | (with_reducible refine runR_call hix ?_) | (with_reducible refine runR_call hmk ?_) | (with_reducible refine runR_call hmo ?_) | (with_reducible refine runR_call hop ?_) | (refine runR_callHHM 0 10 [21] (by decide) rfl rfl rfl (has _) ?_))
      | (refine auD ?_)
      | (with_reducible refine runR_b (fun h => ?_) (fun h => ?_) <;> first | exact auH | simp only [h, runR_t, runR_f])
      | (with_reducible refine condK_bl ?_ ?_)
      | (with_reducible refine condK_b (fun h => ?_) (fun h => ?_) <;> first | exact auH | skip)
      | (first | (with_reducible refine runR_l ?_) | (refine runR_n ⟨.inl (by decide), by trivial, by trivial, by unfold room maxLen; decide⟩ ?_) | (refine runR_n ⟨by trivial, by trivial, by trivial, by trivial, hlen.symm⟩ ?_) | (refine runR_n ⟨by trivial, by unfold room maxLen; rw [hlen]; simp; omega⟩ ?_) | fail))
    (all_goals first | exact auP | skip)
    refine ret_m [0, 1, 5] [Γ.g0 + 3] trivial (by decide) rfl (fun a ha => ?_) (fun q => ?_) (fun q => ?_)
    · obtain rfl := List.mem_singleton.1 ha
      exact ⟨5, _, rfl, rfl⟩
    · exact ⟨rfl, trivial⟩
    · exact ⟨⟨.inr ⟨hn, rfl⟩, rfl, ⟨⟨rfl, trivial⟩, ⟨rfl, trivial⟩, ⟨rfl, trivial⟩, ⟨1, m, .inr ⟨hmg, rfl⟩, rfl⟩, ⟨rfl, trivial⟩, ⟨8, q, .inl ⟨0, rfl, rfl⟩, rfl⟩, ⟨rfl, trivial⟩, rfl⟩, rfl⟩, ⟨.inr ⟨hmg, rfl⟩, rfl, renMLL_nf _ (nf_gd _ _)⟩, ⟨.inl ⟨0, rfl, rfl⟩, rfl, renMLL_nf _ (by refine ⟨?_, trivial⟩; simp [nfL, nfD, nfLL])⟩, rfl⟩
set_option maxRecDepth 8000 in
set_option maxHeartbeats 8000000 in
theorem str_S2a (k0 k1 sz now : Int) (ms : List Gd) (n m : Nat) (r : Rd) (g : Sg) (hl : ms.length ≤ 64) (hr : U32 r.fr ∧ U32 r.to) (hq : U32 g.seq) (ha : U32 g.ack) (hnow : 0 ≤ now ∧ now ≤ 1099511627776) (hf : bits .and .i64 g.flags 23 = 16 ∨ bits .and .i64 g.flags 23 = 17) (he : ¬ (opnC k0 k1 r g now).2 = 0) : MSpec Try.prog 30 [.ptr 0 n 7 0 0, .agg r.enc, dG g] (strD n m k0 k1 sz now ms) 1 (fun q d H => d = .v (.int .i64 0) ∧ H = [oGu n k0 k1 sz now (.sl 1 m 9 0 ms.length false) (.sl 8 q 9 0 1 false) nilS, some ⟨m, 9, ms.map Gd.enc⟩, some ⟨q, 9, [(sgRst g).encN]⟩]) := by
  have hop := open_spec k0 k1 r.fr r.to r.fp r.tp ((g.seq - 1) % 4294967296) ((g.ack - 1) % 4294967296) (cnt now) hr.1 hr.2 (by omega) (by omega)
  unfold opnC at he
  generalize opR k0 k1 r.fr r.to r.fp r.tp ((g.seq - 1) % 4294967296) ((g.ack - 1) % 4294967296) (cnt now) = x at *
  obtain ⟨x1, x2⟩ := x
  dsimp only at he
  rcases hf with hfl | hfl
  all_goals
    have w1 : IntKind.i64.wrap (now.tdiv 64) = now / 64 := by rw [Int.tdiv_eq_ediv_of_nonneg hnow.1, IntWalk.i64_in _ (by omega)]
    have w2 : (now / 64).tmod 32 = cnt now := Int.tmod_eq_emod_of_nonneg (by omega)
    have hlen : (ms.map Gd.enc).length = ms.length := List.length_map _
    refine mspec_fn Try.func30 rfl ok_proxy_guard_stranger okr_proxy_guard_stranger rfl (by kernel_rfl) ?_
    intro Γ hW0 hN0 hL0
    clear hW0
    unfold x_proxy_guard_stranger r_proxy_guard_stranger
    refine auC ?_
    have hn := hN0 0 _ rfl
    have hmg := hN0 1 _ rfl
    repeat' (first
      | (refine auS ?_)
      | (first | (simp only [nilS]) | (simp only [hlen]) | (simp only [w1]) | (simp only [w2]) | (simp only [u32_mod]) | (simp only [hcat]) | (simp only [hcl]) | (simp only [hfl]) | (with_reducible refine runR_call hms ?_) | (simp only [hok]) | (with_reducible refine runR_call hix ?_) | (with_reducible refine runR_call hmk ?_) | (with_reducible refine runR_call hmo ?_) | (with_reducible refine runR_call hop ?_) | (refine runR_callHHM 0 10 [21] (by decide) rfl rfl rfl (has _) ?_))
      | (refine auD ?_)
      | (with_reducible refine runR_b (fun h => ?_) (fun h => ?_) <;> first | exact auH | simp only [h, runR_t, runR_f])
      | (with_reducible refine condK_bl ?_ ?_)
      | (with_reducible refine condK_b (fun h => ?_) (fun h => ?_) <;> first | exact auH | skip)
      | (first | (with_reducible refine runR_l ?_) | (refine runR_n ⟨.inl (by decide), by trivial, by trivial, by unfold room maxLen; decide⟩ ?_) | (refine runR_n ⟨by trivial, by trivial, by trivial, by trivial, hlen.symm⟩ ?_) | (refine runR_n ⟨by trivial, by unfold room maxLen; rw [hlen]; simp; omega⟩ ?_) | fail))
    (all_goals first | exact auP | skip)
    refine ret_m [0, 1, 7] [Γ.g0 + 3] trivial (by decide) rfl (fun a ha => ?_) (fun q => ?_) (fun q => ?_)
    · obtain rfl := List.mem_singleton.1 ha
      exact ⟨7, _, rfl, rfl⟩
    · exact ⟨rfl, trivial⟩
    · exact ⟨⟨.inr ⟨hn, rfl⟩, rfl, ⟨⟨rfl, trivial⟩, ⟨rfl, trivial⟩, ⟨rfl, trivial⟩, ⟨1, m, .inr ⟨hmg, rfl⟩, rfl⟩, ⟨rfl, trivial⟩, ⟨8, q, .inl ⟨0, rfl, rfl⟩, rfl⟩, ⟨rfl, trivial⟩, rfl⟩, rfl⟩, ⟨.inr ⟨hmg, rfl⟩, rfl, renMLL_nf _ (nf_gd _ _)⟩, ⟨.inl ⟨0, rfl, rfl⟩, rfl, renMLL_nf _ (by refine ⟨?_, trivial⟩; simp [nfL, nfD, nfLL])⟩, rfl⟩
set_option maxRecDepth 8000 in
set_option maxHeartbeats 8000000 in
theorem str_S2b (k0 k1 sz now : Int) (ms : List Gd) (n m : Nat) (r : Rd) (g : Sg) (hl : ms.length ≤ 64) (hr : U32 r.fr ∧ U32 r.to) (hq : U32 g.seq) (ha : U32 g.ack) (hnow : 0 ≤ now ∧ now ≤ 1099511627776) (hf : bits .and .i64 g.flags 23 = 16 ∨ bits .and .i64 g.flags 23 = 17) (he : (opnC k0 k1 r g now).2 = 0) (h64 : ms.length = 64) : HSpec Try.prog 30 [.ptr 0 n 7 0 0, .agg r.enc, dG g] (strD n m k0 k1 sz now ms) (fun d H => d = .v (.int .i64 6) ∧ H = strD n m k0 k1 sz now ms) := by
  have hop := open_spec k0 k1 r.fr r.to r.fp r.tp ((g.seq - 1) % 4294967296) ((g.ack - 1) % 4294967296) (cnt now) hr.1 hr.2 (by omega) (by omega)
  unfold opnC at he
  generalize opR k0 k1 r.fr r.to r.fp r.tp ((g.seq - 1) % 4294967296) ((g.ack - 1) % 4294967296) (cnt now) = x at *
  obtain ⟨x1, x2⟩ := x
  dsimp only at he
  subst he
  rcases hf with hfl | hfl
  all_goals
    have w1 : IntKind.i64.wrap (now.tdiv 64) = now / 64 := by rw [Int.tdiv_eq_ediv_of_nonneg hnow.1, IntWalk.i64_in _ (by omega)]
    have w2 : (now / 64).tmod 32 = cnt now := Int.tmod_eq_emod_of_nonneg (by omega)
    have hlen : (ms.map Gd.enc).length = ms.length := List.length_map _
    refine hspec_fn Try.func30 rfl ok_proxy_guard_stranger okr_proxy_guard_stranger rfl (by kernel_rfl) ?_
    intro Γ hW0 hN0 hL0
    clear hW0
    unfold x_proxy_guard_stranger r_proxy_guard_stranger
    refine auC ?_
    have hn := hN0 0 _ rfl
    have hmg := hN0 1 _ rfl
    repeat' (first
      | (refine auS ?_)
      | (first | (simp only [nilS]) | (simp only [hlen]) | (simp only [w1]) | (simp only [w2]) | (simp only [u32_mod]) | (simp only [hcat]) | (simp only [hcl]) | (simp only [hfl]) | (with_reducible refine runR_call hms ?_) | (simp only [hok]) | (with_reducible refine runR_call hix ?_) | (with_reducible refine runR_call hmk ?_) | (with_reducible refine runR_call hmo ?_) | (with_reducible refine runR_call hop ?_) | (refine runR_callHHM 0 10 [21] (by decide) rfl rfl rfl (has _) ?_))
      | (refine auD ?_)
      | (with_reducible refine runR_b (fun h => ?_) (fun h => ?_) <;> first | exact auH | simp only [h, runR_t, runR_f])
      | (with_reducible refine condK_bl ?_ ?_)
      | (with_reducible refine condK_b (fun h => ?_) (fun h => ?_) <;> first | exact auH | skip)
      | (first | (with_reducible refine runR_l ?_) | (refine runR_n ⟨.inl (by decide), by trivial, by trivial, by unfold room maxLen; decide⟩ ?_) | (refine runR_n ⟨by trivial, by trivial, by trivial, by trivial, hlen.symm⟩ ?_) | (refine runR_n ⟨by trivial, by unfold room maxLen; rw [hlen]; simp; omega⟩ ?_) | fail))
    (all_goals first | exact auP | skip)
    refine ret_h2 trivial trivial rfl rfl hn ?_ hmg (nf_gd _ _)
    exact ⟨⟨trivial, trivial, trivial, hmg, trivial, trivial, trivial, trivial⟩, trivial⟩
set_option maxRecDepth 8000 in
set_option maxHeartbeats 8000000 in
theorem str_S3 (k0 k1 sz now : Int) (ms : List Gd) (n m : Nat) (r : Rd) (g : Sg) (hl : ms.length ≤ 64) (hr : U32 r.fr ∧ U32 r.to) (hq : U32 g.seq) (ha : U32 g.ack) (hnow : 0 ≤ now ∧ now ≤ 1099511627776) (hf : ¬ bits .and .i64 g.flags 23 = 2 ∧ ¬ bits .and .i64 g.flags 23 = 16 ∧ ¬ bits .and .i64 g.flags 23 = 17) : HSpec Try.prog 30 [.ptr 0 n 7 0 0, .agg r.enc, dG g] (strD n m k0 k1 sz now ms) (fun d H => d = .v (.int .i64 0) ∧ H = strD n m k0 k1 sz now ms) := by
  obtain ⟨f1, f2, f3⟩ := hf
  have w1 : IntKind.i64.wrap (now.tdiv 64) = now / 64 := by rw [Int.tdiv_eq_ediv_of_nonneg hnow.1, IntWalk.i64_in _ (by omega)]
  have w2 : (now / 64).tmod 32 = cnt now := Int.tmod_eq_emod_of_nonneg (by omega)
  have hlen : (ms.map Gd.enc).length = ms.length := List.length_map _
  refine hspec_fn Try.func30 rfl ok_proxy_guard_stranger okr_proxy_guard_stranger rfl (by kernel_rfl) ?_
  intro Γ hW0 hN0 hL0
  clear hW0
  unfold x_proxy_guard_stranger r_proxy_guard_stranger
  refine auC ?_
  have hn := hN0 0 _ rfl
  have hmg := hN0 1 _ rfl
  repeat' (first
    | (refine auS ?_)
    | (first | (simp only [nilS]) | (simp only [hlen]) | (simp only [w1]) | (simp only [w2]) | (simp only [u32_mod]) | (simp only [hcat]) | (simp only [hcl]) | (simp only [hfl]) | (with_reducible refine runR_call hms ?_) | (simp only [hok]) | (with_reducible refine runR_call hix ?_) | (with_reducible refine runR_call hmk ?_) | (with_reducible refine runR_call hmo ?_) | (with_reducible refine runR_call hop ?_) | (refine runR_callHHM 0 10 [21] (by decide) rfl rfl rfl (has _) ?_))
    | (refine auD ?_)
    | (with_reducible refine runR_b (fun h => ?_) (fun h => ?_) <;> first | exact auH | simp only [h, runR_t, runR_f])
    | (with_reducible refine condK_bl ?_ ?_)
    | (with_reducible refine condK_b (fun h => ?_) (fun h => ?_) <;> first | exact auH | skip)
    | (first | (with_reducible refine runR_l ?_) | (refine runR_n ⟨.inl (by decide), by trivial, by trivial, by unfold room maxLen; decide⟩ ?_) | (refine runR_n ⟨by trivial, by trivial, by trivial, by trivial, hlen.symm⟩ ?_) | (refine runR_n ⟨by trivial, by unfold room maxLen; rw [hlen]; simp; omega⟩ ?_) | fail))
  (all_goals first | exact auP | skip)
  refine ret_h2 trivial trivial rfl rfl hn ?_ hmg (nf_gd _ _)
  exact ⟨⟨trivial, trivial, trivial, hmg, trivial, trivial, trivial, trivial⟩, trivial⟩
set_option maxRecDepth 8000 in
set_option maxHeartbeats 8000000 in
theorem str_S2c (k0 k1 sz now : Int) (ms : List Gd) (n m : Nat) (r : Rd) (g : Sg) (hl : ms.length ≤ 64) (hr : U32 r.fr ∧ U32 r.to) (hq : U32 g.seq) (ha : U32 g.ack) (hnow : 0 ≤ now ∧ now ≤ 1099511627776) (hf : bits .and .i64 g.flags 23 = 16 ∨ bits .and .i64 g.flags 23 = 17) (he : (opnC k0 k1 r g now).2 = 0) (h64 : ¬ ms.length = 64) : MSpec Try.prog 30 [.ptr 0 n 7 0 0, .agg r.enc, dG g] (strD n m k0 k1 sz now ms) 2 (fun q d H => d = .v (.int .i64 0) ∧ H = [oGu n k0 k1 sz now (.sl 9 q 9 0 (ms ++ [newT r g now]).length false) nilS (.sl 8 (q + 1) 9 0 1 false), none, some ⟨q, 9, (ms ++ [newT r g now]).map Gd.enc⟩, some ⟨q + 1, 9, [(sgAsk (newT r g now) (opnC k0 k1 r g now).1).encC true]⟩]) := by
  unfold opnC
  have hop := open_spec k0 k1 r.fr r.to r.fp r.tp ((g.seq - 1) % 4294967296) ((g.ack - 1) % 4294967296) (cnt now) hr.1 hr.2 (by omega) (by omega)
  unfold opnC at he
  generalize opR k0 k1 r.fr r.to r.fp r.tp ((g.seq - 1) % 4294967296) ((g.ack - 1) % 4294967296) (cnt now) = x at *
  obtain ⟨x1, x2⟩ := x
  dsimp only at he
  subst he
  have has := fun nn => ask_spec k0 k1 sz now x1 (ms ++ [newT r g now]) 10 n nn (newT r g now)
  have hcat : ms.map Gd.enc ++ [(newT r g now).enc] = (ms ++ [newT r g now]).map Gd.enc := by simp
  have hcl : ms.length + 1 = (ms ++ [newT r g now]).length := by simp
  rcases hf with hfl | hfl
  all_goals
    have w1 : IntKind.i64.wrap (now.tdiv 64) = now / 64 := by rw [Int.tdiv_eq_ediv_of_nonneg hnow.1, IntWalk.i64_in _ (by omega)]
    have w2 : (now / 64).tmod 32 = cnt now := Int.tmod_eq_emod_of_nonneg (by omega)
    have hlen : (ms.map Gd.enc).length = ms.length := List.length_map _
    refine mspec_fn Try.func30 rfl ok_proxy_guard_stranger okr_proxy_guard_stranger rfl (by kernel_rfl) ?_
    intro Γ hW0 hN0 hL0
    clear hW0
    unfold x_proxy_guard_stranger r_proxy_guard_stranger
    refine auC ?_
    have hn := hN0 0 _ rfl
    have hmg := hN0 1 _ rfl
    repeat' (first
      | (refine auS ?_)
      | (first | (simp only [nilS]) | (simp only [hlen]) | (simp only [w1]) | (simp only [w2]) | (simp only [u32_mod]) | (simp only [hcat]) | (simp only [hcl]) | (simp only [hfl]) | (with_reducible refine runR_call hms ?_) | (simp only [hok]) | (with_reducible refine runR_call hix ?_) | (with_reducible refine runR_call hmk ?_) | (with_reducible refine runR_call hmo ?_) | (with_reducible refine runR_call hop ?_) | (refine runR_callHHM 0 10 [21] (by decide) rfl rfl rfl (has _) ?_))
      | (refine auD ?_)
      | (with_reducible refine runR_b (fun h => ?_) (fun h => ?_) <;> first | exact auH | simp only [h, runR_t, runR_f])
      | (with_reducible refine condK_bl ?_ ?_)
      | (with_reducible refine condK_b (fun h => ?_) (fun h => ?_) <;> first | exact auH | skip)
      | (first | (with_reducible refine runR_l ?_) | (refine runR_n ⟨.inl (by decide), by trivial, by trivial, by unfold room maxLen; decide⟩ ?_) | (refine runR_n ⟨by trivial, by trivial, by trivial, by trivial, hlen.symm⟩ ?_) | (refine runR_n ⟨by trivial, by unfold room maxLen; rw [hlen]; simp; omega⟩ ?_) | fail))
    (all_goals first | exact auP | skip)
    refine ret_m [0, 1, 10, 21] [Γ.g0 + 4, Γ.g0 + 5] trivial (by decide) rfl (fun a ha => ?_) (fun q => ?_) (fun q => ?_)
    · rcases List.mem_cons.1 ha with rfl | ha
      · exact ⟨10, _, rfl, rfl⟩
      · obtain rfl := List.mem_singleton.1 ha
        exact ⟨21, _, rfl, rfl⟩
    · exact ⟨rfl, trivial⟩
    · exact ⟨⟨.inr ⟨hn, rfl⟩, rfl, ⟨⟨rfl, trivial⟩, ⟨rfl, trivial⟩, ⟨rfl, trivial⟩, ⟨9, q, .inl ⟨0, rfl, rfl⟩, rfl⟩, ⟨rfl, trivial⟩, ⟨rfl, trivial⟩, ⟨8, q + 1, .inl ⟨1, rfl, rfl⟩, rfl⟩, rfl⟩, rfl⟩, ⟨.inl ⟨0, rfl, rfl⟩, rfl, renMLL_nf _ (nf_gd _ _)⟩, ⟨.inl ⟨1, rfl, rfl⟩, rfl, renMLL_nf _ (by refine ⟨?_, trivial⟩; simp [nfL, nfD, nfLL])⟩, rfl⟩
end Go.Proofs.Ytegejpieedckiaa
