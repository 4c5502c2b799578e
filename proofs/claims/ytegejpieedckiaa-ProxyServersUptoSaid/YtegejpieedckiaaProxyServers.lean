/-
  ProxyServers: the law's function returns true wherever the arguments' bulk is at most 1048576 (there, a row of 40 bytes for each option can be made).
-/
import Derived.Test.YtegejpieedckiaaProxK
import Derived.Test.YtegejpieedckiaaTcpE
import Derived.Test.YtegejpieedckiaaUpto
namespace Go.Proofs.Ytegejpieedckiaa
open Go.ChangeShapes Go.WideShapes Go.ChangeAt Go.RowKit
def shsProxyServers : List Sh := [.cons (.cons (.int .u64) (.cons (.int .u64) (.nil))) (.cons (.int .i64) (.cons (.slice 48 9 (.cons (.cons (.int .u32) (.cons (.int .u32) (.cons (.int .i64) (.cons (.int .i64) (.nil))))) (.cons (.int .u32) (.cons (.int .u32) (.cons (.int .u32) (.cons (.bool) (.cons (.int .i64) (.nil)))))))) (.nil))), .cons (.int .u32) (.cons (.int .u32) (.cons (.int .i64) (.cons (.int .i64) (.nil)))), .cons (.int .i64) (.cons (.int .i64) (.cons (.int .u32) (.cons (.int .u32) (.cons (.int .i64) (.cons (.int .i64) (.cons (.int .i64) (.cons (.slice 24 2 (.cons (.int .i64) (.cons (.str) (.nil)))) (.cons (.str) (.nil))))))))), .int .i64]
def shwProxyServers : List Sh := [.cons (.cons (.int .u64) (.cons (.int .u64) (.nil))) (.cons (.int .i64) (.cons (.slice 100000000 9 (.cons (.cons (.int .u32) (.cons (.int .u32) (.cons (.int .i64) (.cons (.int .i64) (.nil))))) (.cons (.int .u32) (.cons (.int .u32) (.cons (.int .u32) (.cons (.bool) (.cons (.int .i64) (.nil)))))))) (.nil))), .cons (.int .u32) (.cons (.int .u32) (.cons (.int .i64) (.cons (.int .i64) (.nil)))), .cons (.int .i64) (.cons (.int .i64) (.cons (.int .u32) (.cons (.int .u32) (.cons (.int .i64) (.cons (.int .i64) (.cons (.int .i64) (.cons (.slice 100000000 2 (.cons (.int .i64) (.cons (.str) (.nil)))) (.cons (.str) (.nil))))))))), .int .i64]
set_option linter.unusedVariables false
set_option linter.unusedSimpArgs false
set_option maxHeartbeats 1000000 in
theorem gdeq_same (l : List Gd) (c c' : Bool) (hl : l.length ≤ maxLen) : Spec Try.prog 26 [.snap 9 (l.map Gd.enc) c, .snap 9 (l.map Gd.enc) c'] (.v (.bool true)) := by
  unfold maxLen at hl
  refine hspec_fn Try.func26 rfl ok_slices_Equal_api_Guarded okr_slices_Equal_api_Guarded rfl (by kernel_rfl) ?_
  intro Γ hW0 hN0 hL0
  have hW := hW0 rfl
  clear hW0 hN0 hL0
  unfold x_slices_Equal_api_Guarded r_slices_Equal_api_Guarded
  repeat' (first
    | (with_reducible first | refine go_seq ?_ | refine go_region ?_ | refine go_regionD mixed_ok ?_ | refine go_cond ?_ | refine go_skip ?_ | refine go_block ?_ | refine nx_code ?_ | refine nx_block ?_ | refine go_ret ?_ | refine nx_nil ?_ | refine go_exit ?_ | refine ex_code ?_ | refine ex_loop ?_ | refine ex_here ?_)
    | ((with_reducible refine ex_past ?_ ?_); (exact by decide))
    | ((with_reducible refine endD_intro ?_ ?_); (exact by kernel_rfl))
    | ((with_reducible refine runR_n ?_ ?_); exact auN)
    | fail
    | (refine auD ?_)
    | (with_reducible refine runR_b (fun h => ?_) (fun h => ?_) <;> first | exact auH | simp only [h, runR_t, runR_f])
    | (with_reducible refine condK_bl ?_ ?_)
    | (with_reducible refine condK_b (fun h => ?_) (fun h => ?_) <;> first | exact auH | skip)
    | fail)
  refine go_loopH (α := Nat) (fun k => [(⟨.d0, .d1, .d5⟩, .v (.int .i64 (k : Nat)))]) (fun _ => []) (fun _ => Γ.g0) (fun k => l.length - k) (fun k => k ≤ l.length) 0 (Nat.zero_le _) ?_ ?_
  · skip
    refine le_mk ?_ ?_ (Nat.le_refl _)
    all_goals dsimp only [leE, leC, leR, leN, leD, leH, leO, writesX, dstsX, appS, havE, setsE, Env.get, Env.set, N8.get, N8.set, updL, lget, lset, env0]
    all_goals (repeat' (first | exact trivial | exact rfl | apply And.intro))
  · rintro k hk
    dsimp only [writesX, dstsX, appS, havE, setsE, Env.get, Env.set, N8.get, N8.set, updL, lget, lset, env0]
    by_cases hlt : k < l.length
    · obtain ⟨t, ht⟩ : ∃ t, l[k]? = some t := ⟨_, List.getElem?_eq_getElem hlt⟩
      have ex := xget_map Gd.enc l k t ht
      repeat' (first
        | (with_reducible first | refine go_seq ?_ | refine go_region ?_ | refine go_regionD mixed_ok ?_ | refine go_cond ?_ | refine go_skip ?_ | refine go_block ?_ | refine nx_code ?_ | refine nx_block ?_ | refine go_ret ?_ | refine nx_nil ?_ | refine go_exit ?_ | refine ex_code ?_ | refine ex_loop ?_ | refine ex_here ?_)
        | ((with_reducible refine ex_past ?_ ?_); (exact by decide))
        | ((with_reducible refine endD_intro ?_ ?_); (exact by kernel_rfl))
        | ((with_reducible refine runR_n ?_ ?_); exact auN)
        | fail
        | (refine auD ?_)
        | (with_reducible refine runR_b (fun h => ?_) (fun h => ?_) <;> first | exact auH | simp only [h, runR_t, runR_f])
        | (with_reducible refine condK_bl ?_ ?_)
        | (with_reducible refine condK_b (fun h => ?_) (fun h => ?_) <;> first | exact auH | skip)
        | (simp only [Int.toNat_natCast, ex]))
      (all_goals first | exact auP | skip)
      all_goals first
        | (exfalso; simp at h; done)
        | (refine nx_loop ⟨k + 1, Nat.succ_le_of_lt hlt, Nat.sub_lt_sub_left hlt (Nat.lt_succ_self k), ?_⟩
           (refine le_mk ?_ ?_ (Nat.le_refl _)); (all_goals dsimp only [leE, leC, leR, leN, leD, leH, leO, writesX, dstsX, appS, havE, setsE, Env.get, Env.set, N8.get, N8.set, updL, lget, lset, env0]); (all_goals (repeat' (first | exact trivial | exact rfl | apply And.intro)))
           all_goals exact dint ((IntWalk.i64_in _ (by omega)).trans (by omega)))
    · skip
      repeat' (first
        | (with_reducible first | refine go_seq ?_ | refine go_region ?_ | refine go_regionD mixed_ok ?_ | refine go_cond ?_ | refine go_skip ?_ | refine go_block ?_ | refine nx_code ?_ | refine nx_block ?_ | refine go_ret ?_ | refine nx_nil ?_ | refine go_exit ?_ | refine ex_code ?_ | refine ex_loop ?_ | refine ex_here ?_)
        | ((with_reducible refine ex_past ?_ ?_); (exact by decide))
        | ((with_reducible refine endD_intro ?_ ?_); (exact by kernel_rfl))
        | ((with_reducible refine runR_n ?_ ?_); exact auN)
        | fail
        | (refine auD ?_)
        | (with_reducible refine runR_b (fun h => ?_) (fun h => ?_) <;> first | exact auH | simp only [h, runR_t, runR_f])
        | (with_reducible refine condK_bl ?_ ?_)
        | (with_reducible refine condK_b (fun h => ?_) (fun h => ?_) <;> first | exact auH | skip)
        | fail)
      (all_goals first | exact auP | skip)
      all_goals with_reducible refine ret_spec2 (by (try dsimp only [RetOK, resOk, resDs, resD, resV, cellV, cellO, cellP, cellOk, htake, nfD, nfL, nfLL, nfH, lget, partOf, xget, ddrop, dtake, dget, Env.get, N8.get, env0, List.length_cons, List.length_nil, Env.set, N8.set, lset, updL]); (repeat' (first | exact trivial | exact rfl | exact nfLL_map (fun x => by simp [nfL, nfD, nfD]) | decide | apply And.intro))) ?_
      all_goals (try dsimp only [RetOK, resOk, resDs, resD, resV, cellV, cellO, cellP, cellOk, htake, nfD, nfL, nfLL, nfH, lget, partOf, xget, ddrop, dtake, dget, Env.get, N8.get, env0, List.length_cons, List.length_nil, Env.set, N8.set, lset, updL])
      all_goals (try simp only [hsM] at *)
theorem sameProxy_spec (k0 k1 sz : Int) (ms : List Gd) (hl : ms.length ≤ maxLen) : Spec Try.prog 7 [dPx k0 k1 sz ms, dPx k0 k1 sz ms] (.v (.bool true)) := by
  have h1 := gdeq_same ms false false hl
  refine hspec_fn Try.func7 rfl ok_custref_SameProxy okr_custref_SameProxy rfl (by kernel_rfl) ?_
  intro Γ hW0 hN0 hL0
  have hW := hW0 rfl
  clear hW0 hN0 hL0
  unfold x_custref_SameProxy r_custref_SameProxy
  repeat' (first
    | (with_reducible first | refine go_seq ?_ | refine go_region ?_ | refine go_regionD mixed_ok ?_ | refine go_cond ?_ | refine go_skip ?_ | refine go_block ?_ | refine nx_code ?_ | refine nx_block ?_ | refine go_ret ?_ | refine nx_nil ?_ | refine go_exit ?_ | refine ex_code ?_ | refine ex_loop ?_ | refine ex_here ?_)
    | ((with_reducible refine ex_past ?_ ?_); (exact by decide))
    | ((with_reducible refine endD_intro ?_ ?_); (exact by kernel_rfl))
    | ((with_reducible refine runR_n ?_ ?_); exact auN)
    | (first | (simp only [eq_self, decide_true, Bool.and_self, Bool.and_true]) | (with_reducible refine runR_call h1 ?_))
    | (refine auD ?_)
    | (with_reducible refine runR_b (fun h => ?_) (fun h => ?_) <;> first | exact auH | simp only [h, runR_t, runR_f])
    | (with_reducible refine condK_bl ?_ ?_)
    | (with_reducible refine condK_b (fun h => ?_) (fun h => ?_) <;> first | exact auH | skip)
    | fail)
  (all_goals first | exact auP | skip)
  all_goals first
    | (exfalso; simp_all; done)
    | skip
  all_goals with_reducible refine ret_spec2 (by (try dsimp only [RetOK, resOk, resDs, resD, resV, cellV, cellO, cellP, cellOk, htake, nfD, nfL, nfLL, nfH, lget, partOf, xget, ddrop, dtake, dget, Env.get, N8.get, env0, List.length_cons, List.length_nil, Env.set, N8.set, lset, updL]); (repeat' (first | exact trivial | exact rfl | exact nfLL_map (fun x => by simp [nfL, nfD, nfD]) | decide | apply And.intro))) ?_
  all_goals (try dsimp only [RetOK, resOk, resDs, resD, resV, cellV, cellO, cellP, cellOk, htake, nfD, nfL, nfLL, nfH, lget, partOf, xget, ddrop, dtake, dget, Env.get, N8.get, env0, List.length_cons, List.length_nil, Env.set, N8.set, lset, updL])
  all_goals (try simp only [hsM] at *)
  all_goals rfl
theorem opeq_nil : Spec Try.prog 54 [nilS, nilS] (.v (.bool true)) := by
  refine hspec_args (opeq_same [] false false (Nat.zero_le _)) (fun K w vs hv => argsRel_mem hv rfl (fun i d e h1 h2 v hv => ?_))
  match i, h1, h2 with
  | 0, h1, h2 =>
    obtain rfl := Option.some.inj h1
    obtain rfl := Option.some.inj h2
    exact nil_rel hv _ (.inr ⟨rfl, 2, rfl⟩)
  | 1, h1, h2 =>
    obtain rfl := Option.some.inj h1
    obtain rfl := Option.some.inj h2
    exact nil_rel hv _ (.inr ⟨rfl, 2, rfl⟩)
  | i + 2, h1, _ => simp at h1
theorem sameSegN_spec (g : Sg) : Spec Try.prog 28 [.agg g.encN, .agg g.encN] (.v (.bool true)) := by
  have he := opeq_nil
  refine hspec_fn Try.func28 rfl ok_custref_SameSegment okr_custref_SameSegment rfl (by kernel_rfl) ?_
  intro Γ hW0 hN0 hL0
  have hW := hW0 rfl
  clear hW0 hN0 hL0
  unfold x_custref_SameSegment r_custref_SameSegment
  repeat' (first
    | (with_reducible first | refine go_seq ?_ | refine go_region ?_ | refine go_regionD mixed_ok ?_ | refine go_cond ?_ | refine go_skip ?_ | refine go_block ?_ | refine nx_code ?_ | refine nx_block ?_ | refine go_ret ?_ | refine nx_nil ?_ | refine go_exit ?_ | refine ex_code ?_ | refine ex_loop ?_ | refine ex_here ?_)
    | ((with_reducible refine ex_past ?_ ?_); (exact by decide))
    | ((with_reducible refine endD_intro ?_ ?_); (exact by kernel_rfl))
    | ((with_reducible refine runR_n ?_ ?_); exact auN)
    | (first | (simp only [eq_self, decide_true, Bool.and_self, Bool.and_true]) | (with_reducible refine runR_call he ?_))
    | (refine auD ?_)
    | (with_reducible refine runR_b (fun h => ?_) (fun h => ?_) <;> first | exact auH | simp only [h, runR_t, runR_f])
    | (with_reducible refine condK_bl ?_ ?_)
    | (with_reducible refine condK_b (fun h => ?_) (fun h => ?_) <;> first | exact auH | skip)
    | fail)
  (all_goals first | exact auP | skip)
  all_goals first
    | (exfalso; simp at h; done)
    | skip
  all_goals with_reducible refine ret_spec2 (by (try dsimp only [RetOK, resOk, resDs, resD, resV, cellV, cellO, cellP, cellOk, htake, nfD, nfL, nfLL, nfH, lget, partOf, xget, ddrop, dtake, dget, Env.get, N8.get, env0, List.length_cons, List.length_nil, Env.set, N8.set, lset, updL]); (repeat' (first | exact trivial | exact rfl | exact nfLL_map (fun x => by simp [nfL, nfD, nfD]) | decide | apply And.intro))) ?_
  all_goals (try dsimp only [RetOK, resOk, resDs, resD, resV, cellV, cellO, cellP, cellOk, htake, nfD, nfL, nfLL, nfH, lget, partOf, xget, ddrop, dtake, dget, Env.get, N8.get, env0, List.length_cons, List.length_nil, Env.set, N8.set, lset, updL])
  all_goals (try simp only [hsM] at *)
/-- A segment as it is laid. -/
def SegRow (x : List DV) : Prop := ∃ g : Sg, (x = g.enc ∧ g.opts.length ≤ maxLen) ∨ x = g.encN
theorem segRow_enc (g : Sg) (hl : g.opts.length ≤ maxLen) : SegRow g.enc := ⟨g, .inl ⟨rfl, hl⟩⟩
theorem segRow_encN (g : Sg) : SegRow g.encN := ⟨g, .inr rfl⟩
set_option maxHeartbeats 2000000 in
theorem eqSegs_spec (l : List (List DV)) (hl : l.length ≤ 1) (hx : ∀ x ∈ l, SegRow x) : Spec Try.prog 27 [.snap 9 l false, .snap 9 l false, .fn (.func 28) [] []] (.v (.bool true)) := by
  refine hspec_fn Try.func27 rfl ok_slices_EqualFunc_api_Segment okr_slices_EqualFunc_api_Segment rfl (by kernel_rfl) ?_
  intro Γ hW0 hN0 hL0
  have hW := hW0 rfl
  clear hW0 hN0 hL0
  unfold x_slices_EqualFunc_api_Segment r_slices_EqualFunc_api_Segment
  repeat' (first
    | (with_reducible first | refine go_seq ?_ | refine go_region ?_ | refine go_regionD mixed_ok ?_ | refine go_cond ?_ | refine go_skip ?_ | refine go_block ?_ | refine nx_code ?_ | refine nx_block ?_ | refine go_ret ?_ | refine nx_nil ?_ | refine go_exit ?_ | refine ex_code ?_ | refine ex_loop ?_ | refine ex_here ?_)
    | ((with_reducible refine ex_past ?_ ?_); (exact by decide))
    | ((with_reducible refine endD_intro ?_ ?_); (exact by kernel_rfl))
    | ((with_reducible refine runR_n ?_ ?_); exact auN)
    | fail
    | (refine auD ?_)
    | (with_reducible refine runR_b (fun h => ?_) (fun h => ?_) <;> first | exact auH | simp only [h, runR_t, runR_f])
    | (with_reducible refine condK_bl ?_ ?_)
    | (with_reducible refine condK_b (fun h => ?_) (fun h => ?_) <;> first | exact auH | skip)
    | fail)
  (all_goals first | exact auP | skip)
  refine go_loopH (α := Nat × Nat) (fun k => [(⟨.d0, .d2, .d1⟩, .v (.int .i64 (k.1 : Nat)))]) (fun _ => [(0, none), (1, none)]) (fun k => k.2) (fun k => l.length - k.1) (fun k => k.1 ≤ l.length) (0, Γ.g0) (Nat.zero_le _) ?_ ?_
  · skip
    refine le_mk ?_ ?_ (Nat.le_refl _)
    all_goals dsimp only [leE, leC, leR, leN, leD, leH, leO, writesX, dstsX, appS, havE, setsE, Env.get, Env.set, N8.get, N8.set, updL, lget, lset, env0]
    all_goals (repeat' (first | exact trivial | exact rfl | apply And.intro))
  rintro ⟨k, gn⟩ hk
  dsimp only at hk ⊢
  dsimp only [writesX, dstsX, appS, havE, setsE, Env.get, Env.set, N8.get, N8.set, updL, lget, lset, env0]
  by_cases hlt : k < l.length
  · obtain ⟨x, hxk⟩ : ∃ x, l[k]? = some x := ⟨_, List.getElem?_eq_getElem hlt⟩
    have ex : xget l k = x := by rw [xget_get, hxk]; rfl
    obtain ⟨g, ⟨rfl, hgl⟩ | rfl⟩ := hx x (List.mem_of_getElem? hxk)
    · have hs := sameSeg_spec g hgl
      repeat' (first
        | (with_reducible first | refine go_seq ?_ | refine go_region ?_ | refine go_regionD mixed_ok ?_ | refine go_cond ?_ | refine go_skip ?_ | refine go_block ?_ | refine nx_code ?_ | refine nx_block ?_ | refine go_ret ?_ | refine nx_nil ?_ | refine go_exit ?_ | refine ex_code ?_ | refine ex_loop ?_ | refine ex_here ?_)
        | ((with_reducible refine ex_past ?_ ?_); (exact by decide))
        | ((with_reducible refine endD_intro ?_ ?_); (exact by kernel_rfl))
        | ((with_reducible refine runR_n ?_ ?_); exact auN)
        | (with_reducible refine runR_call hs ?_)
        | (refine auD ?_)
        | (with_reducible refine runR_b (fun h => ?_) (fun h => ?_) <;> first | exact auH | simp only [h, runR_t, runR_f])
        | (with_reducible refine condK_bl ?_ ?_)
        | (with_reducible refine condK_b (fun h => ?_) (fun h => ?_) <;> first | exact auH | skip)
        | (simp only [Int.toNat_natCast, ex]))
      (all_goals first | exact auP | skip)
      refine nx_loop ⟨(k + 1, gn + 1 + 1), hlt, Nat.sub_lt_sub_left hlt (Nat.lt_succ_self k), ?_⟩
      refine le_mk ?_ ?_ (Nat.le_refl _)
      all_goals dsimp only [leE, leC, leR, leN, leD, leH, leO, writesX, dstsX, appS, havE, setsE, Env.get, Env.set, N8.get, N8.set, updL, lget, lset, env0]
      all_goals (repeat' (first | exact trivial | exact rfl | apply And.intro))
      all_goals exact dint ((IntWalk.i64_in _ (by omega)).trans (by omega))
    · have hs := sameSegN_spec g
      repeat' (first
        | (with_reducible first | refine go_seq ?_ | refine go_region ?_ | refine go_regionD mixed_ok ?_ | refine go_cond ?_ | refine go_skip ?_ | refine go_block ?_ | refine nx_code ?_ | refine nx_block ?_ | refine go_ret ?_ | refine nx_nil ?_ | refine go_exit ?_ | refine ex_code ?_ | refine ex_loop ?_ | refine ex_here ?_)
        | ((with_reducible refine ex_past ?_ ?_); (exact by decide))
        | ((with_reducible refine endD_intro ?_ ?_); (exact by kernel_rfl))
        | ((with_reducible refine runR_n ?_ ?_); exact auN)
        | (with_reducible refine runR_call hs ?_)
        | (refine auD ?_)
        | (with_reducible refine runR_b (fun h => ?_) (fun h => ?_) <;> first | exact auH | simp only [h, runR_t, runR_f])
        | (with_reducible refine condK_bl ?_ ?_)
        | (with_reducible refine condK_b (fun h => ?_) (fun h => ?_) <;> first | exact auH | skip)
        | (simp only [Int.toNat_natCast, ex]))
      (all_goals first | exact auP | skip)
      refine nx_loop ⟨(k + 1, gn + 1 + 1), hlt, Nat.sub_lt_sub_left hlt (Nat.lt_succ_self k), ?_⟩
      refine le_mk ?_ ?_ (Nat.le_refl _)
      all_goals dsimp only [leE, leC, leR, leN, leD, leH, leO, writesX, dstsX, appS, havE, setsE, Env.get, Env.set, N8.get, N8.set, updL, lget, lset, env0]
      all_goals (repeat' (first | exact trivial | exact rfl | apply And.intro))
      all_goals exact dint ((IntWalk.i64_in _ (by omega)).trans (by omega))
  · obtain rfl : k = l.length := by omega
    repeat' (first
      | (with_reducible first | refine go_seq ?_ | refine go_region ?_ | refine go_regionD mixed_ok ?_ | refine go_cond ?_ | refine go_skip ?_ | refine go_block ?_ | refine nx_code ?_ | refine nx_block ?_ | refine go_ret ?_ | refine nx_nil ?_ | refine go_exit ?_ | refine ex_code ?_ | refine ex_loop ?_ | refine ex_here ?_)
      | ((with_reducible refine ex_past ?_ ?_); (exact by decide))
      | ((with_reducible refine endD_intro ?_ ?_); (exact by kernel_rfl))
      | ((with_reducible refine runR_n ?_ ?_); exact auN)
      | fail
      | (refine auD ?_)
      | (with_reducible refine runR_b (fun h => ?_) (fun h => ?_) <;> first | exact auH | simp only [h, runR_t, runR_f])
      | (with_reducible refine condK_bl ?_ ?_)
      | (with_reducible refine condK_b (fun h => ?_) (fun h => ?_) <;> first | exact auH | skip)
      | fail)
    (all_goals first | exact auP | skip)
    all_goals with_reducible refine ret_spec2 (by (try dsimp only [RetOK, resOk, resDs, resD, resV, cellV, cellO, cellP, cellOk, htake, nfD, nfL, nfLL, nfH, lget, partOf, xget, ddrop, dtake, dget, Env.get, N8.get, env0, List.length_cons, List.length_nil, Env.set, N8.set, lset, updL]); (repeat' (first | exact trivial | exact rfl | exact nfLL_map (fun x => by simp [nfL, nfD, nfD]) | decide | apply And.intro))) ?_
    all_goals (try dsimp only [RetOK, resOk, resDs, resD, resV, cellV, cellO, cellP, cellOk, htake, nfD, nfL, nfLL, nfH, lget, partOf, xget, ddrop, dtake, dget, Env.get, N8.get, env0, List.length_cons, List.length_nil, Env.set, N8.set, lset, updL])
    all_goals (try simp only [hsM] at *)
theorem sameSegs_spec (o : Option (List DV)) (hx : ∀ x, o = some x → SegRow x) : Spec Try.prog 8 [dO false o, dO false o] (.v (.bool true)) := by
  cases o with
  | some x =>
    have he := eqSegs_spec [x] (Nat.le_refl _) (fun y hy => by rw [List.mem_singleton.1 hy]; exact hx x rfl)
    dsimp only [dO]
    refine hspec_fn Try.func8 rfl ok_custref_SameSegments okr_custref_SameSegments rfl (by kernel_rfl) ?_
    intro Γ hW0 hN0 hL0
    have hW := hW0 rfl
    clear hW0 hN0 hL0
    unfold x_custref_SameSegments r_custref_SameSegments
    repeat' (first
      | (with_reducible first | refine go_seq ?_ | refine go_region ?_ | refine go_regionD mixed_ok ?_ | refine go_cond ?_ | refine go_skip ?_ | refine go_block ?_ | refine nx_code ?_ | refine nx_block ?_ | refine go_ret ?_ | refine nx_nil ?_ | refine go_exit ?_ | refine ex_code ?_ | refine ex_loop ?_ | refine ex_here ?_)
      | ((with_reducible refine ex_past ?_ ?_); (exact by decide))
      | ((with_reducible refine endD_intro ?_ ?_); (exact by kernel_rfl))
      | ((with_reducible refine runR_n ?_ ?_); exact auN)
      | (with_reducible refine runR_call he ?_)
      | (refine auD ?_)
      | (with_reducible refine runR_b (fun h => ?_) (fun h => ?_) <;> first | exact auH | simp only [h, runR_t, runR_f])
      | (with_reducible refine condK_bl ?_ ?_)
      | (with_reducible refine condK_b (fun h => ?_) (fun h => ?_) <;> first | exact auH | skip)
      | fail)
    (all_goals first | exact auP | skip)
    all_goals with_reducible refine ret_spec2 (by (try dsimp only [RetOK, resOk, resDs, resD, resV, cellV, cellO, cellP, cellOk, htake, nfD, nfL, nfLL, nfH, lget, partOf, xget, ddrop, dtake, dget, Env.get, N8.get, env0, List.length_cons, List.length_nil, Env.set, N8.set, lset, updL]); (repeat' (first | exact trivial | exact rfl | exact nfLL_map (fun x => by simp [nfL, nfD, nfD]) | decide | apply And.intro))) ?_
    all_goals (try dsimp only [RetOK, resOk, resDs, resD, resV, cellV, cellO, cellP, cellOk, htake, nfD, nfL, nfLL, nfH, lget, partOf, xget, ddrop, dtake, dget, Env.get, N8.get, env0, List.length_cons, List.length_nil, Env.set, N8.set, lset, updL])
    all_goals (try simp only [hsM] at *)
  | none =>
    have he : Spec Try.prog 27 [nilS, nilS, .fn (.func 28) [] []] (.v (.bool true)) := by
      refine hspec_args (eqSegs_spec [] (Nat.zero_le _) (fun y hy => by simp at hy)) (fun K w vs hv => argsRel_mem hv rfl (fun i d e h1 h2 v hv => ?_))
      match i, h1, h2 with
      | 0, h1, h2 =>
        obtain rfl := Option.some.inj h1
        obtain rfl := Option.some.inj h2
        exact nil_rel hv _ (.inr ⟨rfl, 9, rfl⟩)
      | 1, h1, h2 =>
        obtain rfl := Option.some.inj h1
        obtain rfl := Option.some.inj h2
        exact nil_rel hv _ (.inr ⟨rfl, 9, rfl⟩)
      | 2, h1, h2 =>
        obtain rfl := Option.some.inj h1
        obtain rfl := Option.some.inj h2
        exact hv
      | i + 3, h1, _ => simp at h1
    dsimp only [dO]
    refine hspec_fn Try.func8 rfl ok_custref_SameSegments okr_custref_SameSegments rfl (by kernel_rfl) ?_
    intro Γ hW0 hN0 hL0
    have hW := hW0 rfl
    clear hW0 hN0 hL0
    unfold x_custref_SameSegments r_custref_SameSegments
    repeat' (first
      | (with_reducible first | refine go_seq ?_ | refine go_region ?_ | refine go_regionD mixed_ok ?_ | refine go_cond ?_ | refine go_skip ?_ | refine go_block ?_ | refine nx_code ?_ | refine nx_block ?_ | refine go_ret ?_ | refine nx_nil ?_ | refine go_exit ?_ | refine ex_code ?_ | refine ex_loop ?_ | refine ex_here ?_)
      | ((with_reducible refine ex_past ?_ ?_); (exact by decide))
      | ((with_reducible refine endD_intro ?_ ?_); (exact by kernel_rfl))
      | ((with_reducible refine runR_n ?_ ?_); exact auN)
      | (with_reducible refine runR_call he ?_)
      | (refine auD ?_)
      | (with_reducible refine runR_b (fun h => ?_) (fun h => ?_) <;> first | exact auH | simp only [h, runR_t, runR_f])
      | (with_reducible refine condK_bl ?_ ?_)
      | (with_reducible refine condK_b (fun h => ?_) (fun h => ?_) <;> first | exact auH | skip)
      | fail)
    (all_goals first | exact auP | skip)
    all_goals with_reducible refine ret_spec2 (by (try dsimp only [RetOK, resOk, resDs, resD, resV, cellV, cellO, cellP, cellOk, htake, nfD, nfL, nfLL, nfH, lget, partOf, xget, ddrop, dtake, dget, Env.get, N8.get, env0, List.length_cons, List.length_nil, Env.set, N8.set, lset, updL]); (repeat' (first | exact trivial | exact rfl | exact nfLL_map (fun x => by simp [nfL, nfD, nfD]) | decide | apply And.intro))) ?_
    all_goals (try dsimp only [RetOK, resOk, resDs, resD, resV, cellV, cellO, cellP, cellOk, htake, nfD, nfL, nfLL, nfH, lget, partOf, xget, ddrop, dtake, dget, Env.get, N8.get, env0, List.length_cons, List.length_nil, Env.set, N8.set, lset, updL])
    all_goals (try simp only [hsM] at *)
theorem mvd_opts (g : Sg) (a b : Int) : (mvd g a b).opts.length = g.opts.length := by
  unfold mvd
  split
  · rfl
  · simp
theorem srvT_rows (g : Sg) (now : Int) (q : List Gd) (t : Gd) (hl : g.opts.length ≤ maxLen) : (∀ x, (srvT g now q t).2.1 = some x → SegRow x) ∧ (∀ x, (srvT g now q t).2.2 = some x → SegRow x) := by
  have hm : SegRow (mvd g t.dl 0).enc := segRow_enc _ (by rw [mvd_opts]; exact hl)
  have hQ := segRow_encN (sgQ g t)
  have hK := segRow_encN (sgK g)
  unfold srvT
  split
  · refine ⟨fun x h => ?_, fun x h => (by cases h)⟩
    obtain rfl := Option.some.inj h
    split
    · exact hm
    · exact hQ
  split
  · split
    · exact ⟨fun x h => (by cases h), fun x h => (by cases h)⟩
    · refine ⟨fun x h => ?_, fun x h => (by cases h)⟩
      obtain rfl := Option.some.inj h
      exact hm
  · split
    · refine ⟨fun x h => (by cases h), fun x h => ?_⟩
      obtain rfl := Option.some.inj h
      exact hK
    · exact ⟨fun x h => (by cases h), fun x h => (by cases h)⟩
theorem srvR_rows (sz now : Int) (ms : List Gd) (r : Rd) (g : Sg) (hl : g.opts.length ≤ maxLen) : (∀ x, (srvR sz ms r g now).1.2.1 = some x → SegRow x) ∧ (∀ x, (srvR sz ms r g now).1.2.2 = some x → SegRow x) := by
  unfold srvR srvO
  split
  · exact ⟨fun x h => (by cases h), fun x h => (by cases h)⟩
  split
  · exact srvT_rows g now _ _ hl
  · exact ⟨fun x h => (by cases h), fun x h => (by cases h)⟩
theorem srvR_len (sz now : Int) (ms : List Gd) (r : Rd) (g : Sg) (hl : ms.length ≤ 1000000000000) : (srvR sz ms r g now).1.1.length ≤ maxLen := by
  unfold srvR srvO maxLen
  split
  · show ms.length ≤ _
    omega
  have h1 : (yngG now ms).length ≤ ms.length := List.length_filter_le _ _
  generalize yngG now ms = q at *
  split
  · have h2 : ∀ r', (butR r' q).length ≤ q.length := fun r' => List.length_filter_le _ _
    unfold srvT
    have h3 := h2 (fndL r.turn q).1.rd
    split
    · show (butR _ q).length ≤ _
      omega
    split
    · split
      · show q.length ≤ _
        omega
      · show (butR _ q ++ [_]).length ≤ _
        rw [List.length_append, List.length_singleton]
        omega
    · split
      · show (butR _ q ++ [_]).length ≤ _
        rw [List.length_append, List.length_singleton]
        omega
      · show q.length ≤ _
        omega
  · show q.length ≤ _
    omega
set_option maxHeartbeats 4000000 in
theorem servers_spec (k0 k1 sz now : Int) (ms : List Gd) (r : Rd) (g : Sg) (hl : ms.length ≤ 2000000) (hr : U32 r.fr ∧ U32 r.to) (hg : SegOk g) (hg2 : SegArg g) (hd : ∀ t ∈ ms, GdOk t) : Spec Try.prog 3 [dPx k0 k1 sz ms, .agg r.enc, dG g, .v (.int .i64 now)] (.v (.bool true)) := by
  have h1 := server_spec k0 k1 sz now ms r g (by omega) hr hg hg2 hd
  have h2 := heardServer_spec k0 k1 sz now ms r g (by unfold maxLen; omega) hr hg hg2 hd
  obtain ⟨hc, hs⟩ := srvR_rows sz now ms r g hg2.1
  have hpl := srvR_len sz now ms r g (by omega)
  generalize srvR sz ms r g now = R at *
  obtain ⟨⟨ps, c, s⟩, e⟩ := R
  dsimp only [dSv, dHd] at *
  have h3 := sameProxy_spec k0 k1 sz ps hpl
  have h4 := sameSegs_spec c hc
  have h5 := sameSegs_spec s hs
  cases c <;> cases s
  all_goals
    dsimp only [dO] at *
    refine hspec_fn Try.func3 rfl ok_custlaw_ProxyServers okr_custlaw_ProxyServers rfl (by kernel_rfl) ?_
    intro Γ hW0 hN0 hL0
    have hW := hW0 rfl
    clear hW0 hN0 hL0
    unfold x_custlaw_ProxyServers r_custlaw_ProxyServers
    repeat' (first
      | (with_reducible first | refine go_seq ?_ | refine go_region ?_ | refine go_regionD mixed_ok ?_ | refine go_cond ?_ | refine go_skip ?_ | refine go_block ?_ | refine nx_code ?_ | refine nx_block ?_ | refine go_ret ?_ | refine nx_nil ?_ | refine go_exit ?_ | refine ex_code ?_ | refine ex_loop ?_ | refine ex_here ?_)
      | ((with_reducible refine ex_past ?_ ?_); (exact by decide))
      | ((with_reducible refine endD_intro ?_ ?_); (exact by kernel_rfl))
      | ((with_reducible refine runR_n ?_ ?_); exact auN)
      | (first | (simp only [eq_self, decide_true, Bool.and_self, Bool.and_true]) | (with_reducible refine runR_call h1 ?_) | (with_reducible refine runR_call h2 ?_) | (with_reducible refine runR_call h3 ?_) | (with_reducible refine runR_call h4 ?_) | (with_reducible refine runR_call h5 ?_))
      | (refine auD ?_)
      | (with_reducible refine runR_b (fun h => ?_) (fun h => ?_) <;> first | exact auH | simp only [h, runR_t, runR_f])
      | (with_reducible refine condK_bl ?_ ?_)
      | (with_reducible refine condK_b (fun h => ?_) (fun h => ?_) <;> first | exact auH | skip)
      | fail)
    (all_goals first | exact auP | skip)
    all_goals first
      | (exfalso; simp at h; done)
      | skip
    all_goals with_reducible refine ret_spec2 (by (try dsimp only [RetOK, resOk, resDs, resD, resV, cellV, cellO, cellP, cellOk, htake, nfD, nfL, nfLL, nfH, lget, partOf, xget, ddrop, dtake, dget, Env.get, N8.get, env0, List.length_cons, List.length_nil, Env.set, N8.set, lset, updL]); (repeat' (first | exact trivial | exact rfl | exact nfLL_map (fun x => by simp [nfL, nfD, nfD]) | decide | apply And.intro))) ?_
    all_goals (try dsimp only [RetOK, resOk, resDs, resD, resV, cellV, cellO, cellP, cellOk, htake, nfD, nfL, nfLL, nfH, lget, partOf, xget, ddrop, dtake, dget, Env.get, N8.get, env0, List.length_cons, List.length_nil, Env.set, N8.set, lset, updL])
    all_goals (try simp only [hsM] at *)
    all_goals first
      | rfl
      | (refine dbool ?_; simp)
theorem u32_wf {x : Int} (h : (Lit.int .u32 x).wf = true) : 0 ≤ x ∧ x < 4294967296 := by
  have h2 : IntKind.u32.min ≤ x ∧ x ≤ IntKind.u32.max := by simpa [Lit.wf] using h
  have e1 : IntKind.u32.min = 0 := by decide
  have e2 : IntKind.u32.max = 4294967295 := by decide
  rw [e1, e2] at h2
  omega
abbrev opT := Int × ByteArray × Unit
abbrev opOf (t : opT) : Op2 := ⟨t.1, t.2.1.data.toList⟩
theorem opOf_enc (t : opT) : (opOf t).enc = [.v (.int .i64 t.1), .v (.string t.2.1)] := by
  show [DV.v (.int .i64 t.1), .v (.string (mkS t.2.1.data.toList))] = _
  rw [mkS_data]
abbrev gdT := (Int × Int × Int × Int × Unit) × Int × Int × Int × Bool × Int × Unit
abbrev gdOf (t : gdT) : Gd := ⟨t.1.1, t.1.2.1, t.1.2.2.1, t.1.2.2.2.1, t.2.1, t.2.2.1, t.2.2.2.1, t.2.2.2.2.1, t.2.2.2.2.2.1⟩
theorem ol1 (l : List opT) (h : l.length * 100000000 ≤ 140737488351232) : 40 * (l.map opOf).length ≤ 140737488355000 ∧ (l.map opOf).length ≤ maxLen ∧ (l.map opOf).length * 24 ≤ 140737488351232 := by
  rw [List.length_map]; unfold maxLen; omega
theorem ol2 (l : List gdT) (h : l.length * 100000000 ≤ 140737488351232) : (l.map gdOf).length ≤ 2000000 := by rw [List.length_map]; omega
theorem sv_ProxyServers (k0 k1 sz : Int) (ms : List gdT) (wf wt wp wq : Int) (fr to seq ack flags win urg : Int) (l : List opT) (data : ByteArray) (now : Int) (u0 u1 u2 u3 u4 : Unit) : valSs shwProxyServers (((k0, k1, u0), sz, ms, u1), (wf, wt, wp, wq, u2), (fr, to, seq, ack, flags, win, urg, l, data, u3), now, u4) = [dPx k0 k1 sz (ms.map gdOf), .agg (Rd.enc ⟨wf, wt, wp, wq⟩), dG ⟨fr, to, seq, ack, flags, win, urg, l.map opOf, data.data.toList⟩, .v (.int .i64 now)] := by
  have e1 : (ms.map gdOf).map Gd.enc = ms.map (fun t => (gdOf t).enc) := by rw [List.map_map]; rfl
  have e2 : (l.map opOf).map Op2.enc = l.map (fun t => [.v (.int .i64 t.1), .v (.string t.2.1)]) := by rw [List.map_map, show (Op2.enc ∘ opOf) = fun t => [.v (.int .i64 t.1), .v (.string t.2.1)] from funext opOf_enc]
  rw [dPx, dG, Sg.enc]
  dsimp only
  rw [mkS_data, e1, e2]
  rfl
theorem coreProxyServers (W : World) (args : Array Value) (h : opnAll W W.heap.size (shsProxyServers.map Sh.wide) args.toList) :
    Calls Try.prog 3 args W fun e W' => e = .returned (.bool true) ∧ Below W.heap.size W W' := by
  have h' : opnAll W W.heap.size shwProxyServers args.toList := h
  refine law_core rfl h' (fun x hx => ?_)
  obtain ⟨⟨⟨k0, k1, u0⟩, sz, ms, u1⟩, ⟨wf, wt, wp, wq, u2⟩, ⟨fr, to, seq, ack, flags, win, urg, l, data, u3⟩, now, u4⟩ := x
  obtain ⟨⟨-, -, ⟨hm2, -, hmd⟩, -⟩, ⟨hwf, hwt, -, -, -⟩, ⟨-, -, hq, hk, -, -, -, ⟨hl2, -, hd⟩, hdd, -⟩, -, -⟩ := hx
  obtain ⟨a1, a2, a3⟩ := ol1 l hl2
  have hop : ∀ o ∈ l.map opOf, o.d.length ≤ 140737488351232 := fun t ht => by
    obtain ⟨y, hy, rfl⟩ := List.mem_map.1 ht
    exact (hd y hy).2.1
  refine Eq.mpr (congrArg (fun l => Spec Try.prog 3 l (.v (.bool true))) (sv_ProxyServers k0 k1 sz ms wf wt wp wq fr to seq ack flags win urg l data now u0 u1 u2 u3 u4)) (servers_spec k0 k1 sz now (ms.map gdOf) ⟨wf, wt, wp, wq⟩ ⟨fr, to, seq, ack, flags, win, urg, l.map opOf, data.data.toList⟩ (ol2 ms hm2) ⟨u32_wf hwf, u32_wf hwt⟩ ⟨a1, hop, hdd, u32_wf hq, u32_wf hk⟩ ⟨a2, a3, hop, u32_wf hq, u32_wf hk⟩ ?_)
  intro t ht
  obtain ⟨y, hy, rfl⟩ := List.mem_map.1 ht
  obtain ⟨-, h1, h2, h3, -⟩ := hmd y hy
  exact ⟨u32_wf h1, u32_wf h2, u32_wf h3⟩
/-! THE ROW: the frame round 'core', where the arguments are small -/
theorem ownProxyServers : ownKnob Try.prog.godebug = none := by kernel_rfl
theorem fitProxyServers : (List.range shsProxyServers.length).all (fun i => match shsProxyServers[i]?, Try.f3.params.toList[i]? with | some s, some t => s.fit Try.prog none t | _, _ => false) = true := by kernel_rfl
theorem laidProxyServers : laidOutB Try.prog = true := by kernel_rfl
theorem readProxyServers : Try.f3.params.toList.all (fun t => Try.prog.readableRec t && decide (t < Try.prog.types.size)) = true := by kernel_rfl
set_option maxRecDepth 100000 in
theorem liftedProxyServers (os : Os) (started : os.Started) (H : Type) (enc : TypeId × Value → H) (F : Stop.Interp) :
    ReturnsInHanded {} Try.checked os 3 .any ((Rows.OpenSpec.upto Rows.proxyServersSpec).pre6 enc Try.prog Try.f3 Rows.proxyServersUptoRow.domain false) (((Rows.OpenSpec.upto Rows.proxyServersSpec).at F).post enc Try.prog Try.f3 false true false false) :=
  law_lifted_upto (C := Try.checked) (enc := enc) ownProxyServers started (by kernel_rfl) Try.func3
    (OpenSpec.witness (enc := enc) (C := Try.checked) (s := Rows.OpenSpec.upto Rows.proxyServersSpec) (k := Rows.uptoSmall) rfl false ⟨#[], #[.agg #[.int .u64 0, .int .u64 0, .int .i64 0, .slice none 0 0], .agg #[.int .u32 0, .int .u32 0, .int .i64 0, .int .i64 0], .agg #[.int .i64 0, .int .i64 0, .int .u32 0, .int .u32 0, .int .i64 0, .int .i64 0, .int .i64 0, .slice none 0 0, .string ByteArray.empty], .int .i64 0], []⟩ 8 (by kernel_rfl) (by kernel_rfl) (by kernel_rfl)
      (x := ([.agg [.agg [.lit (.int .u64 0), .lit (.int .u64 0)], .lit (.int .i64 0), .nil], .agg [.lit (.int .u32 0), .lit (.int .u32 0), .lit (.int .i64 0), .lit (.int .i64 0)], .agg [.lit (.int .i64 0), .lit (.int .i64 0), .lit (.int .u32 0), .lit (.int .u32 0), .lit (.int .i64 0), .lit (.int .i64 0), .lit (.int .i64 0), .nil, .lit (.string [])], .lit (.int .i64 0)], [], [])) (by kernel_rfl) rfl (by kernel_rfl))
    shsProxyServers (by kernel_rfl) fitProxyServers rfl (fun ds h => by
      match ds, h with
      | [d0, d1, d2, d3], _ => exact ⟨rfl, rfl, rfl⟩) 4 (by kernel_rfl) Try.underlying4 laidProxyServers readProxyServers coreProxyServers
theorem overProxyServers : Rows.proxyServersUptoRow.holds Try.pinned (Rows.OpenSpec.upto Rows.proxyServersSpec) :=
  OpenClaim.holds_of_cond 3 Try.f3 rfl rfl rfl rfl rfl rfl rfl ⟨rfl, rfl, rfl, rfl, rfl⟩ rfl rfl rfl rfl rfl (by kernel_rfl) Try.func3 (by kernel_rfl)
    (of_decide_eq_true (by kernel_rfl)) (by unfold Func.isWrapper; rw [if_neg (of_decide_eq_false (by kernel_rfl))]; exact ⟨rfl, rfl⟩)
    (fun os started H enc _ F => liftedProxyServers os started H enc F)
/-- THE STATEMENT -/
theorem provedProxyServersUpto : Rows.ProxyServersUptoSaid := overProxyServers
#print axioms provedProxyServersUpto
end Go.Proofs.Ytegejpieedckiaa
