/-
  ProxyClients: the law's function returns true wherever the arguments' bulk is at most 1048576 (there, a row of 40 bytes for each option can be made).
-/
import Derived.Test.YtegejpieedckiaaProxZ
import Derived.Test.YtegejpieedckiaaProxR
import Derived.Test.YtegejpieedckiaaTcpE
import Derived.Test.YtegejpieedckiaaUpto
namespace Go.Proofs.Ytegejpieedckiaa
open Go.ChangeShapes Go.WideShapes Go.ChangeAt Go.RowKit
def shsProxyClients : List Sh := [.cons (.cons (.int .u64) (.cons (.int .u64) (.nil))) (.cons (.int .i64) (.cons (.slice 48 9 (.cons (.cons (.int .u32) (.cons (.int .u32) (.cons (.int .i64) (.cons (.int .i64) (.nil))))) (.cons (.int .u32) (.cons (.int .u32) (.cons (.int .u32) (.cons (.bool) (.cons (.int .i64) (.nil)))))))) (.nil))), .cons (.int .u32) (.cons (.int .u32) (.cons (.int .i64) (.cons (.int .i64) (.nil)))), .cons (.int .i64) (.cons (.int .i64) (.cons (.int .u32) (.cons (.int .u32) (.cons (.int .i64) (.cons (.int .i64) (.cons (.int .i64) (.cons (.slice 24 2 (.cons (.int .i64) (.cons (.str) (.nil)))) (.cons (.str) (.nil))))))))), .int .i64]
def shwProxyClients : List Sh := [.cons (.cons (.int .u64) (.cons (.int .u64) (.nil))) (.cons (.int .i64) (.cons (.slice 100000000 9 (.cons (.cons (.int .u32) (.cons (.int .u32) (.cons (.int .i64) (.cons (.int .i64) (.nil))))) (.cons (.int .u32) (.cons (.int .u32) (.cons (.int .u32) (.cons (.bool) (.cons (.int .i64) (.nil)))))))) (.nil))), .cons (.int .u32) (.cons (.int .u32) (.cons (.int .i64) (.cons (.int .i64) (.nil)))), .cons (.int .i64) (.cons (.int .i64) (.cons (.int .u32) (.cons (.int .u32) (.cons (.int .i64) (.cons (.int .i64) (.cons (.int .i64) (.cons (.slice 100000000 2 (.cons (.int .i64) (.cons (.str) (.nil)))) (.cons (.str) (.nil))))))))), .int .i64]
set_option linter.unusedVariables false
set_option linter.unusedSimpArgs false
set_option maxHeartbeats 1000000 in
theorem gdeq_same (l : List Gd) (c c' : Bool) (hl : l.length ≤ maxLen) : Spec Try.prog 26 [.snap 9 (l.map Gd.enc) c, .snap 9 (l.map Gd.enc) c'] (.v (.bool true)) := by
  unfold maxLen at hl
  refine hspec_fn Try.func26 rfl ok_slices_Equal_api_Guarded okr_slices_Equal_api_Guarded rfl (by kernel_rfl) ?_
  intro Γ hW0 hN0 hL0
  have hW := hW0 rfl
  clear hW0 hN0 hL0
  unfold x_slices_Equal_api_Guarded r_slices_Equal_api_Guarded
  refine auC ?_
  repeat' (first
    | (refine auS ?_)
    | fail
    | (refine auD ?_)
    | (with_reducible refine runR_b (fun h => ?_) (fun h => ?_) <;> first | exact auH | simp only [h, runR_t, runR_f])
    | (with_reducible refine condK_bl ?_ ?_)
    | (with_reducible refine condK_b (fun h => ?_) (fun h => ?_) <;> first | exact auH | skip)
    | fail)
  refine go_loopH (α := Nat) (fun k => [(⟨.d0, .d1, .d5⟩, .v (.int .i64 (k : Nat)))]) (fun _ => []) (fun _ => Γ.g0) (fun k => l.length - k) (fun k => k ≤ l.length) 0 (Nat.zero_le _) ?_ ?_
  · skip
    refine le_mk ?_ ?_ (Nat.le_refl _)
    all_goals first | refine auE ?_ | exact auE0
    all_goals (repeat' (first | exact trivial | exact rfl | apply And.intro))
  · rintro k hk
    refine auL ?_
    by_cases hlt : k < l.length
    · obtain ⟨t, ht⟩ : ∃ t, l[k]? = some t := ⟨_, List.getElem?_eq_getElem hlt⟩
      have ex := xget_map Gd.enc l k t ht
      repeat' (first
        | (refine auS ?_)
        | fail
        | (refine auD ?_)
        | (with_reducible refine runR_b (fun h => ?_) (fun h => ?_) <;> first | exact auH | simp only [h, runR_t, runR_f])
        | (with_reducible refine condK_bl ?_ ?_)
        | (with_reducible refine condK_b (fun h => ?_) (fun h => ?_) <;> first | exact auH | skip)
        | (simp only [Int.toNat_natCast, ex]))
      (all_goals first | exact auP | skip)
      all_goals first
        | (exfalso; simp at h; done)
        | (refine nx_loop ⟨k + 1, Nat.succ_le_of_lt hlt, Nat.sub_lt_sub_left hlt (Nat.lt_succ_self k), ?_⟩
           (refine le_mk ?_ ?_ (Nat.le_refl _)); (all_goals first | refine auE ?_ | exact auE0); (all_goals (repeat' (first | exact trivial | exact rfl | apply And.intro)))
           all_goals exact dint ((IntWalk.i64_in _ (by omega)).trans (by omega)))
    · skip
      repeat' (first
        | (refine auS ?_)
        | fail
        | (refine auD ?_)
        | (with_reducible refine runR_b (fun h => ?_) (fun h => ?_) <;> first | exact auH | simp only [h, runR_t, runR_f])
        | (with_reducible refine condK_bl ?_ ?_)
        | (with_reducible refine condK_b (fun h => ?_) (fun h => ?_) <;> first | exact auH | skip)
        | fail)
      (all_goals first | exact auP | skip)
      all_goals refine auF ?_
      all_goals (try first | refine auR ?_ | exact auR0)
      all_goals (try simp only [hsM] at *)
theorem sameProxy_spec (k0 k1 sz : Int) (ms : List Gd) (hl : ms.length ≤ maxLen) : Spec Try.prog 7 [dPx k0 k1 sz ms, dPx k0 k1 sz ms] (.v (.bool true)) := by
  have h1 := gdeq_same ms false false hl
  refine hspec_fn Try.func7 rfl ok_custref_SameProxy okr_custref_SameProxy rfl (by kernel_rfl) ?_
  intro Γ hW0 hN0 hL0
  have hW := hW0 rfl
  clear hW0 hN0 hL0
  unfold x_custref_SameProxy r_custref_SameProxy
  refine auC ?_
  repeat' (first
    | (refine auS ?_)
    | (first | (simp only [eq_self, decide_true, Bool.and_self, Bool.and_true]) | (with_reducible refine runR_call h1 ?_))
    | (refine auD ?_)
    | (with_reducible refine runR_b (fun h => ?_) (fun h => ?_) <;> first | exact auH | simp only [h, runR_t, runR_f])
    | (with_reducible refine condK_bl ?_ ?_)
    | (with_reducible refine condK_b (fun h => ?_) (fun h => ?_) <;> first | exact auH | skip)
    | fail)
  (all_goals first | exact auP | skip)
  all_goals first
    | (exfalso; simp_all; done)
    | skip
  all_goals refine auF ?_
  all_goals (try first | refine auR ?_ | exact auR0)
  all_goals (try simp only [hsM] at *)
  all_goals rfl
theorem opeq_nil : Spec Try.prog 54 [nilS, nilS] (.v (.bool true)) := by
  refine hspec_args (opeq_same [] false false (Nat.zero_le _)) (fun K w vs hv => argsRel_mem hv rfl (fun i d e h1 h2 v hv => ?_))
  match i, h1, h2 with
  | 0, h1, h2 =>
    obtain rfl := Option.some.inj h1
    obtain rfl := Option.some.inj h2
    exact nil_rel hv _ (.inr ⟨rfl, 2, rfl⟩)
  | 1, h1, h2 =>
    obtain rfl := Option.some.inj h1
    obtain rfl := Option.some.inj h2
    exact nil_rel hv _ (.inr ⟨rfl, 2, rfl⟩)
  | i + 2, h1, _ => simp at h1
theorem sameSegN_spec (g : Sg) : Spec Try.prog 28 [.agg g.encN, .agg g.encN] (.v (.bool true)) := by
  have he := opeq_nil
  refine hspec_fn Try.func28 rfl ok_custref_SameSegment okr_custref_SameSegment rfl (by kernel_rfl) ?_
  intro Γ hW0 hN0 hL0
  have hW := hW0 rfl
  clear hW0 hN0 hL0
  unfold x_custref_SameSegment r_custref_SameSegment
  refine auC ?_
  repeat' (first
    | (refine auS ?_)
    | (first | (simp only [eq_self, decide_true, Bool.and_self, Bool.and_true]) | (with_reducible refine runR_call he ?_))
    | (refine auD ?_)
    | (with_reducible refine runR_b (fun h => ?_) (fun h => ?_) <;> first | exact auH | simp only [h, runR_t, runR_f])
    | (with_reducible refine condK_bl ?_ ?_)
    | (with_reducible refine condK_b (fun h => ?_) (fun h => ?_) <;> first | exact auH | skip)
    | fail)
  (all_goals first | exact auP | skip)
  all_goals first
    | (exfalso; simp at h; done)
    | skip
  all_goals refine auF ?_
  all_goals (try first | refine auR ?_ | exact auR0)
  all_goals (try simp only [hsM] at *)
theorem sameSegC_spec (g : Sg) (hl : g.opts.length ≤ maxLen) : Spec Try.prog 28 [.agg (g.encC true), .agg (g.encC false)] (.v (.bool true)) := by
  have he := opeq_same g.opts true false hl
  refine hspec_fn Try.func28 rfl ok_custref_SameSegment okr_custref_SameSegment rfl (by kernel_rfl) ?_
  intro Γ hW0 hN0 hL0
  have hW := hW0 rfl
  clear hW0 hN0 hL0
  unfold x_custref_SameSegment r_custref_SameSegment
  refine auC ?_
  repeat' (first
    | (refine auS ?_)
    | (first | (simp only [eq_self, decide_true, Bool.and_self, Bool.and_true]) | (with_reducible refine runR_call he ?_))
    | (refine auD ?_)
    | (with_reducible refine runR_b (fun h => ?_) (fun h => ?_) <;> first | exact auH | simp only [h, runR_t, runR_f])
    | (with_reducible refine condK_bl ?_ ?_)
    | (with_reducible refine condK_b (fun h => ?_) (fun h => ?_) <;> first | exact auH | skip)
    | fail)
  (all_goals first | exact auP | skip)
  all_goals first
    | (exfalso; simp at h; done)
    | skip
  all_goals refine auF ?_
  all_goals (try first | refine auR ?_ | exact auR0)
  all_goals (try simp only [hsM] at *)
def SegK.ok : SegK → Prop
  | .f g => g.opts.length ≤ maxLen
  | .n g => True
  | .o g => g.opts.length ≤ maxLen
  | .a g => g.opts.length ≤ maxLen
set_option maxHeartbeats 2000000 in
theorem sameSegs_spec (o : Option SegK) (hx : ∀ x, o = some x → x.ok) : Spec Try.prog 8 [dKp o, dKr o] (.v (.bool true)) := by
  cases o with
  | some x =>
    have hok := hx x rfl
    cases x with
    | f g =>
      have hs := sameSeg_spec g hok
      have hen : Spec Try.prog 27 [.snap 9 [g.enc] false, .snap 9 [g.enc] false, .fn (.func 28) [] []] (.v (.bool true)) := by
        refine hspec_fn Try.func27 rfl ok_slices_EqualFunc_api_Segment okr_slices_EqualFunc_api_Segment rfl (by kernel_rfl) ?_
        intro Γ hW0 hN0 hL0
        have hW := hW0 rfl
        clear hW0 hN0 hL0
        unfold x_slices_EqualFunc_api_Segment r_slices_EqualFunc_api_Segment
        refine auC ?_
        repeat' (first
          | (refine auS ?_)
          | fail
          | (refine auD ?_)
          | (with_reducible refine runR_b (fun h => ?_) (fun h => ?_) <;> first | exact auH | simp only [h, runR_t, runR_f])
          | (with_reducible refine condK_bl ?_ ?_)
          | (with_reducible refine condK_b (fun h => ?_) (fun h => ?_) <;> first | exact auH | skip)
          | fail)
        (all_goals first | exact auP | skip)
        refine go_loopH (α := Nat × Nat) (fun k => [(⟨.d0, .d2, .d1⟩, .v (.int .i64 (k.1 : Nat)))]) (fun _ => [(0, none), (1, none)]) (fun k => k.2) (fun k => 1 - k.1) (fun k => k.1 ≤ 1) (0, Γ.g0) (Nat.zero_le _) ?_ ?_
        · skip
          refine le_mk ?_ ?_ (Nat.le_refl _)
          all_goals first | refine auE ?_ | exact auE0
          all_goals (repeat' (first | exact trivial | exact rfl | apply And.intro))
        rintro ⟨k, gn⟩ hk
        dsimp only at hk ⊢
        refine auL ?_
        by_cases hlt : k < 1
        · obtain rfl : k = 0 := by omega
          repeat' (first
            | (refine auS ?_)
            | (with_reducible refine runR_call hs ?_)
            | (refine auD ?_)
            | (with_reducible refine runR_b (fun h => ?_) (fun h => ?_) <;> first | exact auH | simp only [h, runR_t, runR_f])
            | (with_reducible refine condK_bl ?_ ?_)
            | (with_reducible refine condK_b (fun h => ?_) (fun h => ?_) <;> first | exact auH | skip)
            | (simp only [Int.toNat_natCast]))
          (all_goals first | exact auP | skip)
          refine nx_loop ⟨(1, gn + 1 + 1), Nat.le_refl _, Nat.zero_lt_one, ?_⟩
          refine le_mk ?_ ?_ (Nat.le_refl _)
          all_goals first | refine auE ?_ | exact auE0
          all_goals (repeat' (first | exact trivial | exact rfl | apply And.intro))
          all_goals rfl
        · obtain rfl : k = 1 := by omega
          repeat' (first
            | (refine auS ?_)
            | fail
            | (refine auD ?_)
            | (with_reducible refine runR_b (fun h => ?_) (fun h => ?_) <;> first | exact auH | simp only [h, runR_t, runR_f])
            | (with_reducible refine condK_bl ?_ ?_)
            | (with_reducible refine condK_b (fun h => ?_) (fun h => ?_) <;> first | exact auH | skip)
            | fail)
          (all_goals first | exact auP | skip)
          all_goals refine auF ?_
          all_goals (try first | refine auR ?_ | exact auR0)
          all_goals (try simp only [hsM] at *)
      dsimp only [dKp, dKr, SegK.row]
      refine hspec_fn Try.func8 rfl ok_custref_SameSegments okr_custref_SameSegments rfl (by kernel_rfl) ?_
      intro Γ hW0 hN0 hL0
      have hW := hW0 rfl
      clear hW0 hN0 hL0
      unfold x_custref_SameSegments r_custref_SameSegments
      refine auC ?_
      repeat' (first
        | (refine auS ?_)
        | (with_reducible refine runR_call hen ?_)
        | (refine auD ?_)
        | (with_reducible refine runR_b (fun h => ?_) (fun h => ?_) <;> first | exact auH | simp only [h, runR_t, runR_f])
        | (with_reducible refine condK_bl ?_ ?_)
        | (with_reducible refine condK_b (fun h => ?_) (fun h => ?_) <;> first | exact auH | skip)
        | fail)
      (all_goals first | exact auP | skip)
      all_goals refine auF ?_
      all_goals (try first | refine auR ?_ | exact auR0)
      all_goals (try simp only [hsM] at *)
    | n g =>
      have hs := sameSegN_spec g
      have hen : Spec Try.prog 27 [.snap 9 [g.encN] false, .snap 9 [g.encN] false, .fn (.func 28) [] []] (.v (.bool true)) := by
        refine hspec_fn Try.func27 rfl ok_slices_EqualFunc_api_Segment okr_slices_EqualFunc_api_Segment rfl (by kernel_rfl) ?_
        intro Γ hW0 hN0 hL0
        have hW := hW0 rfl
        clear hW0 hN0 hL0
        unfold x_slices_EqualFunc_api_Segment r_slices_EqualFunc_api_Segment
        refine auC ?_
        repeat' (first
          | (refine auS ?_)
          | fail
          | (refine auD ?_)
          | (with_reducible refine runR_b (fun h => ?_) (fun h => ?_) <;> first | exact auH | simp only [h, runR_t, runR_f])
          | (with_reducible refine condK_bl ?_ ?_)
          | (with_reducible refine condK_b (fun h => ?_) (fun h => ?_) <;> first | exact auH | skip)
          | fail)
        (all_goals first | exact auP | skip)
        refine go_loopH (α := Nat × Nat) (fun k => [(⟨.d0, .d2, .d1⟩, .v (.int .i64 (k.1 : Nat)))]) (fun _ => [(0, none), (1, none)]) (fun k => k.2) (fun k => 1 - k.1) (fun k => k.1 ≤ 1) (0, Γ.g0) (Nat.zero_le _) ?_ ?_
        · skip
          refine le_mk ?_ ?_ (Nat.le_refl _)
          all_goals first | refine auE ?_ | exact auE0
          all_goals (repeat' (first | exact trivial | exact rfl | apply And.intro))
        rintro ⟨k, gn⟩ hk
        dsimp only at hk ⊢
        refine auL ?_
        by_cases hlt : k < 1
        · obtain rfl : k = 0 := by omega
          repeat' (first
            | (refine auS ?_)
            | (with_reducible refine runR_call hs ?_)
            | (refine auD ?_)
            | (with_reducible refine runR_b (fun h => ?_) (fun h => ?_) <;> first | exact auH | simp only [h, runR_t, runR_f])
            | (with_reducible refine condK_bl ?_ ?_)
            | (with_reducible refine condK_b (fun h => ?_) (fun h => ?_) <;> first | exact auH | skip)
            | (simp only [Int.toNat_natCast]))
          (all_goals first | exact auP | skip)
          refine nx_loop ⟨(1, gn + 1 + 1), Nat.le_refl _, Nat.zero_lt_one, ?_⟩
          refine le_mk ?_ ?_ (Nat.le_refl _)
          all_goals first | refine auE ?_ | exact auE0
          all_goals (repeat' (first | exact trivial | exact rfl | apply And.intro))
          all_goals rfl
        · obtain rfl : k = 1 := by omega
          repeat' (first
            | (refine auS ?_)
            | fail
            | (refine auD ?_)
            | (with_reducible refine runR_b (fun h => ?_) (fun h => ?_) <;> first | exact auH | simp only [h, runR_t, runR_f])
            | (with_reducible refine condK_bl ?_ ?_)
            | (with_reducible refine condK_b (fun h => ?_) (fun h => ?_) <;> first | exact auH | skip)
            | fail)
          (all_goals first | exact auP | skip)
          all_goals refine auF ?_
          all_goals (try first | refine auR ?_ | exact auR0)
          all_goals (try simp only [hsM] at *)
      dsimp only [dKp, dKr, SegK.row]
      refine hspec_fn Try.func8 rfl ok_custref_SameSegments okr_custref_SameSegments rfl (by kernel_rfl) ?_
      intro Γ hW0 hN0 hL0
      have hW := hW0 rfl
      clear hW0 hN0 hL0
      unfold x_custref_SameSegments r_custref_SameSegments
      refine auC ?_
      repeat' (first
        | (refine auS ?_)
        | (with_reducible refine runR_call hen ?_)
        | (refine auD ?_)
        | (with_reducible refine runR_b (fun h => ?_) (fun h => ?_) <;> first | exact auH | simp only [h, runR_t, runR_f])
        | (with_reducible refine condK_bl ?_ ?_)
        | (with_reducible refine condK_b (fun h => ?_) (fun h => ?_) <;> first | exact auH | skip)
        | fail)
      (all_goals first | exact auP | skip)
      all_goals refine auF ?_
      all_goals (try first | refine auR ?_ | exact auR0)
      all_goals (try simp only [hsM] at *)
    | o g =>
      have hs := sameSegC_spec g hok
      have hen : Spec Try.prog 27 [.snap 9 [g.encC true] false, .snap 9 [g.encC false] false, .fn (.func 28) [] []] (.v (.bool true)) := by
        refine hspec_fn Try.func27 rfl ok_slices_EqualFunc_api_Segment okr_slices_EqualFunc_api_Segment rfl (by kernel_rfl) ?_
        intro Γ hW0 hN0 hL0
        have hW := hW0 rfl
        clear hW0 hN0 hL0
        unfold x_slices_EqualFunc_api_Segment r_slices_EqualFunc_api_Segment
        refine auC ?_
        repeat' (first
          | (refine auS ?_)
          | fail
          | (refine auD ?_)
          | (with_reducible refine runR_b (fun h => ?_) (fun h => ?_) <;> first | exact auH | simp only [h, runR_t, runR_f])
          | (with_reducible refine condK_bl ?_ ?_)
          | (with_reducible refine condK_b (fun h => ?_) (fun h => ?_) <;> first | exact auH | skip)
          | fail)
        (all_goals first | exact auP | skip)
        refine go_loopH (α := Nat × Nat) (fun k => [(⟨.d0, .d2, .d1⟩, .v (.int .i64 (k.1 : Nat)))]) (fun _ => [(0, none), (1, none)]) (fun k => k.2) (fun k => 1 - k.1) (fun k => k.1 ≤ 1) (0, Γ.g0) (Nat.zero_le _) ?_ ?_
        · skip
          refine le_mk ?_ ?_ (Nat.le_refl _)
          all_goals first | refine auE ?_ | exact auE0
          all_goals (repeat' (first | exact trivial | exact rfl | apply And.intro))
        rintro ⟨k, gn⟩ hk
        dsimp only at hk ⊢
        refine auL ?_
        by_cases hlt : k < 1
        · obtain rfl : k = 0 := by omega
          repeat' (first
            | (refine auS ?_)
            | (with_reducible refine runR_call hs ?_)
            | (refine auD ?_)
            | (with_reducible refine runR_b (fun h => ?_) (fun h => ?_) <;> first | exact auH | simp only [h, runR_t, runR_f])
            | (with_reducible refine condK_bl ?_ ?_)
            | (with_reducible refine condK_b (fun h => ?_) (fun h => ?_) <;> first | exact auH | skip)
            | (simp only [Int.toNat_natCast]))
          (all_goals first | exact auP | skip)
          refine nx_loop ⟨(1, gn + 1 + 1), Nat.le_refl _, Nat.zero_lt_one, ?_⟩
          refine le_mk ?_ ?_ (Nat.le_refl _)
          all_goals first | refine auE ?_ | exact auE0
          all_goals (repeat' (first | exact trivial | exact rfl | apply And.intro))
          all_goals rfl
        · obtain rfl : k = 1 := by omega
          repeat' (first
            | (refine auS ?_)
            | fail
            | (refine auD ?_)
            | (with_reducible refine runR_b (fun h => ?_) (fun h => ?_) <;> first | exact auH | simp only [h, runR_t, runR_f])
            | (with_reducible refine condK_bl ?_ ?_)
            | (with_reducible refine condK_b (fun h => ?_) (fun h => ?_) <;> first | exact auH | skip)
            | fail)
          (all_goals first | exact auP | skip)
          all_goals refine auF ?_
          all_goals (try first | refine auR ?_ | exact auR0)
          all_goals (try simp only [hsM] at *)
      dsimp only [dKp, dKr, SegK.row]
      refine hspec_fn Try.func8 rfl ok_custref_SameSegments okr_custref_SameSegments rfl (by kernel_rfl) ?_
      intro Γ hW0 hN0 hL0
      have hW := hW0 rfl
      clear hW0 hN0 hL0
      unfold x_custref_SameSegments r_custref_SameSegments
      refine auC ?_
      repeat' (first
        | (refine auS ?_)
        | (with_reducible refine runR_call hen ?_)
        | (refine auD ?_)
        | (with_reducible refine runR_b (fun h => ?_) (fun h => ?_) <;> first | exact auH | simp only [h, runR_t, runR_f])
        | (with_reducible refine condK_bl ?_ ?_)
        | (with_reducible refine condK_b (fun h => ?_) (fun h => ?_) <;> first | exact auH | skip)
        | fail)
      (all_goals first | exact auP | skip)
      all_goals refine auF ?_
      all_goals (try first | refine auR ?_ | exact auR0)
      all_goals (try simp only [hsM] at *)
    | a g =>
      have hs := sameSegC_spec g hok
      have hen : Spec Try.prog 27 [.snap 9 [g.encC true] false, .snap 9 [g.encC false] true, .fn (.func 28) [] []] (.v (.bool true)) := by
        refine hspec_fn Try.func27 rfl ok_slices_EqualFunc_api_Segment okr_slices_EqualFunc_api_Segment rfl (by kernel_rfl) ?_
        intro Γ hW0 hN0 hL0
        have hW := hW0 rfl
        clear hW0 hN0 hL0
        unfold x_slices_EqualFunc_api_Segment r_slices_EqualFunc_api_Segment
        refine auC ?_
        repeat' (first
          | (refine auS ?_)
          | fail
          | (refine auD ?_)
          | (with_reducible refine runR_b (fun h => ?_) (fun h => ?_) <;> first | exact auH | simp only [h, runR_t, runR_f])
          | (with_reducible refine condK_bl ?_ ?_)
          | (with_reducible refine condK_b (fun h => ?_) (fun h => ?_) <;> first | exact auH | skip)
          | fail)
        (all_goals first | exact auP | skip)
        refine go_loopH (α := Nat × Nat) (fun k => [(⟨.d0, .d2, .d1⟩, .v (.int .i64 (k.1 : Nat)))]) (fun _ => [(0, none), (1, none)]) (fun k => k.2) (fun k => 1 - k.1) (fun k => k.1 ≤ 1) (0, Γ.g0) (Nat.zero_le _) ?_ ?_
        · skip
          refine le_mk ?_ ?_ (Nat.le_refl _)
          all_goals first | refine auE ?_ | exact auE0
          all_goals (repeat' (first | exact trivial | exact rfl | apply And.intro))
        rintro ⟨k, gn⟩ hk
        dsimp only at hk ⊢
        refine auL ?_
        by_cases hlt : k < 1
        · obtain rfl : k = 0 := by omega
          repeat' (first
            | (refine auS ?_)
            | (with_reducible refine runR_call hs ?_)
            | (refine auD ?_)
            | (with_reducible refine runR_b (fun h => ?_) (fun h => ?_) <;> first | exact auH | simp only [h, runR_t, runR_f])
            | (with_reducible refine condK_bl ?_ ?_)
            | (with_reducible refine condK_b (fun h => ?_) (fun h => ?_) <;> first | exact auH | skip)
            | (simp only [Int.toNat_natCast]))
          (all_goals first | exact auP | skip)
          refine nx_loop ⟨(1, gn + 1 + 1), Nat.le_refl _, Nat.zero_lt_one, ?_⟩
          refine le_mk ?_ ?_ (Nat.le_refl _)
          all_goals first | refine auE ?_ | exact auE0
          all_goals (repeat' (first | exact trivial | exact rfl | apply And.intro))
          all_goals rfl
        · obtain rfl : k = 1 := by omega
          repeat' (first
            | (refine auS ?_)
            | fail
            | (refine auD ?_)
            | (with_reducible refine runR_b (fun h => ?_) (fun h => ?_) <;> first | exact auH | simp only [h, runR_t, runR_f])
            | (with_reducible refine condK_bl ?_ ?_)
            | (with_reducible refine condK_b (fun h => ?_) (fun h => ?_) <;> first | exact auH | skip)
            | fail)
          (all_goals first | exact auP | skip)
          all_goals refine auF ?_
          all_goals (try first | refine auR ?_ | exact auR0)
          all_goals (try simp only [hsM] at *)
      dsimp only [dKp, dKr, SegK.row]
      refine hspec_fn Try.func8 rfl ok_custref_SameSegments okr_custref_SameSegments rfl (by kernel_rfl) ?_
      intro Γ hW0 hN0 hL0
      have hW := hW0 rfl
      clear hW0 hN0 hL0
      unfold x_custref_SameSegments r_custref_SameSegments
      refine auC ?_
      repeat' (first
        | (refine auS ?_)
        | (with_reducible refine runR_call hen ?_)
        | (refine auD ?_)
        | (with_reducible refine runR_b (fun h => ?_) (fun h => ?_) <;> first | exact auH | simp only [h, runR_t, runR_f])
        | (with_reducible refine condK_bl ?_ ?_)
        | (with_reducible refine condK_b (fun h => ?_) (fun h => ?_) <;> first | exact auH | skip)
        | fail)
      (all_goals first | exact auP | skip)
      all_goals refine auF ?_
      all_goals (try first | refine auR ?_ | exact auR0)
      all_goals (try simp only [hsM] at *)
  | none =>
    have hen : Spec Try.prog 27 [nilS, nilS, .fn (.func 28) [] []] (.v (.bool true)) := by
      refine hspec_fn Try.func27 rfl ok_slices_EqualFunc_api_Segment okr_slices_EqualFunc_api_Segment rfl (by kernel_rfl) ?_
      intro Γ hW0 hN0 hL0
      have hW := hW0 rfl
      clear hW0 hN0 hL0
      unfold x_slices_EqualFunc_api_Segment r_slices_EqualFunc_api_Segment
      refine auC ?_
      repeat' (first
        | (refine auS ?_)
        | fail
        | (refine auD ?_)
        | (with_reducible refine runR_b (fun h => ?_) (fun h => ?_) <;> first | exact auH | simp only [h, runR_t, runR_f])
        | (with_reducible refine condK_bl ?_ ?_)
        | (with_reducible refine condK_b (fun h => ?_) (fun h => ?_) <;> first | exact auH | skip)
        | fail)
      (all_goals first | exact auP | skip)
      refine go_loopH (α := Nat) (fun k => [(⟨.d0, .d2, .d1⟩, .v (.int .i64 (k : Nat)))]) (fun _ => []) (fun _ => Γ.g0) (fun k => 0) (fun k => k = 0) 0 rfl ?_ ?_
      · skip
        refine le_mk ?_ ?_ (Nat.le_refl _)
        all_goals first | refine auE ?_ | exact auE0
        all_goals (repeat' (first | exact trivial | exact rfl | apply And.intro))
      rintro k hk
      subst hk
      refine auL ?_
      repeat' (first
        | (refine auS ?_)
        | fail
        | (refine auD ?_)
        | (with_reducible refine runR_b (fun h => ?_) (fun h => ?_) <;> first | exact auH | simp only [h, runR_t, runR_f])
        | (with_reducible refine condK_bl ?_ ?_)
        | (with_reducible refine condK_b (fun h => ?_) (fun h => ?_) <;> first | exact auH | skip)
        | fail)
      (all_goals first | exact auP | skip)
      all_goals refine auF ?_
      all_goals (try first | refine auR ?_ | exact auR0)
      all_goals (try simp only [hsM] at *)
    dsimp only [dKp, dKr]
    refine hspec_fn Try.func8 rfl ok_custref_SameSegments okr_custref_SameSegments rfl (by kernel_rfl) ?_
    intro Γ hW0 hN0 hL0
    have hW := hW0 rfl
    clear hW0 hN0 hL0
    unfold x_custref_SameSegments r_custref_SameSegments
    refine auC ?_
    repeat' (first
      | (refine auS ?_)
      | (with_reducible refine runR_call hen ?_)
      | (refine auD ?_)
      | (with_reducible refine runR_b (fun h => ?_) (fun h => ?_) <;> first | exact auH | simp only [h, runR_t, runR_f])
      | (with_reducible refine condK_bl ?_ ?_)
      | (with_reducible refine condK_b (fun h => ?_) (fun h => ?_) <;> first | exact auH | skip)
      | fail)
    (all_goals first | exact auP | skip)
    all_goals refine auF ?_
    all_goals (try first | refine auR ?_ | exact auR0)
    all_goals (try simp only [hsM] at *)
theorem mvd_opts (g : Sg) (a b : Int) : (mvd g a b).opts.length = g.opts.length := by
  unfold mvd
  split
  · rfl
  · simp
theorem one_ok : (1 : Nat) ≤ maxLen := by unfold maxLen; decide
theorem no_row {P : Prop} {x : SegK} (h : (none : Option SegK) = some x) : P := by cases h
theorem cliT_rows (g : Sg) (now : Int) (q : List Gd) (t : Gd) (hl : g.opts.length ≤ maxLen) : (∀ x, (cliT g now q t).1.2.1 = some x → x.ok) ∧ (∀ x, (cliT g now q t).1.2.2 = some x → x.ok) := by
  have hm : SegK.ok (.f (mvC g t)) := by show (mvd g 0 _).opts.length ≤ maxLen; rw [mvd_opts]; exact hl
  unfold cliT
  split
  · split
    · exact ⟨fun x h => no_row h, fun x h => by obtain rfl := Option.some.inj h; exact hm⟩
    · exact ⟨fun x h => no_row h, fun x h => no_row h⟩
  split
  · exact ⟨fun x h => no_row h, fun x h => no_row h⟩
  split
  · exact ⟨fun x h => no_row h, fun x h => by obtain rfl := Option.some.inj h; exact hm⟩
  split
  · exact ⟨fun x h => no_row h, fun x h => by obtain rfl := Option.some.inj h; exact one_ok⟩
  · exact ⟨fun x h => no_row h, fun x h => no_row h⟩
theorem cliS_rows (k0 k1 sz now : Int) (ms : List Gd) (r : Rd) (g : Sg) (q : List Gd) : (∀ x, (cliS k0 k1 sz ms r g now q).1.2.1 = some x → x.ok) ∧ (∀ x, (cliS k0 k1 sz ms r g now q).1.2.2 = some x → x.ok) := by
  unfold cliS
  split
  · exact ⟨fun x h => by obtain rfl := Option.some.inj h; exact one_ok, fun x h => no_row h⟩
  split
  · split
    · exact ⟨fun x h => by obtain rfl := Option.some.inj h; exact trivial, fun x h => no_row h⟩
    split
    · exact ⟨fun x h => no_row h, fun x h => no_row h⟩
    · exact ⟨fun x h => no_row h, fun x h => by obtain rfl := Option.some.inj h; exact one_ok⟩
  · exact ⟨fun x h => no_row h, fun x h => no_row h⟩
theorem cliR_rows (k0 k1 sz now : Int) (ms : List Gd) (r : Rd) (g : Sg) (hl : g.opts.length ≤ maxLen) : (∀ x, (cliR k0 k1 sz ms r g now).1.2.1 = some x → x.ok) ∧ (∀ x, (cliR k0 k1 sz ms r g now).1.2.2 = some x → x.ok) := by
  unfold cliR
  split
  · exact ⟨fun x h => no_row h, fun x h => no_row h⟩
  split
  · exact cliT_rows g now _ _ hl
  · exact cliS_rows k0 k1 sz now ms r g _
theorem cliR_len (k0 k1 sz now : Int) (ms : List Gd) (r : Rd) (g : Sg) (hl : ms.length ≤ 1000000000000) : (cliR k0 k1 sz ms r g now).1.1.length ≤ maxLen := by
  have h1 : (yngG now ms).length ≤ ms.length := List.length_filter_le _ _
  have h2 : ∀ r', (butR r' (yngG now ms)).length ≤ (yngG now ms).length := fun r' => List.length_filter_le _ _
  have hm : maxLen = 9223372036854775807 := rfl
  unfold cliR cliT cliS
  generalize yngG now ms = q at *
  have h3 := h2 (fndL r q).1.rd
  repeat' split
  all_goals first
    | (show ms.length ≤ _; omega)
    | (show q.length ≤ _; omega)
    | (show (butR _ q).length ≤ _; omega)
    | (show (butR _ q ++ [_]).length ≤ _; rw [List.length_append, List.length_singleton]; omega)
    | (show (q ++ [_]).length ≤ _; rw [List.length_append, List.length_singleton]; omega)
theorem client_spec (k0 k1 sz now : Int) (ms : List Gd) (r : Rd) (g : Sg) (hl : ms.length * 48 ≤ 140737488351232) (hr : U32 r.fr ∧ U32 r.to) (hg : SegOk g) (hg2 : SegArg g) (hd : ∀ t ∈ ms, GdOk t) : CVspec k0 k1 sz now ms r g (cliR k0 k1 sz ms r g now) := by
  unfold cliR
  by_cases he : refG sz ms r g now = 0
  · rw [if_neg (not_not_intro he)]
    have hap := (ref_ok he).2.1
    cases hq : (fndL r (yngG now ms)).2 with
    | false =>
      rw [if_neg Bool.false_ne_true]
      exact client_new k0 k1 sz now ms r g hl hr hg hg2 hd he (fnd_no _ r (apart_yng hap) hq).2.2
    | true =>
      rw [if_pos rfl]
      rcases roadL (yngG now ms) r (apart_yng hap) with ⟨-, h2⟩ | ⟨i, t, h1, h3, h4, h2⟩
      · rw [hq] at h2; cases h2
      · rw [h2]
        exact client_talk k0 k1 sz now ms r g i t hl hr hg hg2 hd he h1 h3 h4
  · rw [if_pos he]
    exact client_ref k0 k1 sz now ms r g hl hr hg hg2 hd he
theorem fndL_rd (r : Rd) : ∀ (q : List Gd), Apart q → (fndL r q).2 = true → (fndL r q).1.rd = r ∧ (fndL r q).1 ∈ q := fun q hp h => by
  rcases firstI_cases (onR r) q 0 with ⟨h1, h2⟩ | ⟨i, t, h1, h2, h3, h4⟩
  · unfold fndL at h; rw [fnd_none r q _ h2] at h; cases h
  · rcases roadL q r hp with ⟨g1, g2⟩ | ⟨j, u, g1, g2, g3, g4⟩
    · rw [h] at g2; cases g2
    · rw [g4]
      refine ⟨?_, List.mem_of_getElem? g1⟩
      have hji : j = i := by rw [h4] at g2; omega
      rw [hji, h1] at g1
      obtain rfl := Option.some.inj g1
      exact onR_eq h2
theorem heardClient_spec (k0 k1 sz now : Int) (ms : List Gd) (r : Rd) (g : Sg) (hl : ms.length ≤ maxLen) (hr : U32 r.fr ∧ U32 r.to) (hg : SegOk g) (hg2 : SegArg g) (hd : ∀ t ∈ ms, GdOk t) : HCspec k0 k1 sz now ms r g (cliR k0 k1 sz ms r g now) := by
  unfold cliR
  by_cases he : refG sz ms r g now = 0
  · rw [if_neg (not_not_intro he)]
    have hap := (ref_ok he).2.1
    cases hq : (fndL r (yngG now ms)).2 with
    | false =>
      rw [if_neg Bool.false_ne_true]
      unfold cliS
      by_cases hs1 : hasF g 2 = true ∧ hasF g 16 = false ∧ hasF g 1 = false ∧ hasF g 4 = false
      · rw [if_pos hs1]
        exact heardC_S1 k0 k1 sz now ms r g hl hr hg hg2 (ref_flags he).2 he hq hs1
      rw [if_neg hs1]
      by_cases hs2 : hasF g 16 = true ∧ hasF g 2 = false ∧ hasF g 4 = false
      · rw [if_pos hs2]
        exact heardC_S2 k0 k1 sz now ms r g hl hr hg hg2 he hq hs2
      · rw [if_neg hs2]
        exact heardC_S3 k0 k1 sz now ms r g hl hr hg hg2 he hq hs1 hs2
    | true =>
      rw [if_pos rfl]
      obtain ⟨hrd, hmem⟩ := fndL_rd r _ (apart_yng hap) hq
      generalize hfe : fndL r (yngG now ms) = f at *
      obtain ⟨t, b⟩ := f
      dsimp only at hq hrd hmem ⊢
      subst hq
      exact heardC_talk k0 k1 sz now ms r g t hl hr hg hg2 (hd t (yng_mem hmem)) he hfe hrd
  · rw [if_pos he]
    exact heardC_ref k0 k1 sz now ms r g hl hr hg he
set_option maxHeartbeats 8000000 in
theorem clients_spec (k0 k1 sz now : Int) (ms : List Gd) (r : Rd) (g : Sg) (hl : ms.length ≤ 2000000) (hr : U32 r.fr ∧ U32 r.to) (hg : SegOk g) (hg2 : SegArg g) (hd : ∀ t ∈ ms, GdOk t) : Spec Try.prog 4 [dPx k0 k1 sz ms, .agg r.enc, dG g, .v (.int .i64 now)] (.v (.bool true)) := by
  have h1 := client_spec k0 k1 sz now ms r g (by omega) hr hg hg2 hd
  have h2 := heardClient_spec k0 k1 sz now ms r g (by unfold maxLen; omega) hr hg hg2 hd
  obtain ⟨hc, hs⟩ := cliR_rows k0 k1 sz now ms r g hg2.1
  have hpl := cliR_len k0 k1 sz now ms r g (by omega)
  have h6 := pcheck_spec k0 k1 sz ms (by unfold maxLen; omega) (fun t ht => (hd t ht).2.2.1)
  have h7 := pright_spec k0 k1 sz ms (by unfold maxLen; omega)
  generalize proxErr sz ms = pe at *
  generalize cliR k0 k1 sz ms r g now = R at *
  obtain ⟨⟨ps, c, s⟩, e⟩ := R
  unfold CVspec at h1
  unfold HCspec at h2
  dsimp only [dCv, dHc] at *
  have h3 := sameProxy_spec k0 k1 sz ps hpl
  have h4 := sameSegs_spec c hc
  have h5 := sameSegs_spec s hs
  clear hc hs
  rcases c with _ | c
  · rcases s with _ | s
    · skip
      dsimp only [dKp, dKr, SegK.row] at *
      refine hspec_fn Try.func4 rfl ok_custlaw_ProxyClients okr_custlaw_ProxyClients rfl (by kernel_rfl) ?_
      intro Γ hW0 hN0 hL0
      have hW := hW0 rfl
      clear hW0 hN0 hL0
      unfold x_custlaw_ProxyClients r_custlaw_ProxyClients
      refine auC ?_
      repeat' (first
        | (refine auS ?_)
        | (first | (simp only [eq_self, decide_true, Bool.and_self, Bool.and_true, Bool.true_and]) | (with_reducible refine runR_call h1 ?_) | (with_reducible refine runR_call h2 ?_) | (with_reducible refine runR_call h3 ?_) | (with_reducible refine runR_call h4 ?_) | (with_reducible refine runR_call h5 ?_) | (with_reducible refine runR_call h6 ?_) | (with_reducible refine runR_call h7 ?_))
        | (refine auD ?_)
        | (with_reducible refine runR_b (fun h => ?_) (fun h => ?_) <;> first | exact auH | simp only [h, runR_t, runR_f])
        | (with_reducible refine condK_bl ?_ ?_)
        | (with_reducible refine condK_b (fun h => ?_) (fun h => ?_) <;> first | exact auH | skip)
        | fail)
      (all_goals first | exact auP | skip)
      all_goals first
        | (exfalso; simp at h; done)
        | skip
      all_goals refine auF ?_
      all_goals (try first | refine auR ?_ | exact auR0)
      all_goals (try simp only [hsM] at *)
      all_goals first
        | rfl
        | (refine dbool ?_; simp)
    · cases s
      all_goals
        dsimp only [dKp, dKr, SegK.row] at *
        refine hspec_fn Try.func4 rfl ok_custlaw_ProxyClients okr_custlaw_ProxyClients rfl (by kernel_rfl) ?_
        intro Γ hW0 hN0 hL0
        have hW := hW0 rfl
        clear hW0 hN0 hL0
        unfold x_custlaw_ProxyClients r_custlaw_ProxyClients
        refine auC ?_
        repeat' (first
          | (refine auS ?_)
          | (first | (simp only [eq_self, decide_true, Bool.and_self, Bool.and_true, Bool.true_and]) | (with_reducible refine runR_call h1 ?_) | (with_reducible refine runR_call h2 ?_) | (with_reducible refine runR_call h3 ?_) | (with_reducible refine runR_call h4 ?_) | (with_reducible refine runR_call h5 ?_) | (with_reducible refine runR_call h6 ?_) | (with_reducible refine runR_call h7 ?_))
          | (refine auD ?_)
          | (with_reducible refine runR_b (fun h => ?_) (fun h => ?_) <;> first | exact auH | simp only [h, runR_t, runR_f])
          | (with_reducible refine condK_bl ?_ ?_)
          | (with_reducible refine condK_b (fun h => ?_) (fun h => ?_) <;> first | exact auH | skip)
          | fail)
        (all_goals first | exact auP | skip)
        all_goals first
          | (exfalso; simp at h; done)
          | skip
        all_goals refine auF ?_
        all_goals (try first | refine auR ?_ | exact auR0)
        all_goals (try simp only [hsM] at *)
        all_goals first
          | rfl
          | (refine dbool ?_; simp)
  · rcases s with _ | s
    · cases c
      all_goals
        dsimp only [dKp, dKr, SegK.row] at *
        refine hspec_fn Try.func4 rfl ok_custlaw_ProxyClients okr_custlaw_ProxyClients rfl (by kernel_rfl) ?_
        intro Γ hW0 hN0 hL0
        have hW := hW0 rfl
        clear hW0 hN0 hL0
        unfold x_custlaw_ProxyClients r_custlaw_ProxyClients
        refine auC ?_
        repeat' (first
          | (refine auS ?_)
          | (first | (simp only [eq_self, decide_true, Bool.and_self, Bool.and_true, Bool.true_and]) | (with_reducible refine runR_call h1 ?_) | (with_reducible refine runR_call h2 ?_) | (with_reducible refine runR_call h3 ?_) | (with_reducible refine runR_call h4 ?_) | (with_reducible refine runR_call h5 ?_) | (with_reducible refine runR_call h6 ?_) | (with_reducible refine runR_call h7 ?_))
          | (refine auD ?_)
          | (with_reducible refine runR_b (fun h => ?_) (fun h => ?_) <;> first | exact auH | simp only [h, runR_t, runR_f])
          | (with_reducible refine condK_bl ?_ ?_)
          | (with_reducible refine condK_b (fun h => ?_) (fun h => ?_) <;> first | exact auH | skip)
          | fail)
        (all_goals first | exact auP | skip)
        all_goals first
          | (exfalso; simp at h; done)
          | skip
        all_goals refine auF ?_
        all_goals (try first | refine auR ?_ | exact auR0)
        all_goals (try simp only [hsM] at *)
        all_goals first
          | rfl
          | (refine dbool ?_; simp)
    · cases c <;> cases s
      all_goals
        dsimp only [dKp, dKr, SegK.row] at *
        refine hspec_fn Try.func4 rfl ok_custlaw_ProxyClients okr_custlaw_ProxyClients rfl (by kernel_rfl) ?_
        intro Γ hW0 hN0 hL0
        have hW := hW0 rfl
        clear hW0 hN0 hL0
        unfold x_custlaw_ProxyClients r_custlaw_ProxyClients
        refine auC ?_
        repeat' (first
          | (refine auS ?_)
          | (first | (simp only [eq_self, decide_true, Bool.and_self, Bool.and_true, Bool.true_and]) | (with_reducible refine runR_call h1 ?_) | (with_reducible refine runR_call h2 ?_) | (with_reducible refine runR_call h3 ?_) | (with_reducible refine runR_call h4 ?_) | (with_reducible refine runR_call h5 ?_) | (with_reducible refine runR_call h6 ?_) | (with_reducible refine runR_call h7 ?_))
          | (refine auD ?_)
          | (with_reducible refine runR_b (fun h => ?_) (fun h => ?_) <;> first | exact auH | simp only [h, runR_t, runR_f])
          | (with_reducible refine condK_bl ?_ ?_)
          | (with_reducible refine condK_b (fun h => ?_) (fun h => ?_) <;> first | exact auH | skip)
          | fail)
        (all_goals first | exact auP | skip)
        all_goals first
          | (exfalso; simp at h; done)
          | skip
        all_goals refine auF ?_
        all_goals (try first | refine auR ?_ | exact auR0)
        all_goals (try simp only [hsM] at *)
        all_goals first
          | rfl
          | (refine dbool ?_; simp)
theorem u32_wf {x : Int} (h : (Lit.int .u32 x).wf = true) : 0 ≤ x ∧ x < 4294967296 := by
  have h2 : IntKind.u32.min ≤ x ∧ x ≤ IntKind.u32.max := by simpa [Lit.wf] using h
  have e1 : IntKind.u32.min = 0 := by decide
  have e2 : IntKind.u32.max = 4294967295 := by decide
  rw [e1, e2] at h2
  omega
abbrev opT := Int × ByteArray × Unit
abbrev opOf (t : opT) : Op2 := ⟨t.1, t.2.1.data.toList⟩
theorem opOf_enc (t : opT) : (opOf t).enc = [.v (.int .i64 t.1), .v (.string t.2.1)] := by
  show [DV.v (.int .i64 t.1), .v (.string (mkS t.2.1.data.toList))] = _
  rw [mkS_data]
abbrev gdT := (Int × Int × Int × Int × Unit) × Int × Int × Int × Bool × Int × Unit
abbrev gdOf (t : gdT) : Gd := ⟨t.1.1, t.1.2.1, t.1.2.2.1, t.1.2.2.2.1, t.2.1, t.2.2.1, t.2.2.2.1, t.2.2.2.2.1, t.2.2.2.2.2.1⟩
theorem ol1 (l : List opT) (h : l.length * 100000000 ≤ 140737488351232) : 40 * (l.map opOf).length ≤ 140737488355000 ∧ (l.map opOf).length ≤ maxLen ∧ (l.map opOf).length * 24 ≤ 140737488351232 := by
  rw [List.length_map]; unfold maxLen; omega
theorem ol2 (l : List gdT) (h : l.length * 100000000 ≤ 140737488351232) : (l.map gdOf).length ≤ 2000000 := by rw [List.length_map]; omega
theorem sv_ProxyClients (k0 k1 sz : Int) (ms : List gdT) (wf wt wp wq : Int) (fr to seq ack flags win urg : Int) (l : List opT) (data : ByteArray) (now : Int) (u0 u1 u2 u3 u4 : Unit) : valSs shwProxyClients (((k0, k1, u0), sz, ms, u1), (wf, wt, wp, wq, u2), (fr, to, seq, ack, flags, win, urg, l, data, u3), now, u4) = [dPx k0 k1 sz (ms.map gdOf), .agg (Rd.enc ⟨wf, wt, wp, wq⟩), dG ⟨fr, to, seq, ack, flags, win, urg, l.map opOf, data.data.toList⟩, .v (.int .i64 now)] := by
  have e1 : (ms.map gdOf).map Gd.enc = ms.map (fun t => (gdOf t).enc) := by rw [List.map_map]; rfl
  have e2 : (l.map opOf).map Op2.enc = l.map (fun t => [.v (.int .i64 t.1), .v (.string t.2.1)]) := by rw [List.map_map, show (Op2.enc ∘ opOf) = fun t => [.v (.int .i64 t.1), .v (.string t.2.1)] from funext opOf_enc]
  rw [dPx, dG, Sg.enc]
  dsimp only
  rw [mkS_data, e1, e2]
  rfl
theorem coreProxyClients (W : World) (args : Array Value) (h : opnAll W W.heap.size (shsProxyClients.map Sh.wide) args.toList) :
    Calls Try.prog 4 args W fun e W' => e = .returned (.bool true) ∧ Below W.heap.size W W' := by
  have h' : opnAll W W.heap.size shwProxyClients args.toList := h
  refine law_core rfl h' (fun x hx => ?_)
  obtain ⟨⟨⟨k0, k1, u0⟩, sz, ms, u1⟩, ⟨wf, wt, wp, wq, u2⟩, ⟨fr, to, seq, ack, flags, win, urg, l, data, u3⟩, now, u4⟩ := x
  obtain ⟨⟨-, -, ⟨hm2, -, hmd⟩, -⟩, ⟨hwf, hwt, -, -, -⟩, ⟨-, -, hq, hk, -, -, -, ⟨hl2, -, hd⟩, hdd, -⟩, -, -⟩ := hx
  obtain ⟨a1, a2, a3⟩ := ol1 l hl2
  have hop : ∀ o ∈ l.map opOf, o.d.length ≤ 140737488351232 := fun t ht => by
    obtain ⟨y, hy, rfl⟩ := List.mem_map.1 ht
    exact (hd y hy).2.1
  refine Eq.mpr (congrArg (fun l => Spec Try.prog 4 l (.v (.bool true))) (sv_ProxyClients k0 k1 sz ms wf wt wp wq fr to seq ack flags win urg l data now u0 u1 u2 u3 u4)) (clients_spec k0 k1 sz now (ms.map gdOf) ⟨wf, wt, wp, wq⟩ ⟨fr, to, seq, ack, flags, win, urg, l.map opOf, data.data.toList⟩ (ol2 ms hm2) ⟨u32_wf hwf, u32_wf hwt⟩ ⟨a1, hop, hdd, u32_wf hq, u32_wf hk⟩ ⟨a2, a3, hop, u32_wf hq, u32_wf hk⟩ ?_)
  intro t ht
  obtain ⟨y, hy, rfl⟩ := List.mem_map.1 ht
  obtain ⟨-, h1, h2, h3, -⟩ := hmd y hy
  exact ⟨u32_wf h1, u32_wf h2, u32_wf h3⟩
/-! THE ROW: the frame round 'core', where the arguments are small -/
theorem ownProxyClients : ownKnob Try.prog.godebug = none := by kernel_rfl
theorem fitProxyClients : (List.range shsProxyClients.length).all (fun i => match shsProxyClients[i]?, Try.f4.params.toList[i]? with | some s, some t => s.fit Try.prog none t | _, _ => false) = true := by kernel_rfl
theorem laidProxyClients : laidOutB Try.prog = true := by kernel_rfl
theorem readProxyClients : Try.f4.params.toList.all (fun t => Try.prog.readableRec t && decide (t < Try.prog.types.size)) = true := by kernel_rfl
set_option maxRecDepth 100000 in
theorem liftedProxyClients (os : Os) (started : os.Started) (H : Type) (enc : TypeId × Value → H) (F : Stop.Interp) :
    ReturnsInHanded {} Try.checked os 4 .any ((Rows.OpenSpec.upto Rows.proxyClientsSpec).pre6 enc Try.prog Try.f4 Rows.proxyClientsUptoRow.domain false) (((Rows.OpenSpec.upto Rows.proxyClientsSpec).at F).post enc Try.prog Try.f4 false true false false) :=
  law_lifted_upto (C := Try.checked) (enc := enc) ownProxyClients started (by kernel_rfl) Try.func4
    (OpenSpec.witness (enc := enc) (C := Try.checked) (s := Rows.OpenSpec.upto Rows.proxyClientsSpec) (k := Rows.uptoSmall) rfl false ⟨#[], #[.agg #[.int .u64 0, .int .u64 0, .int .i64 0, .slice none 0 0], .agg #[.int .u32 0, .int .u32 0, .int .i64 0, .int .i64 0], .agg #[.int .i64 0, .int .i64 0, .int .u32 0, .int .u32 0, .int .i64 0, .int .i64 0, .int .i64 0, .slice none 0 0, .string ByteArray.empty], .int .i64 0], []⟩ 8 (by kernel_rfl) (by kernel_rfl) (by kernel_rfl)
      (x := ([.agg [.agg [.lit (.int .u64 0), .lit (.int .u64 0)], .lit (.int .i64 0), .nil], .agg [.lit (.int .u32 0), .lit (.int .u32 0), .lit (.int .i64 0), .lit (.int .i64 0)], .agg [.lit (.int .i64 0), .lit (.int .i64 0), .lit (.int .u32 0), .lit (.int .u32 0), .lit (.int .i64 0), .lit (.int .i64 0), .lit (.int .i64 0), .nil, .lit (.string [])], .lit (.int .i64 0)], [], [])) (by kernel_rfl) rfl (by kernel_rfl))
    shsProxyClients (by kernel_rfl) fitProxyClients rfl (fun ds h => by
      match ds, h with
      | [d0, d1, d2, d3], _ => exact ⟨rfl, rfl, rfl⟩) 4 (by kernel_rfl) Try.underlying4 laidProxyClients readProxyClients coreProxyClients
theorem overProxyClients : Rows.proxyClientsUptoRow.holds Try.pinned (Rows.OpenSpec.upto Rows.proxyClientsSpec) :=
  OpenClaim.holds_of_cond 4 Try.f4 rfl rfl rfl rfl rfl rfl rfl ⟨rfl, rfl, rfl, rfl, rfl⟩ rfl rfl rfl rfl rfl (by kernel_rfl) Try.func4 (by kernel_rfl)
    (of_decide_eq_true (by kernel_rfl)) (by unfold Func.isWrapper; rw [if_neg (of_decide_eq_false (by kernel_rfl))]; exact ⟨rfl, rfl⟩)
    (fun os started H enc _ F => liftedProxyClients os started H enc F)
/-- THE STATEMENT -/
theorem provedProxyClientsUpto : Rows.ProxyClientsUptoSaid := overProxyClients
#print axioms provedProxyClientsUpto
end Go.Proofs.Ytegejpieedckiaa
