/-
  A guard: what is refused, in the program and in the reference.
-/
import Derived.Test.YtegejpieedckiaaProxD
import Derived.Test.YtegejpieedckiaaTcpM
import Derived.Test.YtegejpieedckiaaTcpL
namespace Go.Proofs.Ytegejpieedckiaa
set_option linter.unusedVariables false
set_option linter.unusedSimpArgs false
def lastA (ms : List Gd) : Int := match ms[ms.length - 1]? with
  | some t => t.at'
  | none => 0
theorem lastA_snoc {ms : List Gd} {k : Nat} {t : Gd} (h : ms[k]? = some t) : lastA (ms.take (k + 1)) = t.at' := by
  have hk := (List.getElem?_eq_some_iff.1 h).1
  unfold lastA
  rw [List.length_take, Nat.min_eq_left (by omega), List.getElem?_take, if_pos (by omega), Nat.add_sub_cancel, h]
def refC (ms : List Gd) (r : Rd) (g : Sg) (now : Int) : Prop := rdOk r = true ∧ (lastA ms ≤ now ∧ now ≤ 1099511627776) ∧ g.fr = r.fp ∧ g.to = r.tp
instance (ms : List Gd) (r : Rd) (g : Sg) (now : Int) : Decidable (refC ms r g now) := by unfold refC; infer_instance
def refG (sz : Int) (ms : List Gd) (r : Rd) (g : Sg) (now : Int) : Int :=
  if ¬ proxErr sz ms = 0 then proxErr sz ms else if ¬ refC ms r g now then 1 else (sgW g r.fr r.to).2
abbrev SegOk (g : Sg) : Prop := 40 * g.opts.length ≤ 140737488355000 ∧ (∀ o ∈ g.opts, o.d.length ≤ 140737488351232) ∧ g.data.length ≤ 140737488351232 ∧ (0 ≤ g.seq ∧ g.seq < 4294967296) ∧ (0 ≤ g.ack ∧ g.ack < 4294967296)
set_option maxRecDepth 8000 in
set_option maxHeartbeats 4000000 in
theorem prefused_spec (k0 k1 sz now : Int) (ms : List Gd) (r : Rd) (g : Sg) (hl : ms.length ≤ maxLen) (hd : ∀ t ∈ ms, 0 ≤ t.dl) (hr : (0 ≤ r.fr ∧ r.fr < 4294967296) ∧ (0 ≤ r.to ∧ r.to < 4294967296)) (hg : SegOk g) : Spec Try.prog 14 [dPx k0 k1 sz ms, .agg r.enc, dG g, .v (.int .i64 now)] (.v (.int .i64 (refG sz ms r g now))) := by
  have hck := pcheck_spec k0 k1 sz ms hl hd
  have hwr := swrite_spec g r.fr r.to hr.1 hr.2 hg.2.2.2.1 hg.2.2.2.2 hg.1 hg.2.1 hg.2.2.1
  have hlen : (ms.map Gd.enc).length = ms.length := List.length_map _
  have hl' := hl
  unfold maxLen at hl'
  unfold refG
  by_cases he : proxErr sz ms = 0
  rotate_left
  · rw [if_pos he]
    generalize proxErr sz ms = e at *
    refine hspec_fn Try.func14 rfl ok_proxy_refused okr_proxy_refused rfl (by kernel_rfl) ?_
    intro Γ hW0 hN0 hL0
    have hW := hW0 rfl
    clear hW0 hN0 hL0
    unfold x_proxy_refused r_proxy_refused
    refine auC ?_
    repeat' (first
      | (refine auS ?_)
      | (first | (with_reducible refine runR_call (port_spec _) ?_) | (with_reducible refine runR_call (between_spec _ _ _) ?_) | (with_reducible refine runR_call (roadRight_spec r) ?_) | (with_reducible refine runR_call hck ?_) | (with_reducible refine runR_call hwr ?_) | (simp only [hlen]) | (simp only [hw1]))
      | (refine auD ?_)
      | (with_reducible refine runR_b (fun h => ?_) (fun h => ?_) <;> first | exact auH | simp only [h, runR_t, runR_f])
      | (with_reducible refine condK_bl ?_ ?_)
      | (with_reducible refine condK_b (fun h => ?_) (fun h => ?_) <;> first | exact auH | skip)
      | (first | (simp only [Int.toNat_natCast, ex]) | (refine runR_n ⟨by omega, by omega⟩ ?_) | fail))
    (all_goals first | exact auP | skip)
    all_goals first
      | (exfalso; simp_all; done)
      | (exfalso; simp_all; omega)
      | skip
    all_goals refine auF ?_
    all_goals (try first | refine auR ?_ | exact auR0)
    all_goals (try simp only [hsM] at *)
    all_goals rfl
  rw [if_neg (not_not_intro he)]
  rw [he] at hck
  clear he
  generalize sgW g r.fr r.to = x at *
  obtain ⟨x1, x2⟩ := x
  by_cases hne : ms.length = 0
  · have hla : lastA ms = 0 := by rw [List.eq_nil_of_length_eq_zero hne]; rfl
    by_cases hC : refC ms r g now
    · rw [if_neg (not_not_intro hC)]
      unfold refC rdOk at hC
      rw [hla] at hC
      obtain ⟨c1, ⟨c2, c3⟩, c4, c5⟩ := hC
      obtain ⟨c6, c7⟩ := of_decide_eq_true c1
      clear c1
      refine hspec_fn Try.func14 rfl ok_proxy_refused okr_proxy_refused rfl (by kernel_rfl) ?_
      intro Γ hW0 hN0 hL0
      have hW := hW0 rfl
      clear hW0 hN0 hL0
      unfold x_proxy_refused r_proxy_refused
      refine auC ?_
      repeat' (first
        | (refine auS ?_)
        | (first | (with_reducible refine runR_call (port_spec _) ?_) | (with_reducible refine runR_call (between_spec _ _ _) ?_) | (with_reducible refine runR_call (roadRight_spec r) ?_) | (with_reducible refine runR_call hck ?_) | (with_reducible refine runR_call hwr ?_) | (simp only [hlen]) | (simp only [hw1]))
        | (refine auD ?_)
        | (with_reducible refine runR_b (fun h => ?_) (fun h => ?_) <;> first | exact auH | simp only [h, runR_t, runR_f])
        | (with_reducible refine condK_bl ?_ ?_)
        | (with_reducible refine condK_b (fun h => ?_) (fun h => ?_) <;> first | exact auH | skip)
        | (first | (simp only [Int.toNat_natCast, ex]) | (refine runR_n ⟨by omega, by omega⟩ ?_) | fail))
      (all_goals first | exact auP | skip)
      all_goals first
        | (exfalso; simp_all; done)
        | (exfalso; simp_all; omega)
        | skip
      all_goals refine auF ?_
      all_goals (try first | refine auR ?_ | exact auR0)
      all_goals (try simp only [hsM] at *)
      all_goals rfl
    · rw [if_pos hC]
      unfold refC rdOk at hC
      rw [hla] at hC
      refine hspec_fn Try.func14 rfl ok_proxy_refused okr_proxy_refused rfl (by kernel_rfl) ?_
      intro Γ hW0 hN0 hL0
      have hW := hW0 rfl
      clear hW0 hN0 hL0
      unfold x_proxy_refused r_proxy_refused
      refine auC ?_
      repeat' (first
        | (refine auS ?_)
        | (first | (with_reducible refine runR_call (port_spec _) ?_) | (with_reducible refine runR_call (between_spec _ _ _) ?_) | (with_reducible refine runR_call (roadRight_spec r) ?_) | (with_reducible refine runR_call hck ?_) | (with_reducible refine runR_call hwr ?_) | (simp only [hlen]) | (simp only [hw1]))
        | (refine auD ?_)
        | (with_reducible refine runR_b (fun h => ?_) (fun h => ?_) <;> first | exact auH | simp only [h, runR_t, runR_f])
        | (with_reducible refine condK_bl ?_ ?_)
        | (with_reducible refine condK_b (fun h => ?_) (fun h => ?_) <;> first | exact auH | skip)
        | (first | (simp only [Int.toNat_natCast, ex]) | (refine runR_n ⟨by omega, by omega⟩ ?_) | fail))
      (all_goals first | exact auP | skip)
      all_goals first
        | (exfalso; simp_all; done)
        | (exfalso; simp_all; omega)
        | skip
      all_goals refine auF ?_
      all_goals (try first | refine auR ?_ | exact auR0)
      all_goals (try simp only [hsM] at *)
      all_goals rfl
  · obtain ⟨t, ht⟩ : ∃ t, ms[ms.length - 1]? = some t := ⟨_, List.getElem?_eq_getElem (by omega)⟩
    have ex := xget_gd ht
    have hla : lastA ms = t.at' := by unfold lastA; rw [ht]
    have hw1 : IntKind.i64.wrap ((ms.length : Int) - 1) = ((ms.length - 1 : Nat) : Int) := (IntWalk.i64_in _ (by omega)).trans (by omega)
    by_cases hC : refC ms r g now
    · rw [if_neg (not_not_intro hC)]
      unfold refC rdOk at hC
      rw [hla] at hC
      obtain ⟨c1, ⟨c2, c3⟩, c4, c5⟩ := hC
      obtain ⟨c6, c7⟩ := of_decide_eq_true c1
      clear c1
      refine hspec_fn Try.func14 rfl ok_proxy_refused okr_proxy_refused rfl (by kernel_rfl) ?_
      intro Γ hW0 hN0 hL0
      have hW := hW0 rfl
      clear hW0 hN0 hL0
      unfold x_proxy_refused r_proxy_refused
      refine auC ?_
      repeat' (first
        | (refine auS ?_)
        | (first | (with_reducible refine runR_call (port_spec _) ?_) | (with_reducible refine runR_call (between_spec _ _ _) ?_) | (with_reducible refine runR_call (roadRight_spec r) ?_) | (with_reducible refine runR_call hck ?_) | (with_reducible refine runR_call hwr ?_) | (simp only [hlen]) | (simp only [hw1]))
        | (refine auD ?_)
        | (with_reducible refine runR_b (fun h => ?_) (fun h => ?_) <;> first | exact auH | simp only [h, runR_t, runR_f])
        | (with_reducible refine condK_bl ?_ ?_)
        | (with_reducible refine condK_b (fun h => ?_) (fun h => ?_) <;> first | exact auH | skip)
        | (first | (simp only [Int.toNat_natCast, ex]) | (refine runR_n ⟨by omega, by omega⟩ ?_) | fail))
      (all_goals first | exact auP | skip)
      all_goals first
        | (exfalso; simp_all; done)
        | (exfalso; simp_all; omega)
        | skip
      all_goals refine auF ?_
      all_goals (try first | refine auR ?_ | exact auR0)
      all_goals (try simp only [hsM] at *)
      all_goals rfl
    · rw [if_pos hC]
      unfold refC rdOk at hC
      rw [hla] at hC
      refine hspec_fn Try.func14 rfl ok_proxy_refused okr_proxy_refused rfl (by kernel_rfl) ?_
      intro Γ hW0 hN0 hL0
      have hW := hW0 rfl
      clear hW0 hN0 hL0
      unfold x_proxy_refused r_proxy_refused
      refine auC ?_
      repeat' (first
        | (refine auS ?_)
        | (first | (with_reducible refine runR_call (port_spec _) ?_) | (with_reducible refine runR_call (between_spec _ _ _) ?_) | (with_reducible refine runR_call (roadRight_spec r) ?_) | (with_reducible refine runR_call hck ?_) | (with_reducible refine runR_call hwr ?_) | (simp only [hlen]) | (simp only [hw1]))
        | (refine auD ?_)
        | (with_reducible refine runR_b (fun h => ?_) (fun h => ?_) <;> first | exact auH | simp only [h, runR_t, runR_f])
        | (with_reducible refine condK_bl ?_ ?_)
        | (with_reducible refine condK_b (fun h => ?_) (fun h => ?_) <;> first | exact auH | skip)
        | (first | (simp only [Int.toNat_natCast, ex]) | (refine runR_n ⟨by omega, by omega⟩ ?_) | fail))
      (all_goals first | exact auP | skip)
      all_goals first
        | (exfalso; simp_all; done)
        | (exfalso; simp_all; omega)
        | skip
      all_goals refine auF ?_
      all_goals (try first | refine auR ?_ | exact auR0)
      all_goals (try simp only [hsM] at *)
      all_goals rfl
set_option maxRecDepth 8000 in
set_option maxHeartbeats 4000000 in
theorem pxrefused_spec (k0 k1 sz now : Int) (ms : List Gd) (r : Rd) (g : Sg) (hl : ms.length ≤ maxLen) (hr : (0 ≤ r.fr ∧ r.fr < 4294967296) ∧ (0 ≤ r.to ∧ r.to < 4294967296)) (hg : SegOk g) : Spec Try.prog 19 [dPx k0 k1 sz ms, .agg r.enc, dG g, .v (.int .i64 now)] (.v (.int .i64 (refG sz ms r g now))) := by
  have hck := pright_spec k0 k1 sz ms hl
  have hwr := stext_spec g r.fr r.to hr.1 hr.2 hg.2.2.2.1 hg.2.2.2.2 (by unfold maxLen; omega) hg.2.1 hg.2.2.1
  have hlen : (ms.map Gd.enc).length = ms.length := List.length_map _
  have hl' := hl
  unfold maxLen at hl'
  unfold refG
  by_cases he : proxErr sz ms = 0
  rotate_left
  · rw [if_pos he]
    generalize proxErr sz ms = e at *
    refine hspec_fn Try.func19 rfl ok_custref_ProxyRefused okr_custref_ProxyRefused rfl (by kernel_rfl) ?_
    intro Γ hW0 hN0 hL0
    have hW := hW0 rfl
    clear hW0 hN0 hL0
    unfold x_custref_ProxyRefused r_custref_ProxyRefused
    refine auC ?_
    repeat' (first
      | (refine auS ?_)
      | (first | (with_reducible refine runR_call (port_spec _) ?_) | (with_reducible refine runR_call (between_spec _ _ _) ?_) | (with_reducible refine runR_call (roadRight_spec r) ?_) | (with_reducible refine runR_call hck ?_) | (with_reducible refine runR_call hwr ?_) | (simp only [hlen]) | (simp only [hw1]))
      | (refine auD ?_)
      | (with_reducible refine runR_b (fun h => ?_) (fun h => ?_) <;> first | exact auH | simp only [h, runR_t, runR_f])
      | (with_reducible refine condK_bl ?_ ?_)
      | (with_reducible refine condK_b (fun h => ?_) (fun h => ?_) <;> first | exact auH | skip)
      | (first | (simp only [Int.toNat_natCast, ex]) | (refine runR_n ⟨by omega, by omega⟩ ?_) | fail))
    (all_goals first | exact auP | skip)
    all_goals first
      | (exfalso; simp_all; done)
      | (exfalso; simp_all; omega)
      | skip
    all_goals refine auF ?_
    all_goals (try first | refine auR ?_ | exact auR0)
    all_goals (try simp only [hsM] at *)
    all_goals rfl
  rw [if_neg (not_not_intro he)]
  rw [he] at hck
  clear he
  generalize sgW g r.fr r.to = x at *
  obtain ⟨x1, x2⟩ := x
  refine hspec_fn Try.func19 rfl ok_custref_ProxyRefused okr_custref_ProxyRefused rfl (by kernel_rfl) ?_
  intro Γ hW0 hN0 hL0
  have hW := hW0 rfl
  clear hW0 hN0 hL0
  unfold x_custref_ProxyRefused r_custref_ProxyRefused
  refine auC ?_
  repeat' (first
    | (refine auS ?_)
    | (first | (with_reducible refine runR_call (port_spec _) ?_) | (with_reducible refine runR_call (between_spec _ _ _) ?_) | (with_reducible refine runR_call (roadRight_spec r) ?_) | (with_reducible refine runR_call hck ?_) | (with_reducible refine runR_call hwr ?_) | (simp only [hlen]) | (simp only [hw1]))
    | (refine auD ?_)
    | (with_reducible refine runR_b (fun h => ?_) (fun h => ?_) <;> first | exact auH | simp only [h, runR_t, runR_f])
    | (with_reducible refine condK_bl ?_ ?_)
    | (with_reducible refine condK_b (fun h => ?_) (fun h => ?_) <;> first | exact auH | skip)
    | (first | (simp only [Int.toNat_natCast, ex]) | (refine runR_n ⟨by omega, by omega⟩ ?_) | fail))
  (all_goals first | exact auP | skip)
  refine go_loopH (α := Nat × Nat) (fun p => [(⟨.d0, .d1, .d2⟩, .v (.int .i64 (lastA (ms.take p.1)))), (⟨.d0, .d2, .d7⟩, .v (.int .i64 (p.1 : Nat)))]) (fun p => [(3, none)]) (fun p => p.2) (fun p => ms.length - p.1) (fun p => p.1 ≤ ms.length) (0, Γ.g0 + 3) (Nat.zero_le _) ?_ ?_
  · skip
    refine le_mk ?_ ?_ (Nat.le_refl _)
    all_goals first | refine auE ?_ | exact auE0
    all_goals (repeat' (first | exact trivial | exact rfl | apply And.intro))
  rintro ⟨k, gn⟩ hk
  dsimp only at hk ⊢
  refine auL ?_
  by_cases hlt : k < ms.length
  · obtain ⟨t, ht⟩ : ∃ t, ms[k]? = some t := ⟨_, List.getElem?_eq_getElem hlt⟩
    have ex := xget_gd ht
    have hls := lastA_snoc ht
    repeat' (first
      | (refine auS ?_)
      | (first | (with_reducible refine runR_call (port_spec _) ?_) | (with_reducible refine runR_call (between_spec _ _ _) ?_) | (with_reducible refine runR_call (roadRight_spec r) ?_) | (with_reducible refine runR_call hck ?_) | (with_reducible refine runR_call hwr ?_) | (simp only [hlen]) | (simp only [hw1]))
      | (refine auD ?_)
      | (with_reducible refine runR_b (fun h => ?_) (fun h => ?_) <;> first | exact auH | simp only [h, runR_t, runR_f])
      | (with_reducible refine condK_bl ?_ ?_)
      | (with_reducible refine condK_b (fun h => ?_) (fun h => ?_) <;> first | exact auH | skip)
      | (first | (simp only [Int.toNat_natCast, ex]) | (refine runR_n ⟨by omega, by omega⟩ ?_) | fail))
    (all_goals first | exact auP | skip)
    refine nx_loop ⟨(k + 1, gn + 1), hlt, Nat.sub_lt_sub_left hlt (Nat.lt_succ_self k), ?_⟩
    dsimp only
    rw [hls]
    refine le_mk ?_ ?_ (Nat.le_refl _)
    all_goals first | refine auE ?_ | exact auE0
    all_goals (repeat' (first | exact trivial | exact rfl | apply And.intro))
    all_goals exact dint ((IntWalk.i64_in _ (by omega)).trans (by omega))
  · obtain rfl : k = ms.length := by omega
    rw [List.take_length]
    by_cases hC : refC ms r g now
    · rw [if_neg (not_not_intro hC)]
      unfold refC at hC
      obtain ⟨c1, ⟨c2, c3⟩, c4, c5⟩ := hC
      generalize lastA ms = la at *
      have hrr := roadRight_spec r
      rw [c1] at hrr
      clear c1
      repeat' (first
        | (refine auS ?_)
        | (first | (with_reducible refine runR_call (between_spec _ _ _) ?_) | (with_reducible refine runR_call hrr ?_) | (with_reducible refine runR_call hwr ?_))
        | (refine auD ?_)
        | (with_reducible refine runR_b (fun h => ?_) (fun h => ?_) <;> first | exact auH | simp only [h, runR_t, runR_f])
        | (with_reducible refine condK_bl ?_ ?_)
        | (with_reducible refine condK_b (fun h => ?_) (fun h => ?_) <;> first | exact auH | skip)
        | fail)
      (all_goals first | exact auP | skip)
      all_goals first
        | (exfalso; simp_all; done)
        | (exfalso; simp_all; omega)
        | skip
      all_goals refine auF ?_
      all_goals (try first | refine auR ?_ | exact auR0)
      all_goals (try simp only [hsM] at *)
      all_goals rfl
    · rw [if_pos hC]
      unfold refC at hC
      generalize lastA ms = la at *
      have hrr := roadRight_spec r
      generalize rdOk r = rr at *
      repeat' (first
        | (refine auS ?_)
        | (first | (with_reducible refine runR_call (between_spec _ _ _) ?_) | (with_reducible refine runR_call hrr ?_) | (with_reducible refine runR_call hwr ?_))
        | (refine auD ?_)
        | (with_reducible refine runR_b (fun h => ?_) (fun h => ?_) <;> first | exact auH | simp only [h, runR_t, runR_f])
        | (with_reducible refine condK_bl ?_ ?_)
        | (with_reducible refine condK_b (fun h => ?_) (fun h => ?_) <;> first | exact auH | skip)
        | fail)
      (all_goals first | exact auP | skip)
      all_goals first
        | (exfalso; simp_all; done)
        | (exfalso; simp_all; omega)
        | skip
      all_goals refine auF ?_
      all_goals (try first | refine auR ?_ | exact auR0)
      all_goals (try simp only [hsM] at *)
      all_goals rfl
end Go.Proofs.Ytegejpieedckiaa
