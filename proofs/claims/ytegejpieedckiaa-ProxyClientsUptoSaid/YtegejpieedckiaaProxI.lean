/-
  A guard: the talks that are young, and the one of a road; in the reference.
-/
import Derived.Test.YtegejpieedckiaaProxH
namespace Go.Proofs.Ytegejpieedckiaa
set_option linter.unusedVariables false
set_option linter.unusedSimpArgs false
def gd0 : Gd := ⟨0, 0, 0, 0, 0, 0, 0, false, 0⟩
def fndL (r : Rd) (q : List Gd) : Gd × Bool := q.foldl (fun a t => if onR r t = true then (t, true) else a) (gd0, false)
theorem fndL_snoc (r : Rd) (q : List Gd) (t : Gd) : fndL r (q ++ [t]) = if onR r t = true then (t, true) else fndL r q := by
  unfold fndL
  rw [List.foldl_append]; rfl
theorem yng_snoc {now : Int} {ms : List Gd} {k : Nat} {t : Gd} (h : ms[k]? = some t) : yngG now (ms.take (k + 1)) = if oldG now t = true then yngG now (ms.take k) else yngG now (ms.take k) ++ [t] := by
  unfold yngG
  rw [List.take_add_one, h, List.filter_append]
  cases hq : oldG now t with
  | true => simp [hq]
  | false => simp [hq]
set_option maxRecDepth 8000 in
set_option maxHeartbeats 4000000 in
theorem youngTalks_spec (k0 k1 sz now : Int) (ms : List Gd) (r : Rd) (hl : ms.length ≤ 64) (hn : 0 ≤ now ∧ now ≤ 1099511627776) (ha : ∀ t ∈ ms, 0 ≤ t.at' ∧ t.at' ≤ 1099511627776) : Spec Try.prog 20 [dPx k0 k1 sz ms, .agg r.enc, .v (.int .i64 now)] (.tup [dPx k0 k1 sz (yngG now ms), .agg (fndL r (yngG now ms)).1.enc, .v (.bool (fndL r (yngG now ms)).2)]) := by
  have hlen : (ms.map Gd.enc).length = ms.length := List.length_map _
  refine hspec_fn Try.func20 rfl ok_custref_youngTalks okr_custref_youngTalks rfl (by kernel_rfl) ?_
  intro Γ hW0 hN0 hL0
  have hW := hW0 rfl
  clear hW0 hN0 hL0
  unfold x_custref_youngTalks r_custref_youngTalks
  refine auC ?_
  repeat' (first
    | (refine auS ?_)
    | (simp only [hlen])
    | (refine auD ?_)
    | (with_reducible refine runR_b (fun h => ?_) (fun h => ?_) <;> first | exact auH | simp only [h, runR_t, runR_f])
    | (with_reducible refine condK_bl ?_ ?_)
    | (with_reducible refine condK_b (fun h => ?_) (fun h => ?_) <;> first | exact auH | skip)
    | fail)
  refine go_le (le_row ⟨.d0, .d1, .d1⟩ 7 9 rfl rfl) ?_
  refine auL ?_
  refine go_loopH (α := Nat × Nat × Nat) (fun p => [(⟨.d0, .d1, .d1⟩, .sl 7 p.2.1 9 0 (yngG now (ms.take p.1)).length false), (⟨.d0, .d1, .d3⟩, .v (.bool (fndL r (yngG now (ms.take p.1))).2)), (⟨.d0, .d2, .d2⟩, .v (.int .i64 (p.1 : Nat)))]) (fun p => [(4, some ⟨Γ.g0 + 4, 9, [(fndL r (yngG now (ms.take p.1))).1.enc]⟩), (5, none), (6, none), (7, some ⟨p.2.1, 9, (yngG now (ms.take p.1)).map Gd.enc⟩)]) (fun p => p.2.2) (fun p => ms.length - p.1) (fun p => p.1 ≤ ms.length ∧ Γ.g0 + 4 < p.2.1 ∧ p.2.1 < p.2.2) (0, Γ.g0 + 5, Γ.g0 + 5 + 1) ⟨Nat.zero_le _, by dsimp only; omega, by dsimp only; omega⟩ ?_ ?_
  · skip
    refine le_mk ?_ ?_ (Nat.le_refl _)
    all_goals first | refine auE ?_ | exact auE0
    all_goals (repeat' (first | exact trivial | exact rfl | apply And.intro))
  rintro ⟨k, nm, gn⟩ ⟨hk, hnm, hgn⟩
  dsimp only at hk hnm hgn ⊢
  refine auL ?_
  have hbl : (yngG now (ms.take k)).length ≤ k := Nat.le_trans (List.length_filter_le _ _) (by simp; omega)
  by_cases hlt : k < ms.length
  · obtain ⟨t, ht⟩ : ∃ t, ms[k]? = some t := ⟨_, List.getElem?_eq_getElem hlt⟩
    have ex := xget_gd ht
    have hsn := yng_snoc (now := now) ht
    have hat := ha t (List.mem_of_getElem? ht)
    have w30 : IntKind.i64.wrap (t.at' + 30) = t.at' + 30 := IntWalk.i64_in _ (by omega)
    have w3000 : IntKind.i64.wrap (t.at' + 3000) = t.at' + 3000 := IntWalk.i64_in _ (by omega)
    generalize yngG now (ms.take k) = B at *
    have hBl : (B.map Gd.enc).length = B.length := List.length_map _
    have hfs := fndL_snoc r B t
    generalize hfe : fndL r B = f at *
    obtain ⟨f1, f2⟩ := f
    dsimp only
    cases ho : oldG now t with
    | true =>
      rw [ho, if_pos rfl] at hsn
      unfold oldG at ho
      cases hop : t.op with
      | true =>
        rw [hop, if_pos rfl] at ho
        repeat' (first
          | (refine auS ?_)
          | (first | (simp only [hlen]) | (simp only [w30, w3000]))
          | (refine auD ?_)
          | (with_reducible refine runR_b (fun h => ?_) (fun h => ?_) <;> first | exact auH | simp only [h, runR_t, runR_f])
          | (with_reducible refine condK_bl ?_ ?_)
          | (with_reducible refine condK_b (fun h => ?_) (fun h => ?_) <;> first | exact auH | skip)
          | (first | (simp only [Int.toNat_natCast, ex]) | (refine runR_n ⟨by trivial, by trivial, by trivial, by trivial, hBl.symm⟩ ?_) | (refine runR_n ⟨by trivial, by unfold room maxLen; rw [hBl]; simp; omega⟩ ?_) | fail))
        (all_goals first | exact auP | skip)
        all_goals first
          | (exfalso; simp_all; done)
          | (exfalso; simp_all; omega)
          | skip
        all_goals refine nx_loop ⟨(k + 1, nm, gn + 1), ⟨hlt, hnm, by dsimp only; omega⟩, Nat.sub_lt_sub_left hlt (Nat.lt_succ_self k), ?_⟩
        dsimp only
        rw [hsn, hfe]
        refine le_mk ?_ ?_ (Nat.le_refl _)
        all_goals first | refine auE ?_ | exact auE0
        all_goals (repeat' (first | exact trivial | exact rfl | apply And.intro))
        all_goals first
          | exact dint ((IntWalk.i64_in _ (by omega)).trans (by omega))
          | (rw [hBl]; simp; done)
          | (simp; done)
          | (refine congrArg some (congrArg (AObj.mk (gn + 1 + 1) 9) ?_); simp; done)
      | false =>
        rw [hop, if_neg Bool.false_ne_true] at ho
        repeat' (first
          | (refine auS ?_)
          | (first | (simp only [hlen]) | (simp only [w30, w3000]))
          | (refine auD ?_)
          | (with_reducible refine runR_b (fun h => ?_) (fun h => ?_) <;> first | exact auH | simp only [h, runR_t, runR_f])
          | (with_reducible refine condK_bl ?_ ?_)
          | (with_reducible refine condK_b (fun h => ?_) (fun h => ?_) <;> first | exact auH | skip)
          | (first | (simp only [Int.toNat_natCast, ex]) | (refine runR_n ⟨by trivial, by trivial, by trivial, by trivial, hBl.symm⟩ ?_) | (refine runR_n ⟨by trivial, by unfold room maxLen; rw [hBl]; simp; omega⟩ ?_) | fail))
        (all_goals first | exact auP | skip)
        all_goals first
          | (exfalso; simp_all; done)
          | (exfalso; simp_all; omega)
          | skip
        all_goals refine nx_loop ⟨(k + 1, nm, gn + 1), ⟨hlt, hnm, by dsimp only; omega⟩, Nat.sub_lt_sub_left hlt (Nat.lt_succ_self k), ?_⟩
        dsimp only
        rw [hsn, hfe]
        refine le_mk ?_ ?_ (Nat.le_refl _)
        all_goals first | refine auE ?_ | exact auE0
        all_goals (repeat' (first | exact trivial | exact rfl | apply And.intro))
        all_goals first
          | exact dint ((IntWalk.i64_in _ (by omega)).trans (by omega))
          | (rw [hBl]; simp; done)
          | (simp; done)
          | (refine congrArg some (congrArg (AObj.mk (gn + 1 + 1) 9) ?_); simp; done)
    | false =>
      rw [ho, if_neg Bool.false_ne_true] at hsn
      unfold oldG at ho
      cases hc : onR r t with
      | true =>
        rw [hc, if_pos rfl] at hfs
        unfold onR at hc
        cases hop : t.op with
        | true =>
          rw [hop, if_pos rfl] at ho
          repeat' (first
            | (refine auS ?_)
            | (first | (simp only [hlen]) | (simp only [w30, w3000]))
            | (refine auD ?_)
            | (with_reducible refine runR_b (fun h => ?_) (fun h => ?_) <;> first | exact auH | simp only [h, runR_t, runR_f])
            | (with_reducible refine condK_bl ?_ ?_)
            | (with_reducible refine condK_b (fun h => ?_) (fun h => ?_) <;> first | exact auH | skip)
            | (first | (simp only [Int.toNat_natCast, ex]) | (refine runR_n ⟨by trivial, by trivial, by trivial, by trivial, hBl.symm⟩ ?_) | (refine runR_n ⟨by trivial, by unfold room maxLen; rw [hBl]; simp; omega⟩ ?_) | fail))
          (all_goals first | exact auP | skip)
          all_goals first
            | (exfalso; simp_all; done)
            | (exfalso; simp_all; omega)
            | skip
          all_goals refine nx_loop ⟨(k + 1, gn + 1 + 1, gn + 1 + 1 + 1), ⟨hlt, by dsimp only; omega, by dsimp only; omega⟩, Nat.sub_lt_sub_left hlt (Nat.lt_succ_self k), ?_⟩
          dsimp only
          rw [hsn, hfs]
          refine le_mk ?_ ?_ (Nat.le_refl _)
          all_goals first | refine auE ?_ | exact auE0
          all_goals (repeat' (first | exact trivial | exact rfl | apply And.intro))
          all_goals first
            | exact dint ((IntWalk.i64_in _ (by omega)).trans (by omega))
            | (rw [hBl]; simp; done)
            | (simp; done)
            | (refine congrArg some (congrArg (AObj.mk (gn + 1 + 1) 9) ?_); simp; done)
        | false =>
          rw [hop, if_neg Bool.false_ne_true] at ho
          repeat' (first
            | (refine auS ?_)
            | (first | (simp only [hlen]) | (simp only [w30, w3000]))
            | (refine auD ?_)
            | (with_reducible refine runR_b (fun h => ?_) (fun h => ?_) <;> first | exact auH | simp only [h, runR_t, runR_f])
            | (with_reducible refine condK_bl ?_ ?_)
            | (with_reducible refine condK_b (fun h => ?_) (fun h => ?_) <;> first | exact auH | skip)
            | (first | (simp only [Int.toNat_natCast, ex]) | (refine runR_n ⟨by trivial, by trivial, by trivial, by trivial, hBl.symm⟩ ?_) | (refine runR_n ⟨by trivial, by unfold room maxLen; rw [hBl]; simp; omega⟩ ?_) | fail))
          (all_goals first | exact auP | skip)
          all_goals first
            | (exfalso; simp_all; done)
            | (exfalso; simp_all; omega)
            | skip
          all_goals refine nx_loop ⟨(k + 1, gn + 1 + 1, gn + 1 + 1 + 1), ⟨hlt, by dsimp only; omega, by dsimp only; omega⟩, Nat.sub_lt_sub_left hlt (Nat.lt_succ_self k), ?_⟩
          dsimp only
          rw [hsn, hfs]
          refine le_mk ?_ ?_ (Nat.le_refl _)
          all_goals first | refine auE ?_ | exact auE0
          all_goals (repeat' (first | exact trivial | exact rfl | apply And.intro))
          all_goals first
            | exact dint ((IntWalk.i64_in _ (by omega)).trans (by omega))
            | (rw [hBl]; simp; done)
            | (simp; done)
            | (refine congrArg some (congrArg (AObj.mk (gn + 1 + 1) 9) ?_); simp; done)
      | false =>
        rw [hc, if_neg Bool.false_ne_true] at hfs
        unfold onR at hc
        cases hop : t.op with
        | true =>
          rw [hop, if_pos rfl] at ho
          repeat' (first
            | (refine auS ?_)
            | (first | (simp only [hlen]) | (simp only [w30, w3000]))
            | (refine auD ?_)
            | (with_reducible refine runR_b (fun h => ?_) (fun h => ?_) <;> first | exact auH | simp only [h, runR_t, runR_f])
            | (with_reducible refine condK_bl ?_ ?_)
            | (with_reducible refine condK_b (fun h => ?_) (fun h => ?_) <;> first | exact auH | skip)
            | (first | (simp only [Int.toNat_natCast, ex]) | (refine runR_n ⟨by trivial, by trivial, by trivial, by trivial, hBl.symm⟩ ?_) | (refine runR_n ⟨by trivial, by unfold room maxLen; rw [hBl]; simp; omega⟩ ?_) | fail))
          (all_goals first | exact auP | skip)
          all_goals first
            | (exfalso; simp_all; done)
            | (exfalso; simp_all; omega)
            | skip
          all_goals refine nx_loop ⟨(k + 1, gn + 1 + 1, gn + 1 + 1 + 1), ⟨hlt, by dsimp only; omega, by dsimp only; omega⟩, Nat.sub_lt_sub_left hlt (Nat.lt_succ_self k), ?_⟩
          dsimp only
          rw [hsn, hfs]
          refine le_mk ?_ ?_ (Nat.le_refl _)
          all_goals first | refine auE ?_ | exact auE0
          all_goals (repeat' (first | exact trivial | exact rfl | apply And.intro))
          all_goals first
            | exact dint ((IntWalk.i64_in _ (by omega)).trans (by omega))
            | (rw [hBl]; simp; done)
            | (simp; done)
            | (refine congrArg some (congrArg (AObj.mk (gn + 1 + 1) 9) ?_); simp; done)
        | false =>
          rw [hop, if_neg Bool.false_ne_true] at ho
          repeat' (first
            | (refine auS ?_)
            | (first | (simp only [hlen]) | (simp only [w30, w3000]))
            | (refine auD ?_)
            | (with_reducible refine runR_b (fun h => ?_) (fun h => ?_) <;> first | exact auH | simp only [h, runR_t, runR_f])
            | (with_reducible refine condK_bl ?_ ?_)
            | (with_reducible refine condK_b (fun h => ?_) (fun h => ?_) <;> first | exact auH | skip)
            | (first | (simp only [Int.toNat_natCast, ex]) | (refine runR_n ⟨by trivial, by trivial, by trivial, by trivial, hBl.symm⟩ ?_) | (refine runR_n ⟨by trivial, by unfold room maxLen; rw [hBl]; simp; omega⟩ ?_) | fail))
          (all_goals first | exact auP | skip)
          all_goals first
            | (exfalso; simp_all; done)
            | (exfalso; simp_all; omega)
            | skip
          all_goals refine nx_loop ⟨(k + 1, gn + 1 + 1, gn + 1 + 1 + 1), ⟨hlt, by dsimp only; omega, by dsimp only; omega⟩, Nat.sub_lt_sub_left hlt (Nat.lt_succ_self k), ?_⟩
          dsimp only
          rw [hsn, hfs]
          refine le_mk ?_ ?_ (Nat.le_refl _)
          all_goals first | refine auE ?_ | exact auE0
          all_goals (repeat' (first | exact trivial | exact rfl | apply And.intro))
          all_goals first
            | exact dint ((IntWalk.i64_in _ (by omega)).trans (by omega))
            | (rw [hBl]; simp; done)
            | (simp; done)
            | (refine congrArg some (congrArg (AObj.mk (gn + 1 + 1) 9) ?_); simp; done)
  obtain rfl : k = ms.length := by omega
  rw [List.take_length] at *
  generalize yngG now ms = B at *
  generalize fndL r B = f at *
  have hBl : (B.map Gd.enc).length = B.length := List.length_map _
  repeat' (first
    | (refine auS ?_)
    | (simp only [hlen])
    | (refine auD ?_)
    | (with_reducible refine runR_b (fun h => ?_) (fun h => ?_) <;> first | exact auH | simp only [h, runR_t, runR_f])
    | (with_reducible refine condK_bl ?_ ?_)
    | (with_reducible refine condK_b (fun h => ?_) (fun h => ?_) <;> first | exact auH | skip)
    | fail)
  (all_goals first | exact auP | skip)
  refine retq_le (leG_freezeO hW 2 7 (by decide) (ys := [[.v (.int .u64 k0), .v (.int .u64 k1), .v (.int .i64 sz), .snap 9 (B.map Gd.enc) false]]) rfl rfl ⟨⟨rfl, rfl, rfl, .inl ⟨rfl, rfl, by simp, by rw [xall (by simp)]⟩, rfl⟩, rfl⟩) ?_
  have hnf := nf_gd Γ.g0 B
  all_goals refine auF ?_
  all_goals (try first | refine auR ?_ | exact auR0)
  all_goals (try simp only [hsM] at *)
end Go.Proofs.Ytegejpieedckiaa
