/-
  A guard: talks that are young, talks but one; in the reference.
-/
import Derived.Test.YtegejpieedckiaaProxE
import Derived.Test.YtegejpieedckiaaTcpK
namespace Go.Proofs.Ytegejpieedckiaa
set_option linter.unusedVariables false
set_option linter.unusedSimpArgs false
theorem way_spec (a b : Int) (ha : 0 ≤ a ∧ a < 4294967296) (hb : 0 ≤ b ∧ b < 4294967296) : Spec Try.prog 53 [.v (.int .u32 a), .v (.int .u32 b)] (.v (.int .i64 ((b - a) % 4294967296))) := by
  have e1 : IntKind.i64.wrap b = b := IntWalk.i64_in _ (by omega)
  have e2 : IntKind.i64.wrap a = a := IntWalk.i64_in _ (by omega)
  have e3 : IntKind.i64.wrap (b - a) = b - a := IntWalk.i64_in _ (by omega)
  have e4 : IntKind.i64.wrap (b - a + 4294967296) = b - a + 4294967296 := IntWalk.i64_in _ (by omega)
  refine hspec_fn Try.func53 rfl ok_custref_Way okr_custref_Way rfl (by kernel_rfl) ?_
  intro Γ hW0 hN0 hL0
  have hW := hW0 rfl
  clear hW0 hN0 hL0
  unfold x_custref_Way r_custref_Way
  refine auC ?_
  repeat' (first
    | (refine auS ?_)
    | (first | (simp only [e1, e2]) | (simp only [e3]) | (simp only [e4]))
    | (refine auD ?_)
    | (with_reducible refine runR_b (fun h => ?_) (fun h => ?_) <;> first | exact auH | simp only [h, runR_t, runR_f])
    | (with_reducible refine condK_bl ?_ ?_)
    | (with_reducible refine condK_b (fun h => ?_) (fun h => ?_) <;> first | exact auH | skip)
    | fail)
  (all_goals first | exact auP | skip)
  all_goals refine auF ?_
  all_goals (try first | refine auR ?_ | exact auR0)
  all_goals (try simp only [hsM] at *)
  all_goals (refine dint ?_; (try simp at h); omega)
theorem minus_spec (a b : Int) (ha : 0 ≤ a ∧ a < 4294967296) (hb : 0 ≤ b ∧ b < 4294967296) : Spec Try.prog 25 [.v (.int .u32 a), .v (.int .u32 b)] (.v (.int .u32 ((a - b) % 4294967296))) := by
  have h1 := way_spec b a hb ha
  have e : IntKind.u32.wrap ((a - b) % 4294967296) = (a - b) % 4294967296 := IntWalk.u32_in _ (by omega)
  refine hspec_fn Try.func25 rfl ok_custref_Minus okr_custref_Minus rfl (by kernel_rfl) ?_
  intro Γ hW0 hN0 hL0
  have hW := hW0 rfl
  clear hW0 hN0 hL0
  unfold x_custref_Minus r_custref_Minus
  refine auC ?_
  repeat' (first
    | (refine auS ?_)
    | (first | (simp only [e]) | (with_reducible refine runR_call h1 ?_))
    | (refine auD ?_)
    | (with_reducible refine runR_b (fun h => ?_) (fun h => ?_) <;> first | exact auH | simp only [h, runR_t, runR_f])
    | (with_reducible refine condK_bl ?_ ?_)
    | (with_reducible refine condK_b (fun h => ?_) (fun h => ?_) <;> first | exact auH | skip)
    | fail)
  (all_goals first | exact auP | skip)
  all_goals refine auF ?_
  all_goals (try first | refine auR ?_ | exact auR0)
  all_goals (try simp only [hsM] at *)
/-- The talks that are not on a road. -/
def butR (r : Rd) (ms : List Gd) : List Gd := ms.filter (fun o => !onR r o)
theorem butR_snoc {r : Rd} {ms : List Gd} {k : Nat} {t : Gd} (h : ms[k]? = some t) : butR r (ms.take (k + 1)) = if onR r t = true then butR r (ms.take k) else butR r (ms.take k) ++ [t] := by
  unfold butR
  rw [List.take_add_one, h, List.filter_append]
  cases hq : onR r t with
  | true => simp [hq]
  | false => simp [hq]
set_option maxRecDepth 8000 in
set_option maxHeartbeats 2000000 in
theorem but0_spec (k0 k1 sz : Int) (ms : List Gd) (r : Rd) (hl : ms.length ≤ 64) : Spec Try.prog 22 [dPx k0 k1 sz ms, .agg r.enc, nilS] (dPx k0 k1 sz (butR r ms)) := by
  have hlen : (ms.map Gd.enc).length = ms.length := List.length_map _
  refine hspec_fn Try.func22 rfl ok_custref_talksBut okr_custref_talksBut rfl (by kernel_rfl) ?_
  intro Γ hW0 hN0 hL0
  have hW := hW0 rfl
  clear hW0 hN0 hL0
  unfold x_custref_talksBut r_custref_talksBut
  refine auC ?_
  repeat' (first
    | (refine auS ?_)
    | (simp only [hlen])
    | (refine auD ?_)
    | (with_reducible refine runR_b (fun h => ?_) (fun h => ?_) <;> first | exact auH | simp only [h, runR_t, runR_f])
    | (with_reducible refine condK_bl ?_ ?_)
    | (with_reducible refine condK_b (fun h => ?_) (fun h => ?_) <;> first | exact auH | skip)
    | fail)
  refine go_le (le_row ⟨.d0, .d0, .d7⟩ 6 9 rfl rfl) ?_
  refine auL ?_
  refine go_loopH (α := Nat × Nat × Nat) (fun p => [(⟨.d0, .d0, .d7⟩, .sl 6 p.2.1 9 0 (butR r (ms.take p.1)).length false), (⟨.d0, .d1, .d5⟩, .v (.int .i64 (p.1 : Nat)))]) (fun p => [(4, none), (5, none), (6, some ⟨p.2.1, 9, (butR r (ms.take p.1)).map Gd.enc⟩)]) (fun p => p.2.2) (fun p => ms.length - p.1) (fun p => p.1 ≤ ms.length ∧ Γ.g0 ≤ p.2.1 ∧ p.2.1 < p.2.2) (0, Γ.g0 + 3, Γ.g0 + 3 + 1) ⟨Nat.zero_le _, by dsimp only; omega, by dsimp only; omega⟩ ?_ ?_
  · skip
    refine le_mk ?_ ?_ (Nat.le_refl _)
    all_goals first | refine auE ?_ | exact auE0
    all_goals (repeat' (first | exact trivial | exact rfl | apply And.intro))
  rintro ⟨k, nm, gn⟩ ⟨hk, hnm, hgn⟩
  dsimp only at hk hnm hgn ⊢
  refine auL ?_
  have hbl : (butR r (ms.take k)).length ≤ k := Nat.le_trans (List.length_filter_le _ _) (by simp; omega)
  by_cases hlt : k < ms.length
  · obtain ⟨t, ht⟩ : ∃ t, ms[k]? = some t := ⟨_, List.getElem?_eq_getElem hlt⟩
    have ex := xget_gd ht
    have hsn := butR_snoc (r := r) ht
    generalize butR r (ms.take k) = B at *
    have hBl : (B.map Gd.enc).length = B.length := List.length_map _
    cases hc : onR r t with
    | true =>
      rw [hc, if_pos rfl] at hsn
      unfold onR at hc
      repeat' (first
        | (refine auS ?_)
        | (simp only [hlen])
        | (refine auD ?_)
        | (with_reducible refine runR_b (fun h => ?_) (fun h => ?_) <;> first | exact auH | simp only [h, runR_t, runR_f])
        | (with_reducible refine condK_bl ?_ ?_)
        | (with_reducible refine condK_b (fun h => ?_) (fun h => ?_) <;> first | exact auH | skip)
        | (first | (simp only [Int.toNat_natCast, ex]) | (refine runR_n ⟨by trivial, by trivial, by trivial, by trivial, hBl.symm⟩ ?_) | (refine runR_n ⟨by trivial, by unfold room maxLen; rw [hBl]; simp; omega⟩ ?_) | fail))
      (all_goals first | exact auP | skip)
      all_goals first
        | (exfalso; simp_all; done)
        | (exfalso; simp_all; omega)
        | skip
      refine nx_loop ⟨(k + 1, nm, gn + 1), ⟨hlt, hnm, by dsimp only; omega⟩, Nat.sub_lt_sub_left hlt (Nat.lt_succ_self k), ?_⟩
      dsimp only
      rw [hsn]
      refine le_mk ?_ ?_ (Nat.le_refl _)
      all_goals first | refine auE ?_ | exact auE0
      all_goals (repeat' (first | exact trivial | exact rfl | apply And.intro))
      all_goals exact dint ((IntWalk.i64_in _ (by omega)).trans (by omega))
    | false =>
      rw [hc, if_neg Bool.false_ne_true] at hsn
      unfold onR at hc
      repeat' (first
        | (refine auS ?_)
        | (simp only [hlen])
        | (refine auD ?_)
        | (with_reducible refine runR_b (fun h => ?_) (fun h => ?_) <;> first | exact auH | simp only [h, runR_t, runR_f])
        | (with_reducible refine condK_bl ?_ ?_)
        | (with_reducible refine condK_b (fun h => ?_) (fun h => ?_) <;> first | exact auH | skip)
        | (first | (simp only [Int.toNat_natCast, ex]) | (refine runR_n ⟨by trivial, by trivial, by trivial, by trivial, hBl.symm⟩ ?_) | (refine runR_n ⟨by trivial, by unfold room maxLen; rw [hBl]; simp; omega⟩ ?_) | fail))
      (all_goals first | exact auP | skip)
      all_goals first
        | (exfalso; simp_all; done)
        | (exfalso; simp_all; omega)
        | skip
      refine nx_loop ⟨(k + 1, gn + 1 + 1, gn + 1 + 1 + 1), ⟨hlt, by dsimp only; omega, by dsimp only; omega⟩, Nat.sub_lt_sub_left hlt (Nat.lt_succ_self k), ?_⟩
      dsimp only
      rw [hsn]
      refine le_mk ?_ ?_ (Nat.le_refl _)
      all_goals first | refine auE ?_ | exact auE0
      all_goals (repeat' (first | exact trivial | exact rfl | apply And.intro))
      all_goals first
        | exact dint ((IntWalk.i64_in _ (by omega)).trans (by omega))
        | (rw [hBl]; simp; done)
        | (simp; done)
        | (refine congrArg some (congrArg (AObj.mk (gn + 1 + 1) 9) ?_); simp; done)
  obtain rfl : k = ms.length := by omega
  rw [List.take_length] at *
  generalize butR r ms = B at *
  have hBl : (B.map Gd.enc).length = B.length := List.length_map _
  repeat' (first
    | (refine auS ?_)
    | (simp only [hlen])
    | (refine auD ?_)
    | (with_reducible refine runR_b (fun h => ?_) (fun h => ?_) <;> first | exact auH | simp only [h, runR_t, runR_f])
    | (with_reducible refine condK_bl ?_ ?_)
    | (with_reducible refine condK_b (fun h => ?_) (fun h => ?_) <;> first | exact auH | skip)
    | (first | (refine runR_n ⟨by trivial, by trivial, by trivial, by trivial, hBl.symm⟩ ?_) | (refine runR_n ⟨by trivial, by unfold room maxLen; rw [hBl]; simp; omega⟩ ?_) | fail))
  (all_goals first | exact auP | skip)
  simp only [List.append_nil, hBl]
  refine retq_le (leG_freezeO hW 3 7 (by decide) (ys := [[.v (.int .u64 k0), .v (.int .u64 k1), .v (.int .i64 sz), .snap 9 (B.map Gd.enc) false]]) rfl rfl ⟨⟨rfl, rfl, rfl, .inl ⟨rfl, rfl, by simp, by rw [xall (by simp)]⟩, rfl⟩, rfl⟩) ?_
  have hnf := nf_gd Γ.g0 B
  all_goals refine auF ?_
  all_goals (try first | refine auR ?_ | exact auR0)
  all_goals (try simp only [hsM] at *)
theorem lent1 {st : St} {k : Nat} {o1 p1 : AObj} (hk : 1 ≤ k) (h1 : lget st.H 0 = some p1) (e1 : p1.n = o1.n) : ∀ q p, lget [some o1] q = some p → ∃ q' p', q' ≠ k ∧ lget st.H q' = some p' ∧ p'.n = p.n
  | 0, p, h => by obtain rfl := Option.some.inj h; exact ⟨0, p1, by omega, h1, e1⟩
  | q + 1, p, h => by simp [lget] at h
set_option maxRecDepth 8000 in
set_option maxHeartbeats 2000000 in
theorem but1 (k0 k1 sz : Int) (ms : List Gd) (r : Rd) (t1 : Gd) (fu : Bool) (n : Nat) (hl : ms.length ≤ 64) : HSpec Try.prog 22 [dPx k0 k1 sz ms, .agg r.enc, .sl 0 n 9 0 1 fu] [some ⟨n, 9, [t1.enc]⟩] (fun d H => d = dPx k0 k1 sz (butR r ms ++ [t1]) ∧ H = [some ⟨n, 9, [t1.enc]⟩]) := by
  have hlen : (ms.map Gd.enc).length = ms.length := List.length_map _
  refine hspec_fn Try.func22 rfl ok_custref_talksBut okr_custref_talksBut rfl (by kernel_rfl) ?_
  intro Γ hW0 hN0 hL0
  clear hW0
  unfold x_custref_talksBut r_custref_talksBut
  refine auC ?_
  have hn := hN0 0 _ rfl
  repeat' (first
    | (refine auS ?_)
    | (simp only [hlen])
    | (refine auD ?_)
    | (with_reducible refine runR_b (fun h => ?_) (fun h => ?_) <;> first | exact auH | simp only [h, runR_t, runR_f])
    | (with_reducible refine condK_bl ?_ ?_)
    | (with_reducible refine condK_b (fun h => ?_) (fun h => ?_) <;> first | exact auH | skip)
    | fail)
  refine go_le (le_row ⟨.d0, .d0, .d7⟩ 6 9 rfl rfl) ?_
  refine auL ?_
  refine go_loopH (α := Nat × Nat × Nat) (fun p => [(⟨.d0, .d0, .d7⟩, .sl 6 p.2.1 9 0 (butR r (ms.take p.1)).length false), (⟨.d0, .d1, .d5⟩, .v (.int .i64 (p.1 : Nat)))]) (fun p => [(4, none), (5, none), (6, some ⟨p.2.1, 9, (butR r (ms.take p.1)).map Gd.enc⟩)]) (fun p => p.2.2) (fun p => ms.length - p.1) (fun p => p.1 ≤ ms.length ∧ Γ.g0 ≤ p.2.1 ∧ p.2.1 < p.2.2) (0, Γ.g0 + 3, Γ.g0 + 3 + 1) ⟨Nat.zero_le _, by dsimp only; omega, by dsimp only; omega⟩ ?_ ?_
  · skip
    refine le_mk ?_ ?_ (Nat.le_refl _)
    all_goals first | refine auE ?_ | exact auE0
    all_goals (repeat' (first | exact trivial | exact rfl | apply And.intro))
  rintro ⟨k, nm, gn⟩ ⟨hk, hnm, hgn⟩
  dsimp only at hk hnm hgn ⊢
  refine auL ?_
  have hbl : (butR r (ms.take k)).length ≤ k := Nat.le_trans (List.length_filter_le _ _) (by simp; omega)
  by_cases hlt : k < ms.length
  · obtain ⟨t, ht⟩ : ∃ t, ms[k]? = some t := ⟨_, List.getElem?_eq_getElem hlt⟩
    have ex := xget_gd ht
    have hsn := butR_snoc (r := r) ht
    generalize butR r (ms.take k) = B at *
    have hBl : (B.map Gd.enc).length = B.length := List.length_map _
    cases hc : onR r t with
    | true =>
      rw [hc, if_pos rfl] at hsn
      unfold onR at hc
      repeat' (first
        | (refine auS ?_)
        | (simp only [hlen])
        | (refine auD ?_)
        | (with_reducible refine runR_b (fun h => ?_) (fun h => ?_) <;> first | exact auH | simp only [h, runR_t, runR_f])
        | (with_reducible refine condK_bl ?_ ?_)
        | (with_reducible refine condK_b (fun h => ?_) (fun h => ?_) <;> first | exact auH | skip)
        | (first | (simp only [Int.toNat_natCast, ex]) | (refine runR_n ⟨by trivial, by trivial, by trivial, by trivial, hBl.symm⟩ ?_) | (refine runR_n ⟨by trivial, by unfold room maxLen; rw [hBl]; simp; omega⟩ ?_) | fail))
      (all_goals first | exact auP | skip)
      all_goals first
        | (exfalso; simp_all; done)
        | (exfalso; simp_all; omega)
        | skip
      refine nx_loop ⟨(k + 1, nm, gn + 1), ⟨hlt, hnm, by dsimp only; omega⟩, Nat.sub_lt_sub_left hlt (Nat.lt_succ_self k), ?_⟩
      dsimp only
      rw [hsn]
      refine le_mk ?_ ?_ (Nat.le_refl _)
      all_goals first | refine auE ?_ | exact auE0
      all_goals (repeat' (first | exact trivial | exact rfl | apply And.intro))
      all_goals exact dint ((IntWalk.i64_in _ (by omega)).trans (by omega))
    | false =>
      rw [hc, if_neg Bool.false_ne_true] at hsn
      unfold onR at hc
      repeat' (first
        | (refine auS ?_)
        | (simp only [hlen])
        | (refine auD ?_)
        | (with_reducible refine runR_b (fun h => ?_) (fun h => ?_) <;> first | exact auH | simp only [h, runR_t, runR_f])
        | (with_reducible refine condK_bl ?_ ?_)
        | (with_reducible refine condK_b (fun h => ?_) (fun h => ?_) <;> first | exact auH | skip)
        | (first | (simp only [Int.toNat_natCast, ex]) | (refine runR_n ⟨by trivial, by trivial, by trivial, by trivial, hBl.symm⟩ ?_) | (refine runR_n ⟨by trivial, by unfold room maxLen; rw [hBl]; simp; omega⟩ ?_) | fail))
      (all_goals first | exact auP | skip)
      all_goals first
        | (exfalso; simp_all; done)
        | (exfalso; simp_all; omega)
        | skip
      refine nx_loop ⟨(k + 1, gn + 1 + 1, gn + 1 + 1 + 1), ⟨hlt, by dsimp only; omega, by dsimp only; omega⟩, Nat.sub_lt_sub_left hlt (Nat.lt_succ_self k), ?_⟩
      dsimp only
      rw [hsn]
      refine le_mk ?_ ?_ (Nat.le_refl _)
      all_goals first | refine auE ?_ | exact auE0
      all_goals (repeat' (first | exact trivial | exact rfl | apply And.intro))
      all_goals first
        | exact dint ((IntWalk.i64_in _ (by omega)).trans (by omega))
        | (rw [hBl]; simp; done)
        | (simp; done)
        | (refine congrArg some (congrArg (AObj.mk (gn + 1 + 1) 9) ?_); simp; done)
  obtain rfl : k = ms.length := by omega
  rw [List.take_length] at *
  generalize butR r ms = B at *
  have hBl : (B.map Gd.enc).length = B.length := List.length_map _
  have hcl : (B ++ [t1]).length = B.length + 1 := by simp
  have hcat : B.map Gd.enc ++ [t1.enc] = (B ++ [t1]).map Gd.enc := by simp
  repeat' (first
    | (refine auS ?_)
    | (simp only [hlen])
    | (refine auD ?_)
    | (with_reducible refine runR_b (fun h => ?_) (fun h => ?_) <;> first | exact auH | simp only [h, runR_t, runR_f])
    | (with_reducible refine condK_bl ?_ ?_)
    | (with_reducible refine condK_b (fun h => ?_) (fun h => ?_) <;> first | exact auH | skip)
    | (first | (refine runR_n ⟨by trivial, by trivial, by trivial, by trivial, hBl.symm⟩ ?_) | (refine runR_n ⟨by trivial, by unfold room maxLen; rw [hBl]; simp; omega⟩ ?_) | fail))
  (all_goals first | exact auP | skip)
  simp only [hcat, hBl, ← hcl]
  have hnf := nf_gd Γ.g0 (B ++ [t1])
  refine retq_le (leG_freezeOG 3 7 (not_lent (k := 7) hL0 rfl (lent1 (k := 7) (by decide) (p1 := ⟨n, 9, [t1.enc]⟩) rfl rfl)) (ys := [[.v (.int .u64 k0), .v (.int .u64 k1), .v (.int .i64 sz), .snap 9 ((B ++ [t1]).map Gd.enc) false]]) rfl rfl ⟨⟨rfl, rfl, rfl, .inl ⟨rfl, rfl, by simp, by rw [xall (by simp)]⟩, rfl⟩, rfl⟩) ?_
  refine ret_h1 ?_ ?_ rfl rfl hn ?_ rfl
  · dsimp only [RetOK, resOk, resDs, resD, resV, cellV, cellO, cellP, cellOk, htake, nfD, nfL, nfLL, nfH, lget, partOf, xget, ddrop, dtake, dget, Env.get, N8.get, env0, List.length_cons, List.length_nil, Env.set, N8.set, lset, updL]
    (repeat' (first | exact trivial | exact rfl | decide | apply And.intro))
  · dsimp only [RetOK, resOk, resDs, resD, resV, cellV, cellO, cellP, cellOk, htake, nfD, nfL, nfLL, nfH, lget, partOf, xget, ddrop, dtake, dget, Env.get, N8.get, env0, List.length_cons, List.length_nil, Env.set, N8.set, lset, updL]
    (repeat' (first | exact trivial | exact rfl | exact hnf | decide | apply And.intro))
  · simp [nfLL, nfL, nfD]
end Go.Proofs.Ytegejpieedckiaa
