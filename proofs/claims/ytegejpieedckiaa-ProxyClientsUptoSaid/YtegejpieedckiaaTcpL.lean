/-
  Segments: the reference's text, walked.
-/
import Derived.Test.YtegejpieedckiaaTcpM
namespace Go.Proofs.Ytegejpieedckiaa
set_option linter.unusedVariables false
set_option linter.unusedSimpArgs false
theorem ze3 : (ByteArray.mk #[0, 0, 0] : ByteArray) = mkS [0, 0, 0] := rfl
set_option maxHeartbeats 4000000 in
theorem stext_spec (g : Sg) (a b : Int) (ha : 0 ≤ a ∧ a < 4294967296) (hb : 0 ≤ b ∧ b < 4294967296) (hq : 0 ≤ g.seq ∧ g.seq < 4294967296) (hk : 0 ≤ g.ack ∧ g.ack < 4294967296) (hl : g.opts.length ≤ maxLen) (hd : ∀ o ∈ g.opts, o.d.length ≤ 140737488351232) (hdd : g.data.length ≤ 140737488351232) : Spec Try.prog 50 [dG g, .v (.int .u32 a), .v (.int .u32 b)] (.tup [.v (.string (mkS (sgW g a b).1)), .v (.int .i64 (sgW g a b).2)]) := by
  have hl' : g.opts.length ≤ 9223372036854775807 := hl
  by_cases hA : argOk g
  case neg =>
    have hr : sgW g a b = ([], 1) := if_pos hA
    rw [hr]
    unfold argOk at hA
    refine hspec_fn Try.func50 rfl ok_custref_SegmentText okr_custref_SegmentText rfl (by kernel_rfl) ?_
    intro Γ hW0 hN0 hL0
    have hW := hW0 rfl
    clear hW0 hN0 hL0
    unfold x_custref_SegmentText r_custref_SegmentText
    refine auC ?_
    repeat' (first
      | (refine auS ?_)
      | (first | (simp only [mkS_app, mkS_size, emR, ze3, List.length_map, Int.toNat_natCast]) | (simp only [ex]) | (simp only [t1, t2, t3, x1]) | (simp only [e2, e3]) | (simp only [x3, x4, e4]) | (with_reducible refine runR_call (between_spec _ _ _) ?_) | (with_reducible refine runR_call hot ?_) | (with_reducible refine runR_call hco ?_) | (with_reducible refine runR_callS rfl (bytes2 _ _ _ _ _) ?_) | (with_reducible refine runR_call hu ?_) | (with_reducible refine runR_call hs ?_) | (with_reducible refine runR_call l1 ?_) | (with_reducible refine runR_call l2 ?_) | (with_reducible refine runR_call w1 ?_) | (with_reducible refine runR_call w2 ?_) | (with_reducible refine runR_call w3 ?_) | (with_reducible refine runR_call w4 ?_) | (with_reducible refine runR_call w5 ?_) | (with_reducible refine runR_call w6 ?_))
      | (refine auD ?_)
      | (with_reducible refine runR_b (fun h => ?_) (fun h => ?_) <;> first | exact auH | simp only [h, runR_t, runR_f])
      | (with_reducible refine condK_bl ?_ ?_)
      | (with_reducible refine condK_b (fun h => ?_) (fun h => ?_) <;> first | exact auH | skip)
      | (refine runR_n (by simp only [mkS_app, mkS_size, List.length_append, und_len, lg_len, wd_len, List.length_cons, List.length_nil, List.length_replicate]; omega) ?_))
    (all_goals first | exact auP | skip)
    all_goals first
      | (exfalso; simp_all; done)
      | skip
    all_goals first
      | (exfalso; apply hA; simp_all; done)
      | skip
    all_goals refine auF ?_
    all_goals (try first | refine auR ?_ | exact auR0)
    all_goals (try simp only [hsM] at *)
    all_goals rfl
  have hA2 := hA
  obtain ⟨⟨a1, a2, a3, a4⟩, a5⟩ := hA2
  have hco := containsO_spec g.opts hl hd
  refine hspec_fn Try.func50 rfl ok_custref_SegmentText okr_custref_SegmentText rfl (by kernel_rfl) ?_
  intro Γ hW0 hN0 hL0
  have hW := hW0 rfl
  clear hW0 hN0 hL0
  unfold x_custref_SegmentText r_custref_SegmentText
  refine auC ?_
  repeat' (first
    | (refine auS ?_)
    | (first | (simp only [mkS_app, mkS_size, emR, ze3, List.length_map, Int.toNat_natCast]) | (simp only [ex]) | (simp only [t1, t2, t3, x1]) | (simp only [e2, e3]) | (simp only [x3, x4, e4]) | (with_reducible refine runR_call (between_spec _ _ _) ?_) | (with_reducible refine runR_call hot ?_) | (with_reducible refine runR_call hco ?_) | (with_reducible refine runR_callS rfl (bytes2 _ _ _ _ _) ?_) | (with_reducible refine runR_call hu ?_) | (with_reducible refine runR_call hs ?_) | (with_reducible refine runR_call l1 ?_) | (with_reducible refine runR_call l2 ?_) | (with_reducible refine runR_call w1 ?_) | (with_reducible refine runR_call w2 ?_) | (with_reducible refine runR_call w3 ?_) | (with_reducible refine runR_call w4 ?_) | (with_reducible refine runR_call w5 ?_) | (with_reducible refine runR_call w6 ?_))
    | (refine auD ?_)
    | (with_reducible refine runR_b (fun h => ?_) (fun h => ?_) <;> first | exact auH | simp only [h, runR_t, runR_f])
    | (with_reducible refine condK_bl ?_ ?_)
    | (with_reducible refine condK_b (fun h => ?_) (fun h => ?_) <;> first | exact auH | skip)
    | (refine runR_n (by simp only [mkS_app, mkS_size, List.length_append, und_len, lg_len, wd_len, List.length_cons, List.length_nil, List.length_replicate]; omega) ?_))
  (all_goals first | exact auP | skip)
  all_goals first
    | (exfalso; simp_all; done)
    | skip
  refine go_loopH (α := Nat × Nat) (fun x => [(⟨.d0, .d1, .d0⟩, .v (.string (mkS (segO [] (g.opts.take x.1))))), (⟨.d0, .d5, .d6⟩, .v (.int .i64 (x.1 : Nat)))]) (fun _ => [(1, none)]) (fun x => x.2) (fun x => g.opts.length - x.1) (fun x => x.1 ≤ g.opts.length ∧ (g.opts.take x.1).all optB = true) (0, Γ.g0 + 1) ⟨Nat.zero_le _, rfl⟩ ?_ ?_
  · skip
    refine le_mk ?_ ?_ (Nat.le_refl _)
    all_goals first | refine auE ?_ | exact auE0
    all_goals (repeat' (first | exact trivial | exact rfl | apply And.intro))
  rintro ⟨k, gn⟩ ⟨hkl, hall⟩
  dsimp only at hkl hall ⊢
  refine auL ?_
  by_cases hlt : k < g.opts.length
  · obtain ⟨o, ho⟩ : ∃ o, g.opts[k]? = some o := ⟨_, List.getElem?_eq_getElem hlt⟩
    have ex := xget_op ho
    have htn := take_snoc ho
    have hot := optionText_spec o (hd o (List.mem_of_getElem? ho))
    unfold dOT at hot
    cases hB : optB o with
    | false =>
      rw [hB, if_neg (by simp)] at hot
      have hO : g.opts.all optB = false := by
        cases hh : g.opts.all optB with
        | false => rfl
        | true =>
          have := List.all_eq_true.1 hh o (List.mem_of_getElem? ho)
          rw [hB] at this; cases this
      have hr : sgW g a b = ([], 4) := by unfold sgW; rw [if_neg (not_not_intro hA), if_pos hO]
      rw [hr]
      generalize segO [] (g.opts.take k) = S at *
      repeat' (first
        | (refine auS ?_)
        | (first | (simp only [mkS_app, mkS_size, emR, ze3, List.length_map, Int.toNat_natCast]) | (simp only [ex]) | (simp only [t1, t2, t3, x1]) | (simp only [e2, e3]) | (simp only [x3, x4, e4]) | (with_reducible refine runR_call (between_spec _ _ _) ?_) | (with_reducible refine runR_call hot ?_) | (with_reducible refine runR_call hco ?_) | (with_reducible refine runR_callS rfl (bytes2 _ _ _ _ _) ?_) | (with_reducible refine runR_call hu ?_) | (with_reducible refine runR_call hs ?_) | (with_reducible refine runR_call l1 ?_) | (with_reducible refine runR_call l2 ?_) | (with_reducible refine runR_call w1 ?_) | (with_reducible refine runR_call w2 ?_) | (with_reducible refine runR_call w3 ?_) | (with_reducible refine runR_call w4 ?_) | (with_reducible refine runR_call w5 ?_) | (with_reducible refine runR_call w6 ?_))
        | (refine auD ?_)
        | (with_reducible refine runR_b (fun h => ?_) (fun h => ?_) <;> first | exact auH | simp only [h, runR_t, runR_f])
        | (with_reducible refine condK_bl ?_ ?_)
        | (with_reducible refine condK_b (fun h => ?_) (fun h => ?_) <;> first | exact auH | skip)
        | (refine runR_n (by simp only [mkS_app, mkS_size, List.length_append, und_len, lg_len, wd_len, List.length_cons, List.length_nil, List.length_replicate]; omega) ?_))
      (all_goals first | exact auP | skip)
      all_goals first
        | (exfalso; simp_all; done)
        | skip
      all_goals refine auF ?_
      all_goals (try first | refine auR ?_ | exact auR0)
      all_goals (try simp only [hsM] at *)
      all_goals rfl
    | true =>
      rw [hB, if_pos rfl] at hot
      have hol := optT_len hB
      have hall2 : (g.opts.take (k + 1)).all optB = true := by rw [htn, List.all_append, hall]; simp [hB]
      have hsn := segO_snoc o (g.opts.take k) []
      rw [← htn] at hsn
      generalize segO [] (g.opts.take k) = S at *
      by_cases hS : S.length ≤ 40
      · rw [if_pos hS] at hsn
        repeat' (first
          | (refine auS ?_)
          | (first | (simp only [mkS_app, mkS_size, emR, ze3, List.length_map, Int.toNat_natCast]) | (simp only [ex]) | (simp only [t1, t2, t3, x1]) | (simp only [e2, e3]) | (simp only [x3, x4, e4]) | (with_reducible refine runR_call (between_spec _ _ _) ?_) | (with_reducible refine runR_call hot ?_) | (with_reducible refine runR_call hco ?_) | (with_reducible refine runR_callS rfl (bytes2 _ _ _ _ _) ?_) | (with_reducible refine runR_call hu ?_) | (with_reducible refine runR_call hs ?_) | (with_reducible refine runR_call l1 ?_) | (with_reducible refine runR_call l2 ?_) | (with_reducible refine runR_call w1 ?_) | (with_reducible refine runR_call w2 ?_) | (with_reducible refine runR_call w3 ?_) | (with_reducible refine runR_call w4 ?_) | (with_reducible refine runR_call w5 ?_) | (with_reducible refine runR_call w6 ?_))
          | (refine auD ?_)
          | (with_reducible refine runR_b (fun h => ?_) (fun h => ?_) <;> first | exact auH | simp only [h, runR_t, runR_f])
          | (with_reducible refine condK_bl ?_ ?_)
          | (with_reducible refine condK_b (fun h => ?_) (fun h => ?_) <;> first | exact auH | skip)
          | (refine runR_n (by simp only [mkS_app, mkS_size, List.length_append, und_len, lg_len, wd_len, List.length_cons, List.length_nil, List.length_replicate]; omega) ?_))
        (all_goals first | exact auP | skip)
        all_goals first
          | (exfalso; simp_all; done)
          | skip
        refine nx_loop ⟨(k + 1, gn + 1), ⟨hlt, hall2⟩, Nat.sub_lt_sub_left hlt (Nat.lt_succ_self k), ?_⟩
        dsimp only
        rw [hsn]
        refine le_mk ?_ ?_ (Nat.le_refl _)
        all_goals first | refine auE ?_ | exact auE0
        all_goals (repeat' (first | exact trivial | exact rfl | apply And.intro))
        all_goals exact dint ((IntWalk.i64_in _ (by omega)).trans (by omega))
      · rw [if_neg hS] at hsn
        repeat' (first
          | (refine auS ?_)
          | (first | (simp only [mkS_app, mkS_size, emR, ze3, List.length_map, Int.toNat_natCast]) | (simp only [ex]) | (simp only [t1, t2, t3, x1]) | (simp only [e2, e3]) | (simp only [x3, x4, e4]) | (with_reducible refine runR_call (between_spec _ _ _) ?_) | (with_reducible refine runR_call hot ?_) | (with_reducible refine runR_call hco ?_) | (with_reducible refine runR_callS rfl (bytes2 _ _ _ _ _) ?_) | (with_reducible refine runR_call hu ?_) | (with_reducible refine runR_call hs ?_) | (with_reducible refine runR_call l1 ?_) | (with_reducible refine runR_call l2 ?_) | (with_reducible refine runR_call w1 ?_) | (with_reducible refine runR_call w2 ?_) | (with_reducible refine runR_call w3 ?_) | (with_reducible refine runR_call w4 ?_) | (with_reducible refine runR_call w5 ?_) | (with_reducible refine runR_call w6 ?_))
          | (refine auD ?_)
          | (with_reducible refine runR_b (fun h => ?_) (fun h => ?_) <;> first | exact auH | simp only [h, runR_t, runR_f])
          | (with_reducible refine condK_bl ?_ ?_)
          | (with_reducible refine condK_b (fun h => ?_) (fun h => ?_) <;> first | exact auH | skip)
          | (refine runR_n (by simp only [mkS_app, mkS_size, List.length_append, und_len, lg_len, wd_len, List.length_cons, List.length_nil, List.length_replicate]; omega) ?_))
        (all_goals first | exact auP | skip)
        all_goals first
          | (exfalso; simp_all; done)
          | skip
        refine nx_loop ⟨(k + 1, gn + 1), ⟨hlt, hall2⟩, Nat.sub_lt_sub_left hlt (Nat.lt_succ_self k), ?_⟩
        dsimp only
        rw [hsn]
        refine le_mk ?_ ?_ (Nat.le_refl _)
        all_goals first | refine auE ?_ | exact auE0
        all_goals (repeat' (first | exact trivial | exact rfl | apply And.intro))
        all_goals exact dint ((IntWalk.i64_in _ (by omega)).trans (by omega))
  · obtain rfl : k = g.opts.length := by omega
    rw [List.take_length] at hall
    rw [List.take_length]
    have hno : g.opts.any badO = false := by
      rw [List.any_eq_false]
      intro o ho
      have := List.all_eq_true.1 hall o ho
      unfold badO
      rw [this]; simp
    rw [hno] at hco
    obtain ⟨i1, i2⟩ := segO_is g.opts []
    rw [List.nil_append] at i1 i2
    by_cases hL : 40 < (optsT g.opts).length ∨ 65455 < g.data.length
    · have hr : sgW g a b = ([], 2) := by unfold sgW; rw [if_neg (not_not_intro hA), if_neg (by rw [hall]; simp), if_pos hL]
      rw [hr]
      generalize segO [] g.opts = S at *
      by_cases hS : 40 < S.length
      · skip
        repeat' (first
          | (refine auS ?_)
          | (first | (simp only [mkS_app, mkS_size, emR, ze3, List.length_map, Int.toNat_natCast]) | (simp only [ex]) | (simp only [t1, t2, t3, x1]) | (simp only [e2, e3]) | (simp only [x3, x4, e4]) | (with_reducible refine runR_call (between_spec _ _ _) ?_) | (with_reducible refine runR_call hot ?_) | (with_reducible refine runR_call hco ?_) | (with_reducible refine runR_callS rfl (bytes2 _ _ _ _ _) ?_) | (with_reducible refine runR_call hu ?_) | (with_reducible refine runR_call hs ?_) | (with_reducible refine runR_call l1 ?_) | (with_reducible refine runR_call l2 ?_) | (with_reducible refine runR_call w1 ?_) | (with_reducible refine runR_call w2 ?_) | (with_reducible refine runR_call w3 ?_) | (with_reducible refine runR_call w4 ?_) | (with_reducible refine runR_call w5 ?_) | (with_reducible refine runR_call w6 ?_))
          | (refine auD ?_)
          | (with_reducible refine runR_b (fun h => ?_) (fun h => ?_) <;> first | exact auH | simp only [h, runR_t, runR_f])
          | (with_reducible refine condK_bl ?_ ?_)
          | (with_reducible refine condK_b (fun h => ?_) (fun h => ?_) <;> first | exact auH | skip)
          | (refine runR_n (by simp only [mkS_app, mkS_size, List.length_append, und_len, lg_len, wd_len, List.length_cons, List.length_nil, List.length_replicate]; omega) ?_))
        (all_goals first | exact auP | skip)
        all_goals first
          | (exfalso; simp_all; done)
          | skip
        all_goals refine auF ?_
        all_goals (try first | refine auR ?_ | exact auR0)
        all_goals (try simp only [hsM] at *)
        all_goals rfl
      · have hS2 : 65455 < g.data.length := by omega
        repeat' (first
          | (refine auS ?_)
          | (first | (simp only [mkS_app, mkS_size, emR, ze3, List.length_map, Int.toNat_natCast]) | (simp only [ex]) | (simp only [t1, t2, t3, x1]) | (simp only [e2, e3]) | (simp only [x3, x4, e4]) | (with_reducible refine runR_call (between_spec _ _ _) ?_) | (with_reducible refine runR_call hot ?_) | (with_reducible refine runR_call hco ?_) | (with_reducible refine runR_callS rfl (bytes2 _ _ _ _ _) ?_) | (with_reducible refine runR_call hu ?_) | (with_reducible refine runR_call hs ?_) | (with_reducible refine runR_call l1 ?_) | (with_reducible refine runR_call l2 ?_) | (with_reducible refine runR_call w1 ?_) | (with_reducible refine runR_call w2 ?_) | (with_reducible refine runR_call w3 ?_) | (with_reducible refine runR_call w4 ?_) | (with_reducible refine runR_call w5 ?_) | (with_reducible refine runR_call w6 ?_))
          | (refine auD ?_)
          | (with_reducible refine runR_b (fun h => ?_) (fun h => ?_) <;> first | exact auH | simp only [h, runR_t, runR_f])
          | (with_reducible refine condK_bl ?_ ?_)
          | (with_reducible refine condK_b (fun h => ?_) (fun h => ?_) <;> first | exact auH | skip)
          | (refine runR_n (by simp only [mkS_app, mkS_size, List.length_append, und_len, lg_len, wd_len, List.length_cons, List.length_nil, List.length_replicate]; omega) ?_))
        (all_goals first | exact auP | skip)
        all_goals first
          | (exfalso; simp_all; done)
          | skip
        all_goals refine auF ?_
        all_goals (try first | refine auR ?_ | exact auR0)
        all_goals (try simp only [hsM] at *)
        all_goals rfl
    · have hL1 : (optsT g.opts).length ≤ 40 := by omega
      have hL2 : ¬ 65455 < g.data.length := by omega
      rw [i2 hL1]
      have hr : sgW g a b = (sgA g (sgN g) ++ wd (sgC g a b) ++ sgB g, 0) := by unfold sgW; rw [if_neg (not_not_intro hA), if_neg (by rw [hall]; simp), if_neg hL]
      rw [hr]
      have hpl := padT_len (optsT g.opts)
      have hpt := padT_take (optsT g.opts)
      unfold sgC sgA sgB sgN
      generalize padT (optsT g.opts) = P at *
      generalize optsT g.opts = O at *
      have t1 : IntKind.i64.wrap ((O.length : Int) + 3) = (O.length : Int) + 3 := IntWalk.i64_in _ (by omega)
      have t2 : IntKind.i64.wrap (((O.length : Int) + 3).tdiv 4) = (((O.length + 3) / 4 : Nat) : Int) := by rw [Int.tdiv_eq_ediv_of_nonneg (by omega), IntWalk.i64_in _ (by omega)]; omega
      have t3 : IntKind.i64.wrap ((((O.length + 3) / 4 : Nat) : Int) * 4) = (((O.length + 3) / 4 * 4 : Nat) : Int) := by rw [IntWalk.i64_in _ (by omega)]; omega
      have x1 : (mkS (O ++ [0, 0, 0])).extract 0 ((O.length + 3) / 4 * 4) = mkS P := by rw [mkS_ext]; exact congrArg mkS hpt
      have e2 : IntKind.i64.wrap ((P.length : Int) + 20) = 20 + (P.length : Int) := by rw [IntWalk.i64_in _ (by omega)]; omega
      have e3 : IntKind.i64.wrap (4 * (20 + (P.length : Int))) = 4 * (20 + (P.length : Int)) := IntWalk.i64_in _ (by omega)
      have w1 := word_spec g.fr a1.1
      have w2 := word_spec g.to a2.1
      have w3 := word_spec g.win a3.1
      have w4 := word_spec 0 (by decide)
      have w5 := word_spec g.urg a4.1
      have l1 := long_spec g.seq hq.1 hq.2
      have l2 := long_spec g.ack hk.1 hk.2
      have hAl : (wd g.fr ++ wd g.to ++ lg g.seq ++ lg g.ack ++ [u8 (4 * (20 + (P.length : Int))), u8 g.flags] ++ wd g.win).length = 16 := rfl
      have e4 : (((wd g.fr ++ wd g.to ++ lg g.seq ++ lg g.ack ++ [u8 (4 * (20 + (P.length : Int))), u8 g.flags] ++ wd g.win ++ wd 0 ++ wd g.urg ++ P ++ g.data).length : Nat) : Int) = 20 + (P.length : Int) + (g.data.length : Int) := by
        simp only [List.length_append, wd_len, lg_len, List.length_cons, List.length_nil]; omega
      have x3 : (mkS (wd g.fr ++ wd g.to ++ lg g.seq ++ lg g.ack ++ [u8 (4 * (20 + (P.length : Int))), u8 g.flags] ++ wd g.win ++ wd 0 ++ wd g.urg ++ P ++ g.data)).extract 0 16 = mkS (wd g.fr ++ wd g.to ++ lg g.seq ++ lg g.ack ++ [u8 (4 * (20 + (P.length : Int))), u8 g.flags] ++ wd g.win) := by
        rw [mkS_ext]; rfl
      have x4 : (mkS (wd g.fr ++ wd g.to ++ lg g.seq ++ lg g.ack ++ [u8 (4 * (20 + (P.length : Int))), u8 g.flags] ++ wd g.win ++ wd 0 ++ wd g.urg ++ P ++ g.data)).extract 18 (wd g.fr ++ wd g.to ++ lg g.seq ++ lg g.ack ++ [u8 (4 * (20 + (P.length : Int))), u8 g.flags] ++ wd g.win ++ wd 0 ++ wd g.urg ++ P ++ g.data).length = mkS (wd g.urg ++ P ++ g.data) := by
        rw [mkS_ext, List.take_of_length_le (by simp)]; rfl
      have hu := underText_spec a b 6 (20 + (P.length : Int) + (g.data.length : Int)) ha hb
      have hs := check_spec (und a b 6 (20 + (P.length : Int) + (g.data.length : Int)) ++ (wd g.fr ++ wd g.to ++ lg g.seq ++ lg g.ack ++ [u8 (4 * (20 + (P.length : Int))), u8 g.flags] ++ wd g.win ++ wd 0 ++ wd g.urg ++ P ++ g.data)) (by simp only [List.length_append, und_len, wd_len, lg_len, List.length_cons, List.length_nil]; omega)
      have hz : wsum (und a b 6 (20 + (P.length : Int) + (g.data.length : Int)) ++ (wd g.fr ++ wd g.to ++ lg g.seq ++ lg g.ack ++ [u8 (4 * (20 + (P.length : Int))), u8 g.flags] ++ wd g.win ++ wd 0 ++ wd g.urg ++ P ++ g.data)) = wsum (und a b 6 (20 + (P.length : Int) + (g.data.length : Int)) ++ (wd g.fr ++ wd g.to ++ lg g.seq ++ lg g.ack ++ [u8 (4 * (20 + (P.length : Int))), u8 g.flags] ++ wd g.win) ++ (wd g.urg ++ P ++ g.data)) := by
        generalize hG : wd g.fr ++ wd g.to ++ lg g.seq ++ lg g.ack ++ [u8 (4 * (20 + (P.length : Int))), u8 g.flags] ++ wd g.win = G at *
        have hU : (und a b 6 (20 + (P.length : Int) + (g.data.length : Int))).length % 2 = 0 := by rw [und_len]
        generalize und a b 6 (20 + (P.length : Int) + (g.data.length : Int)) = U at *
        have h0 : wsum (wd 0) = 0 := by decide
        have hGl : G.length % 2 = 0 := by rw [hAl]
        have hL : ∀ B : List UInt8, wsum (U ++ (G ++ (wd 0 ++ B))) = wsum (U ++ (G ++ B)) := fun B => by
          rw [wsum_app_even U (G ++ (wd 0 ++ B)) hU, wsum_app_even U (G ++ B) hU, wsum_app_even G (wd 0 ++ B) hGl, wsum_app_even G B hGl, wsum_app_even (wd 0) B (by rw [wd_len]), h0, Int.zero_add]
        have e1 : U ++ (G ++ wd 0 ++ wd g.urg ++ P ++ g.data) = U ++ (G ++ (wd 0 ++ (wd g.urg ++ P ++ g.data))) := by simp only [List.append_assoc]
        have e2 : U ++ G ++ (wd g.urg ++ P ++ g.data) = U ++ (G ++ (wd g.urg ++ P ++ g.data)) := List.append_assoc _ _ _
        rw [e1, e2]
        exact hL _
      rw [hz] at hs
      have hbd := foldI_bd (wsum (und a b 6 (20 + (P.length : Int) + (g.data.length : Int)) ++ (wd g.fr ++ wd g.to ++ lg g.seq ++ lg g.ack ++ [u8 (4 * (20 + (P.length : Int))), u8 g.flags] ++ wd g.win) ++ (wd g.urg ++ P ++ g.data))) (wsum_bd _).1
      generalize foldI (wsum (und a b 6 (20 + (P.length : Int) + (g.data.length : Int)) ++ (wd g.fr ++ wd g.to ++ lg g.seq ++ lg g.ack ++ [u8 (4 * (20 + (P.length : Int))), u8 g.flags] ++ wd g.win) ++ (wd g.urg ++ P ++ g.data))) = ck at *
      have w6 := word_spec (65535 - ck) (by omega)
      repeat' (first
        | (refine auS ?_)
        | (first | (simp only [mkS_app, mkS_size, emR, ze3, List.length_map, Int.toNat_natCast]) | (simp only [ex]) | (simp only [t1, t2, t3, x1]) | (simp only [e2, e3]) | (simp only [x3, x4, e4]) | (with_reducible refine runR_call (between_spec _ _ _) ?_) | (with_reducible refine runR_call hot ?_) | (with_reducible refine runR_call hco ?_) | (with_reducible refine runR_callS rfl (bytes2 _ _ _ _ _) ?_) | (with_reducible refine runR_call hu ?_) | (with_reducible refine runR_call hs ?_) | (with_reducible refine runR_call l1 ?_) | (with_reducible refine runR_call l2 ?_) | (with_reducible refine runR_call w1 ?_) | (with_reducible refine runR_call w2 ?_) | (with_reducible refine runR_call w3 ?_) | (with_reducible refine runR_call w4 ?_) | (with_reducible refine runR_call w5 ?_) | (with_reducible refine runR_call w6 ?_))
        | (refine auD ?_)
        | (with_reducible refine runR_b (fun h => ?_) (fun h => ?_) <;> first | exact auH | simp only [h, runR_t, runR_f])
        | (with_reducible refine condK_bl ?_ ?_)
        | (with_reducible refine condK_b (fun h => ?_) (fun h => ?_) <;> first | exact auH | skip)
        | (refine runR_n (by simp only [mkS_app, mkS_size, List.length_append, und_len, lg_len, wd_len, List.length_cons, List.length_nil, List.length_replicate]; omega) ?_))
      (all_goals first | exact auP | skip)
      all_goals first
        | (exfalso; simp_all; done)
        | skip
      all_goals refine auF ?_
      all_goals (try first | refine auR ?_ | exact auR0)
      all_goals (try simp only [hsM] at *)
      all_goals rfl
end Go.Proofs.Ytegejpieedckiaa
