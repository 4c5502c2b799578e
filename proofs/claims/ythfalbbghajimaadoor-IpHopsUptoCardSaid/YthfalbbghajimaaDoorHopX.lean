/-
  A packet one hop on: in the program and in the reference.
-/
import Derived.Test.YthfalbbghajimaaDoorIpZ
namespace Go.Proofs.YthfalbbghajimaaDoor
set_option linter.unusedVariables false
set_option linter.unusedSimpArgs false
theorem fix_spec (c o n : Int) (hc : 0 ≤ c ∧ c ≤ 65535) (ho : 0 ≤ o ∧ o ≤ 65535) (hn : 0 ≤ n ∧ n ≤ 65535) : Spec Tryd.prog 12 [.v (.int .u16 c), .v (.int .u16 o), .v (.int .u16 n)] (.v (.int .u16 (65535 - foldI (65535 - c + (65535 - o) + n)))) := by
  have x1 : bits .xor .u16 IntKind.u16.max c = 65535 - c := xor_max_u16 c hc.1 hc.2
  have x2 : bits .xor .u16 IntKind.u16.max o = 65535 - o := xor_max_u16 o ho.1 ho.2
  have w1 : IntKind.u64.wrap (65535 - c) = 65535 - c := u64_keep _ (by omega) (by omega)
  have w2 : IntKind.u64.wrap (65535 - o) = 65535 - o := u64_keep _ (by omega) (by omega)
  have w3 : IntKind.u64.wrap n = n := u64_keep _ (by omega) (by omega)
  have w4 : IntKind.u64.wrap (65535 - c + (65535 - o)) = 65535 - c + (65535 - o) := u64_keep _ (by omega) (by omega)
  have w5 : IntKind.u64.wrap (65535 - c + (65535 - o) + n) = 65535 - c + (65535 - o) + n := u64_keep _ (by omega) (by omega)
  have hf := fold_spec (65535 - c + (65535 - o) + n) (by omega) (by omega)
  have hb := foldI_bd (65535 - c + (65535 - o) + n) (by omega)
  have x3 := xor_max_u16 (foldI (65535 - c + (65535 - o) + n)) hb.1 hb.2
  refine hspec_fn Tryd.func12 rfl ok_sum_Fix okr_sum_Fix rfl (by kernel_rfl) ?_
  intro Γ hW0 hN0 hL0
  have hW := hW0 rfl
  clear hW0 hN0 hL0
  unfold x_sum_Fix r_sum_Fix
  refine auC ?_
  repeat' (first
    | (refine auS ?_)
    | (first | (simp only [show IntKind.u16.signed = false from rfl, x1, x2, w1, w2, w3, w4, w5]) | (with_reducible refine runR_call hf ?_))
    | (refine auD ?_)
    | (with_reducible refine runR_b (fun h => ?_) (fun h => ?_) <;> first | exact auH | simp only [h, runR_t, runR_f])
    | (with_reducible refine condK_bl ?_ ?_)
    | (with_reducible refine condK_b (fun h => ?_) (fun h => ?_) <;> first | exact auH | skip)
    | fail)
  (all_goals first | exact auP | skip)
  all_goals refine auF ?_
  all_goals (try first | refine auR ?_ | exact auR0)
  all_goals (try simp only [hsM] at *)
  all_goals exact dint x3
/-- What a hop answers. -/
def hopC (s : List UInt8) : Int := 65535 - foldI (65535 - wordAtI s 10 + (65535 - wordAtI s 8) + (wordAtI s 8 - 256))
def hopT (s : List UInt8) : List UInt8 := s.take 8 ++ wd (wordAtI s 8 - 256) ++ wd (hopC s) ++ (s.drop 12).take ((wordAtI s 2).toNat - 12)
def hopR (s : List UInt8) : List UInt8 × Int := if ¬ (rpR s).2 = 0 then ([], (rpR s).2) else if bN s 8 < 2 then ([], 7) else (hopT s, 0)
theorem rpR_cases (s : List UInt8) : ((rpR s).2 = 0 ∧ rpR s = (rdP s, 0) ∧ 20 ≤ s.length ∧ 20 ≤ wordAtI s 2 ∧ wordAtI s 2 ≤ s.length) ∨ (¬ (rpR s).2 = 0) := by
  by_cases h : rpErr s = 0
  · have e : rpR s = (rdP s, 0) := by unfold rpR; rw [if_pos h]
    refine .inl ⟨by rw [e], e, ?_⟩
    unfold rpErr at h
    split at h
    · cases h
    · rename_i q1
      split at h
      · cases h
      · rename_i q2
        have q3 : 69 ≤ bN s 0 ∧ bN s 0 ≤ 79 := by
          by_cases q : 69 ≤ bN s 0 ∧ bN s 0 ≤ 79
          · exact q
          · exact absurd (.inl q) q2
        have q4 : ¬ wordAtI s 2 < (hN s : Nat) := fun q => q2 (.inr (.inl q))
        have q5 : ¬ s.length < 20 := fun q => q1 (.inl q)
        have q6 : ¬ (s.length : Int) < wordAtI s 2 := fun q => q1 (.inr (.inr q))
        have q7 : 20 ≤ hN s := by unfold hN; omega
        omega
  · refine .inr ?_
    unfold rpR
    rw [if_neg h]
    exact h
theorem wd_at (s : List UInt8) : wordAtI s 8 = 256 * (bN s 8 : Nat) + (bN s 9 : Nat) := rfl
set_option maxHeartbeats 2000000 in
theorem hop_spec (s : List UInt8) (hl : s.length ≤ 140737488351200) : Spec Tryd.prog 4 [.v (.string (mkS s))] (dSI (hopR s)) := by
  have hr := ipread_spec s (by omega)
  rcases rpR_cases s with ⟨h0, he, h20, ha, hal⟩ | h0
  rotate_left
  · have hne : hopR s = ([], (rpR s).2) := by unfold hopR; rw [if_pos h0]
    rw [hne]
    unfold dPE at hr
    generalize (rpR s).1 = P at hr
    generalize (rpR s).2 = E at hr h0 ⊢
    refine hspec_fn Tryd.func4 rfl ok_ip_Hop okr_ip_Hop rfl (by kernel_rfl) ?_
    intro Γ hW0 hN0 hL0
    have hW := hW0 rfl
    clear hW0 hN0 hL0
    unfold x_ip_Hop r_ip_Hop
    refine auC ?_
    repeat' (first
      | (refine auS ?_)
      | (first | (with_reducible refine runR_call hr ?_))
      | (refine auD ?_)
      | (with_reducible refine runR_b (fun h => ?_) (fun h => ?_) <;> first | exact auH | simp only [h, runR_t, runR_f])
      | (with_reducible refine condK_bl ?_ ?_)
      | (with_reducible refine condK_b (fun h => ?_) (fun h => ?_) <;> first | exact auH | skip)
      | fail)
    (all_goals first | exact auP | skip)
    all_goals refine auF ?_
    all_goals (try first | refine auR ?_ | exact auR0)
    all_goals (try simp only [hsM] at *)
    all_goals rfl
  rw [he] at hr
  dsimp only [dPE, dP, rdP, Pk.enc] at hr
  have b8 := bN_lt s 8
  have b9 := bN_lt s 9
  have hw8 := wordAtI_bd s 8
  have hw10 := wordAtI_bd s 10
  have hwd := wd_at s
  unfold hopR
  rw [if_neg (not_not_intro h0)]
  generalize mkS (List.take (hN s - 20) (List.drop 20 s)) = T1 at hr
  generalize mkS (List.take ((wordAtI s 2).toNat - hN s) (List.drop (hN s) s)) = T2 at hr
  generalize wordAtI s 4 = g4 at hr
  generalize wordAtI s 6 % 8192 = g6 at hr
  generalize decide (wordAtI s 6 / 16384 = 1) = g7 at hr
  generalize decide (wordAtI s 6 / 8192 % 2 = 1) = g8 at hr
  by_cases h2 : bN s 8 < 2
  · rw [if_pos h2]
    refine hspec_fn Tryd.func4 rfl ok_ip_Hop okr_ip_Hop rfl (by kernel_rfl) ?_
    intro Γ hW0 hN0 hL0
    have hW := hW0 rfl
    clear hW0 hN0 hL0
    unfold x_ip_Hop r_ip_Hop
    refine auC ?_
    repeat' (first
      | (refine auS ?_)
      | (first | (with_reducible refine runR_call hr ?_))
      | (refine auD ?_)
      | (with_reducible refine runR_b (fun h => ?_) (fun h => ?_) <;> first | exact auH | simp only [h, runR_t, runR_f])
      | (with_reducible refine condK_bl ?_ ?_)
      | (with_reducible refine condK_b (fun h => ?_) (fun h => ?_) <;> first | exact auH | skip)
      | fail)
    (all_goals first | exact auP | skip)
    all_goals refine auF ?_
    all_goals (try first | refine auR ?_ | exact auR0)
    all_goals (try simp only [hsM] at *)
    all_goals rfl
  rw [if_neg h2]
  have e8 : (mkS s).extract 0 8 = mkS (s.take 8) := by rw [mkS_ext]; rfl
  have ew : (mkS s).extract 12 (wordAtI s 2).toNat = mkS ((s.drop 12).take ((wordAtI s 2).toNat - 12)) := mkS_ext _ _ _
  have q1 := ipwordAt_spec s 8 (by omega) (by omega) 8 rfl
  have q2 := ipwordAt_spec s 10 (by omega) (by omega) 10 rfl
  have q3 := ipwordAt_spec s 2 (by omega) (by omega) 2 rfl
  have q4 := ipword_spec (wordAtI s 8 - 256)
  have q5 := ipword_spec (hopC s)
  have w1 : IntKind.u16.wrap (wordAtI s 8) = wordAtI s 8 := by rw [u16_mod]; omega
  have w2 : IntKind.u16.wrap (wordAtI s 10) = wordAtI s 10 := by rw [u16_mod]; omega
  have w3 : IntKind.i64.wrap (((bN s 8 : Nat) : Int) - 1) = (bN s 8 : Nat) - 1 := IntWalk.i64_in _ (by omega)
  have w4 : IntKind.u16.wrap (bits .or .i64 (IntKind.i64.wrap ((((bN s 8 : Nat) : Int) - 1) * 2 ^ min 8 IntKind.i64.bits)) (bN s 9 : Nat)) = wordAtI s 8 - 256 := by
    have m8 : min 8 IntKind.i64.bits = 8 := rfl
    rw [m8, IntWalk.i64_in _ (by omega), i64_or_add 8 _ _ (by omega) (by omega) (by omega) (by omega) (by omega) (by omega), u16_mod]
    omega
  have w5 : IntKind.i64.wrap (wordAtI s 8 - 256) = wordAtI s 8 - 256 := IntWalk.i64_in _ (by omega)
  have q6 := fix_spec (wordAtI s 10) (wordAtI s 8) (wordAtI s 8 - 256) (by omega) (by omega) (by omega)
  have hcb : 0 ≤ hopC s ∧ hopC s ≤ 65535 := by
    have := foldI_bd (65535 - wordAtI s 10 + (65535 - wordAtI s 8) + (wordAtI s 8 - 256)) (by omega)
    unfold hopC
    omega
  have w6 : IntKind.i64.wrap (hopC s) = hopC s := IntWalk.i64_in _ (by omega)
  have w7 := w6
  have q7 := q6
  unfold hopT
  change Spec Tryd.prog _ _ (.v (.int .u16 (hopC s))) at q6
  generalize hopC s = C at *
  generalize wordAtI s 2 = al at *
  generalize wordAtI s 10 = c10 at *
  refine hspec_fn Tryd.func4 rfl ok_ip_Hop okr_ip_Hop rfl (by kernel_rfl) ?_
  intro Γ hW0 hN0 hL0
  have hW := hW0 rfl
  clear hW0 hN0 hL0
  unfold x_ip_Hop r_ip_Hop
  refine auC ?_
  repeat' (first
    | (refine auS ?_)
    | (first | (simp only [mkS_app, e8, ew, w1, w2, w3, w4, w5, w6, w7]) | (with_reducible refine runR_call hr ?_) | (with_reducible refine runR_call q1 ?_) | (with_reducible refine runR_call q2 ?_) | (with_reducible refine runR_call q3 ?_) | (with_reducible refine runR_call q4 ?_) | (with_reducible refine runR_call q5 ?_) | (with_reducible refine runR_call q6 ?_) | (with_reducible refine runR_call q7 ?_))
    | (refine auD ?_)
    | (with_reducible refine runR_b (fun h => ?_) (fun h => ?_) <;> first | exact auH | simp only [h, runR_t, runR_f])
    | (with_reducible refine condK_bl ?_ ?_)
    | (with_reducible refine condK_b (fun h => ?_) (fun h => ?_) <;> first | exact auH | skip)
    | (first | (refine runR_n (by simp only [mkS_size, List.length_take, List.length_drop, List.length_append, wd_len]; omega) ?_) | (refine runR_n (by omega) ?_) | fail))
  (all_goals first | exact auP | skip)
  all_goals refine auF ?_
  all_goals (try first | refine auR ?_ | exact auR0)
  all_goals (try simp only [hsM] at *)
set_option maxHeartbeats 2000000 in
theorem hopped_spec (s : List UInt8) (hl : s.length ≤ 140737488351200) : Spec Tryd.prog 5 [.v (.string (mkS s))] (dSI (hopR s)) := by
  have hr := textPacket_spec s (by omega)
  rcases rpR_cases s with ⟨h0, he, h20, ha, hal⟩ | h0
  rotate_left
  · have hne : hopR s = ([], (rpR s).2) := by unfold hopR; rw [if_pos h0]
    rw [hne]
    unfold dPE at hr
    generalize (rpR s).1 = P at hr
    generalize (rpR s).2 = E at hr h0 ⊢
    refine hspec_fn Tryd.func5 rfl ok_custref_Hopped okr_custref_Hopped rfl (by kernel_rfl) ?_
    intro Γ hW0 hN0 hL0
    have hW := hW0 rfl
    clear hW0 hN0 hL0
    unfold x_custref_Hopped r_custref_Hopped
    refine auC ?_
    repeat' (first
      | (refine auS ?_)
      | (first | (with_reducible refine runR_call hr ?_))
      | (refine auD ?_)
      | (with_reducible refine runR_b (fun h => ?_) (fun h => ?_) <;> first | exact auH | simp only [h, runR_t, runR_f])
      | (with_reducible refine condK_bl ?_ ?_)
      | (with_reducible refine condK_b (fun h => ?_) (fun h => ?_) <;> first | exact auH | skip)
      | fail)
    (all_goals first | exact auP | skip)
    all_goals refine auF ?_
    all_goals (try first | refine auR ?_ | exact auR0)
    all_goals (try simp only [hsM] at *)
    all_goals rfl
  rw [he] at hr
  dsimp only [dPE, dP, rdP, Pk.enc] at hr
  have b8 := bN_lt s 8
  have b9 := bN_lt s 9
  have hw8 := wordAtI_bd s 8
  have hw10 := wordAtI_bd s 10
  have hwd := wd_at s
  unfold hopR
  rw [if_neg (not_not_intro h0)]
  generalize mkS (List.take (hN s - 20) (List.drop 20 s)) = T1 at hr
  generalize mkS (List.take ((wordAtI s 2).toNat - hN s) (List.drop (hN s) s)) = T2 at hr
  generalize wordAtI s 4 = g4 at hr
  generalize wordAtI s 6 % 8192 = g6 at hr
  generalize decide (wordAtI s 6 / 16384 = 1) = g7 at hr
  generalize decide (wordAtI s 6 / 8192 % 2 = 1) = g8 at hr
  by_cases h2 : bN s 8 < 2
  · rw [if_pos h2]
    refine hspec_fn Tryd.func5 rfl ok_custref_Hopped okr_custref_Hopped rfl (by kernel_rfl) ?_
    intro Γ hW0 hN0 hL0
    have hW := hW0 rfl
    clear hW0 hN0 hL0
    unfold x_custref_Hopped r_custref_Hopped
    refine auC ?_
    repeat' (first
      | (refine auS ?_)
      | (first | (with_reducible refine runR_call hr ?_))
      | (refine auD ?_)
      | (with_reducible refine runR_b (fun h => ?_) (fun h => ?_) <;> first | exact auH | simp only [h, runR_t, runR_f])
      | (with_reducible refine condK_bl ?_ ?_)
      | (with_reducible refine condK_b (fun h => ?_) (fun h => ?_) <;> first | exact auH | skip)
      | fail)
    (all_goals first | exact auP | skip)
    all_goals refine auF ?_
    all_goals (try first | refine auR ?_ | exact auR0)
    all_goals (try simp only [hsM] at *)
    all_goals rfl
  rw [if_neg h2]
  have e8 : (mkS s).extract 0 8 = mkS (s.take 8) := by rw [mkS_ext]; rfl
  have ew : (mkS s).extract 12 (wordAtI s 2).toNat = mkS ((s.drop 12).take ((wordAtI s 2).toNat - 12)) := mkS_ext _ _ _
  have q1 := wordAt_spec s 8 (by omega) (by omega) 8 rfl
  have q2 := wordAt_spec s 10 (by omega) (by omega) 10 rfl
  have q3 := wordAt_spec s 2 (by omega) (by omega) 2 rfl
  have q4 := word_spec (wordAtI s 8 - 256) (by omega)
  have fb := foldI_bd (65535 - wordAtI s 10 + (65535 - wordAtI s 8)) (by omega)
  have q6 := endAround_spec (65535 - wordAtI s 10) (65535 - wordAtI s 8) (by omega) (by omega)
  have q7 := endAround_spec (foldI (65535 - wordAtI s 10 + (65535 - wordAtI s 8))) (wordAtI s 8 - 256) (by omega) (by omega)
  rw [foldI_add _ _ (by omega) (by omega)] at q7
  have hcb : 0 ≤ hopC s ∧ hopC s ≤ 65535 := by
    have := foldI_bd (65535 - wordAtI s 10 + (65535 - wordAtI s 8) + (wordAtI s 8 - 256)) (by omega)
    unfold hopC
    omega
  have q5 := word_spec (hopC s) hcb.1
  have w1 : IntKind.i64.wrap (wordAtI s 8 - 256) = wordAtI s 8 - 256 := IntWalk.i64_in _ (by omega)
  have w2 : IntKind.i64.wrap (65535 - wordAtI s 10) = 65535 - wordAtI s 10 := IntWalk.i64_in _ (by omega)
  have w3 : IntKind.i64.wrap (65535 - wordAtI s 8) = 65535 - wordAtI s 8 := IntWalk.i64_in _ (by omega)
  have w4 : IntKind.i64.wrap (65535 - foldI (65535 - wordAtI s 10 + (65535 - wordAtI s 8) + (wordAtI s 8 - 256))) = hopC s := IntWalk.i64_in _ (by
    have := foldI_bd (65535 - wordAtI s 10 + (65535 - wordAtI s 8) + (wordAtI s 8 - 256)) (by omega)
    omega)
  have w5 := w4
  have w6 := w4
  have w7 := w4
  unfold hopT
  generalize foldI (65535 - wordAtI s 10 + (65535 - wordAtI s 8) + (wordAtI s 8 - 256)) = F2 at *
  generalize foldI (65535 - wordAtI s 10 + (65535 - wordAtI s 8)) = F1 at *
  generalize hopC s = C at *
  generalize wordAtI s 2 = al at *
  generalize wordAtI s 10 = c10 at *
  refine hspec_fn Tryd.func5 rfl ok_custref_Hopped okr_custref_Hopped rfl (by kernel_rfl) ?_
  intro Γ hW0 hN0 hL0
  have hW := hW0 rfl
  clear hW0 hN0 hL0
  unfold x_custref_Hopped r_custref_Hopped
  refine auC ?_
  repeat' (first
    | (refine auS ?_)
    | (first | (simp only [mkS_app, e8, ew, w1, w2, w3, w4, w5, w6, w7]) | (with_reducible refine runR_call hr ?_) | (with_reducible refine runR_call q1 ?_) | (with_reducible refine runR_call q2 ?_) | (with_reducible refine runR_call q3 ?_) | (with_reducible refine runR_call q4 ?_) | (with_reducible refine runR_call q5 ?_) | (with_reducible refine runR_call q6 ?_) | (with_reducible refine runR_call q7 ?_))
    | (refine auD ?_)
    | (with_reducible refine runR_b (fun h => ?_) (fun h => ?_) <;> first | exact auH | simp only [h, runR_t, runR_f])
    | (with_reducible refine condK_bl ?_ ?_)
    | (with_reducible refine condK_b (fun h => ?_) (fun h => ?_) <;> first | exact auH | skip)
    | (first | (refine runR_n (by simp only [mkS_size, List.length_take, List.length_drop, List.length_append, wd_len]; omega) ?_) | (refine runR_n (by omega) ?_) | fail))
  (all_goals first | exact auP | skip)
  all_goals refine auF ?_
  all_goals (try first | refine auR ?_ | exact auR0)
  all_goals (try simp only [hsM] at *)
end Go.Proofs.YthfalbbghajimaaDoor
