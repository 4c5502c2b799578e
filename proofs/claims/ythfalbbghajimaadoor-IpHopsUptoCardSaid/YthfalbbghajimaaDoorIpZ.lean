/-
  Packets: Read, in the program and in the reference.
-/
import Derived.Test.YthfalbbghajimaaDoorIpV
import Derived.Test.YthfalbbghajimaaDoorIpU
namespace Go.Proofs.YthfalbbghajimaaDoor
set_option linter.unusedVariables false
set_option linter.unusedSimpArgs false
theorem packetText_spec (p : Pk) (ho : p.opt.length ≤ 140737488351232) (hd : p.data.length ≤ 140737488351232) (hfr : 0 ≤ p.fr ∧ p.fr < 4294967296) (hto : 0 ≤ p.to ∧ p.to < 4294967296) : Spec Tryd.prog 31 [dP p] (dSI (pW p)) := by
  by_cases he : pErr p = 0
  · exact packetText_ok p he ho hd hfr hto
  · exact packetText_er p he ho hd hfr hto
theorem pW_err (p : Pk) : (pW p).2 = pErr p := by
  unfold pW
  split
  · rename_i h; exact h.symm
  · rfl
theorem rfR (p : Pk) (ho : p.opt.length ≤ 140737488351232) (hd : p.data.length ≤ 140737488351232) (hfr : 0 ≤ p.fr ∧ p.fr < 4294967296) (hto : 0 ≤ p.to ∧ p.to < 4294967296) : Spec Tryd.prog 31 [dP p] (.tup [.v (.string (mkS (pW p).1)), .v (.int .i64 (pErr p))]) := by
  have := packetText_spec p ho hd hfr hto
  rw [← pW_err]
  exact this
theorem rfC (p : Pk) (ho : p.opt.length ≤ 140737488351232) (hd : p.data.length ≤ 140737488351232) (hfr : 0 ≤ p.fr ∧ p.fr < 4294967296) (hto : 0 ≤ p.to ∧ p.to < 4294967296) : Spec Tryd.prog 26 [dP p] (.v (.int .i64 (pErr p))) := refused_spec p ho hd
theorem sumOfZ (l : List UInt8) (hl : l.length ≤ 9223372036854775800) : Spec Tryd.prog 32 [.v (.int .i64 0), .v (.string (mkS l))] (.v (.int .i64 (foldI (wsum l)))) := by
  have := sumOf_spec 0 (by decide) l hl
  rw [Int.zero_add] at this
  exact this
/-- Where the head ends. -/
def hN (s : List UInt8) : Nat := 4 * (bN s 0 % 16)
def rdP (s : List UInt8) : Pk := ⟨(bN s 1 : Nat), wordAtI s 4, decide (wordAtI s 6 / 16384 = 1), decide (wordAtI s 6 / 8192 % 2 = 1), wordAtI s 6 % 8192, (bN s 8 : Nat), (bN s 9 : Nat), lgAt s 12, lgAt s 16, (s.drop 20).take (hN s - 20), (s.drop (hN s)).take ((wordAtI s 2).toNat - hN s)⟩
def pk0 : Pk := ⟨0, 0, false, false, 0, 0, 0, 0, 0, [], []⟩
def rpErr (s : List UInt8) : Int :=
  if s.length < 20 ∨ s.length < hN s ∨ (s.length : Int) < wordAtI s 2 then 3
  else if ¬ (69 ≤ bN s 0 ∧ bN s 0 ≤ 79) ∨ wordAtI s 2 < (hN s : Nat) ∨ 32768 ≤ wordAtI s 6 then 4
  else if ¬ pErr (rdP s) = 0 then 4
  else if ¬ foldI (wsum (s.take (hN s))) = 65535 then 5 else 0
def rpR (s : List UInt8) : Pk × Int := if rpErr s = 0 then (rdP s, 0) else (pk0, rpErr s)
theorem rpR_bad {s : List UInt8} {e : Int} (h : rpErr s = e) (h0 : e ≠ 0) : rpR s = (pk0, e) := by unfold rpR; rw [h, if_neg h0]
abbrev dPE (r : Pk × Int) : DV := .tup [dP r.1, .v (.int .i64 r.2)]
set_option maxHeartbeats 4000000 in
theorem ipread_spec (s : List UInt8) (hl : s.length ≤ 140737488351232) : Spec Tryd.prog 10 [.v (.string (mkS s))] (dPE (rpR s)) := by
  by_cases h20 : s.length < 20
  · have hr : rpErr s = 3 := by unfold rpErr; rw [if_pos (.inl h20)]
    rw [rpR_bad hr (by decide)]
    refine hspec_fn Tryd.func10 rfl ok_ip_Read okr_ip_Read rfl (by kernel_rfl) ?_
    intro Γ hW0 hN0 hL0
    have hW := hW0 rfl
    clear hW0 hN0 hL0
    unfold x_ip_Read r_ip_Read
    refine auC ?_
    repeat' (first
      | (refine auS ?_)
      | (first | (simp only [mkS_size, mkS_at, Int.toNat_natCast]) | (simp only [c0, c15, c4, cm, cw, cs]) | (simp only [c1, c8, c9]) | (simp only [m4, m15]) | (simp only [m14, m13]) | (simp only [f15]) | (simp only [f14, f13]) | (simp only [g14, g13, g2, gm]) | (simp only [and1, and8191]) | (simp only [g1]) | (simp only [x1, x2, x3]) | (with_reducible refine runR_call (between_spec _ _ _) ?_) | (with_reducible refine runR_call h2 ?_) | (with_reducible refine runR_call h4 ?_) | (with_reducible refine runR_call h6 ?_) | (with_reducible refine runR_call h12 ?_) | (with_reducible refine runR_call h16 ?_) | (with_reducible refine runR_call hr ?_) | (with_reducible refine runR_call hs ?_))
      | (refine auD ?_)
      | (with_reducible refine runR_b (fun h => ?_) (fun h => ?_) <;> first | exact auH | simp only [h, runR_t, runR_f])
      | (with_reducible refine condK_bl ?_ ?_)
      | (with_reducible refine condK_b (fun h => ?_) (fun h => ?_) <;> first | exact auH | skip)
      | (first | (refine runR_n (by simp only [mkS_size, List.length_take, List.length_drop]; omega) ?_) | (refine runR_n (by omega) ?_) | fail))
    (all_goals first | exact auP | skip)
    all_goals refine auF ?_
    all_goals (try first | refine auR ?_ | exact auR0)
    all_goals (try simp only [hsM] at *)
    all_goals rfl
  have h2 := ipwordAt_spec s 2 (by omega) (by omega) 2 rfl
  have b2 := wordAtI_bd s 2
  have b0 := bN_lt s 0
  have c0 : IntKind.i64.wrap (bN s 0 : Nat) = (bN s 0 : Nat) := IntWalk.i64_in _ (by omega)
  have c15 : bits .and .u8 (bN s 0 : Nat) 15 = ((bN s 0 % 16 : Nat) : Int) := by rw [u8_and15 _ (by omega) (by omega)]; omega
  have cm : IntKind.i64.wrap (bN s 0 % 16 : Nat) = ((bN s 0 % 16 : Nat) : Int) := IntWalk.i64_in _ (by omega)
  have cw : IntKind.i64.wrap (((bN s 0 % 16 : Nat) : Int) * 4) = ((hN s : Nat) : Int) := by unfold hN; rw [IntWalk.i64_in _ (by omega)]; omega
  have c4 : ((bN s 0 : Nat) : Int).tmod 16 = ((bN s 0 % 16 : Nat) : Int) := (Int.ofNat_tmod _ 16).symm
  have cs : IntKind.i64.wrap (4 * ((bN s 0 % 16 : Nat) : Int)) = ((hN s : Nat) : Int) := by unfold hN; rw [IntWalk.i64_in _ (by omega)]; omega
  by_cases hn : s.length < hN s
  · have hr : rpErr s = 3 := by unfold rpErr; rw [if_pos (.inr (.inl hn))]
    rw [rpR_bad hr (by decide)]
    clear hr
    generalize hN s = n at *
    generalize wordAtI s 2 = al at *
    refine hspec_fn Tryd.func10 rfl ok_ip_Read okr_ip_Read rfl (by kernel_rfl) ?_
    intro Γ hW0 hN0 hL0
    have hW := hW0 rfl
    clear hW0 hN0 hL0
    unfold x_ip_Read r_ip_Read
    refine auC ?_
    repeat' (first
      | (refine auS ?_)
      | (first | (simp only [mkS_size, mkS_at, Int.toNat_natCast]) | (simp only [c0, c15, c4, cm, cw, cs]) | (simp only [c1, c8, c9]) | (simp only [m4, m15]) | (simp only [m14, m13]) | (simp only [f15]) | (simp only [f14, f13]) | (simp only [g14, g13, g2, gm]) | (simp only [and1, and8191]) | (simp only [g1]) | (simp only [x1, x2, x3]) | (with_reducible refine runR_call (between_spec _ _ _) ?_) | (with_reducible refine runR_call h2 ?_) | (with_reducible refine runR_call h4 ?_) | (with_reducible refine runR_call h6 ?_) | (with_reducible refine runR_call h12 ?_) | (with_reducible refine runR_call h16 ?_) | (with_reducible refine runR_call hr ?_) | (with_reducible refine runR_call hs ?_))
      | (refine auD ?_)
      | (with_reducible refine runR_b (fun h => ?_) (fun h => ?_) <;> first | exact auH | simp only [h, runR_t, runR_f])
      | (with_reducible refine condK_bl ?_ ?_)
      | (with_reducible refine condK_b (fun h => ?_) (fun h => ?_) <;> first | exact auH | skip)
      | (first | (refine runR_n (by simp only [mkS_size, List.length_take, List.length_drop]; omega) ?_) | (refine runR_n (by omega) ?_) | fail))
    (all_goals first | exact auP | skip)
    all_goals refine auF ?_
    all_goals (try first | refine auR ?_ | exact auR0)
    all_goals (try simp only [hsM] at *)
    all_goals rfl
  by_cases ha : (s.length : Int) < wordAtI s 2
  · have hr : rpErr s = 3 := by unfold rpErr; rw [if_pos (.inr (.inr ha))]
    rw [rpR_bad hr (by decide)]
    clear hr
    generalize hN s = n at *
    generalize wordAtI s 2 = al at *
    refine hspec_fn Tryd.func10 rfl ok_ip_Read okr_ip_Read rfl (by kernel_rfl) ?_
    intro Γ hW0 hN0 hL0
    have hW := hW0 rfl
    clear hW0 hN0 hL0
    unfold x_ip_Read r_ip_Read
    refine auC ?_
    repeat' (first
      | (refine auS ?_)
      | (first | (simp only [mkS_size, mkS_at, Int.toNat_natCast]) | (simp only [c0, c15, c4, cm, cw, cs]) | (simp only [c1, c8, c9]) | (simp only [m4, m15]) | (simp only [m14, m13]) | (simp only [f15]) | (simp only [f14, f13]) | (simp only [g14, g13, g2, gm]) | (simp only [and1, and8191]) | (simp only [g1]) | (simp only [x1, x2, x3]) | (with_reducible refine runR_call (between_spec _ _ _) ?_) | (with_reducible refine runR_call h2 ?_) | (with_reducible refine runR_call h4 ?_) | (with_reducible refine runR_call h6 ?_) | (with_reducible refine runR_call h12 ?_) | (with_reducible refine runR_call h16 ?_) | (with_reducible refine runR_call hr ?_) | (with_reducible refine runR_call hs ?_))
      | (refine auD ?_)
      | (with_reducible refine runR_b (fun h => ?_) (fun h => ?_) <;> first | exact auH | simp only [h, runR_t, runR_f])
      | (with_reducible refine condK_bl ?_ ?_)
      | (with_reducible refine condK_b (fun h => ?_) (fun h => ?_) <;> first | exact auH | skip)
      | (first | (refine runR_n (by simp only [mkS_size, List.length_take, List.length_drop]; omega) ?_) | (refine runR_n (by omega) ?_) | fail))
    (all_goals first | exact auP | skip)
    all_goals refine auF ?_
    all_goals (try first | refine auR ?_ | exact auR0)
    all_goals (try simp only [hsM] at *)
    all_goals rfl
  have h6 := ipwordAt_spec s 6 (by omega) (by omega) 6 rfl
  have b6 := wordAtI_bd s 6
  have m4 : min 4 IntKind.u8.bits = 4 := rfl
  have m15 : min 15 IntKind.i64.bits = 15 := rfl
  have f15 : (wordAtI s 6).fdiv (2 ^ 15) = wordAtI s 6 / 32768 := Int.fdiv_eq_ediv_of_nonneg _ (by decide)
  have g1 : ((bN s 0 : Nat) : Int).fdiv (2 ^ 4) = ((bN s 0 / 16 : Nat) : Int) := by rw [Int.fdiv_eq_ediv_of_nonneg _ (by decide)]; omega
  have hnB : hN s = 4 * (bN s 0 % 16) := rfl
  by_cases hB : 69 ≤ bN s 0 ∧ bN s 0 ≤ 79
  rotate_left 1
  · have hr : rpErr s = 4 := by unfold rpErr; rw [if_neg (by omega), if_pos (.inl hB)]
    rw [rpR_bad hr (by decide)]
    clear hr
    generalize hN s = n at *
    generalize wordAtI s 2 = al at *
    generalize wordAtI s 6 = F at *
    refine hspec_fn Tryd.func10 rfl ok_ip_Read okr_ip_Read rfl (by kernel_rfl) ?_
    intro Γ hW0 hN0 hL0
    have hW := hW0 rfl
    clear hW0 hN0 hL0
    unfold x_ip_Read r_ip_Read
    refine auC ?_
    repeat' (first
      | (refine auS ?_)
      | (first | (simp only [mkS_size, mkS_at, Int.toNat_natCast]) | (simp only [c0, c15, c4, cm, cw, cs]) | (simp only [c1, c8, c9]) | (simp only [m4, m15]) | (simp only [m14, m13]) | (simp only [f15]) | (simp only [f14, f13]) | (simp only [g14, g13, g2, gm]) | (simp only [and1, and8191]) | (simp only [g1]) | (simp only [x1, x2, x3]) | (with_reducible refine runR_call (between_spec _ _ _) ?_) | (with_reducible refine runR_call h2 ?_) | (with_reducible refine runR_call h4 ?_) | (with_reducible refine runR_call h6 ?_) | (with_reducible refine runR_call h12 ?_) | (with_reducible refine runR_call h16 ?_) | (with_reducible refine runR_call hr ?_) | (with_reducible refine runR_call hs ?_))
      | (refine auD ?_)
      | (with_reducible refine runR_b (fun h => ?_) (fun h => ?_) <;> first | exact auH | simp only [h, runR_t, runR_f])
      | (with_reducible refine condK_bl ?_ ?_)
      | (with_reducible refine condK_b (fun h => ?_) (fun h => ?_) <;> first | exact auH | skip)
      | (first | (refine runR_n (by simp only [mkS_size, List.length_take, List.length_drop]; omega) ?_) | (refine runR_n (by omega) ?_) | fail))
    (all_goals first | exact auP | skip)
    all_goals refine auF ?_
    all_goals (try first | refine auR ?_ | exact auR0)
    all_goals (try simp only [hsM] at *)
    all_goals rfl
  by_cases hA : wordAtI s 2 < (hN s : Nat)
  · have hr : rpErr s = 4 := by unfold rpErr; rw [if_neg (by omega), if_pos (.inr (.inl hA))]
    rw [rpR_bad hr (by decide)]
    clear hr
    generalize hN s = n at *
    generalize wordAtI s 2 = al at *
    generalize wordAtI s 6 = F at *
    refine hspec_fn Tryd.func10 rfl ok_ip_Read okr_ip_Read rfl (by kernel_rfl) ?_
    intro Γ hW0 hN0 hL0
    have hW := hW0 rfl
    clear hW0 hN0 hL0
    unfold x_ip_Read r_ip_Read
    refine auC ?_
    repeat' (first
      | (refine auS ?_)
      | (first | (simp only [mkS_size, mkS_at, Int.toNat_natCast]) | (simp only [c0, c15, c4, cm, cw, cs]) | (simp only [c1, c8, c9]) | (simp only [m4, m15]) | (simp only [m14, m13]) | (simp only [f15]) | (simp only [f14, f13]) | (simp only [g14, g13, g2, gm]) | (simp only [and1, and8191]) | (simp only [g1]) | (simp only [x1, x2, x3]) | (with_reducible refine runR_call (between_spec _ _ _) ?_) | (with_reducible refine runR_call h2 ?_) | (with_reducible refine runR_call h4 ?_) | (with_reducible refine runR_call h6 ?_) | (with_reducible refine runR_call h12 ?_) | (with_reducible refine runR_call h16 ?_) | (with_reducible refine runR_call hr ?_) | (with_reducible refine runR_call hs ?_))
      | (refine auD ?_)
      | (with_reducible refine runR_b (fun h => ?_) (fun h => ?_) <;> first | exact auH | simp only [h, runR_t, runR_f])
      | (with_reducible refine condK_bl ?_ ?_)
      | (with_reducible refine condK_b (fun h => ?_) (fun h => ?_) <;> first | exact auH | skip)
      | (first | (refine runR_n (by simp only [mkS_size, List.length_take, List.length_drop]; omega) ?_) | (refine runR_n (by omega) ?_) | fail))
    (all_goals first | exact auP | skip)
    all_goals refine auF ?_
    all_goals (try first | refine auR ?_ | exact auR0)
    all_goals (try simp only [hsM] at *)
    all_goals rfl
  by_cases hF : 32768 ≤ wordAtI s 6
  · have hr : rpErr s = 4 := by unfold rpErr; rw [if_neg (by omega), if_pos (.inr (.inr hF))]
    rw [rpR_bad hr (by decide)]
    clear hr
    generalize hN s = n at *
    generalize wordAtI s 2 = al at *
    generalize wordAtI s 6 = F at *
    refine hspec_fn Tryd.func10 rfl ok_ip_Read okr_ip_Read rfl (by kernel_rfl) ?_
    intro Γ hW0 hN0 hL0
    have hW := hW0 rfl
    clear hW0 hN0 hL0
    unfold x_ip_Read r_ip_Read
    refine auC ?_
    repeat' (first
      | (refine auS ?_)
      | (first | (simp only [mkS_size, mkS_at, Int.toNat_natCast]) | (simp only [c0, c15, c4, cm, cw, cs]) | (simp only [c1, c8, c9]) | (simp only [m4, m15]) | (simp only [m14, m13]) | (simp only [f15]) | (simp only [f14, f13]) | (simp only [g14, g13, g2, gm]) | (simp only [and1, and8191]) | (simp only [g1]) | (simp only [x1, x2, x3]) | (with_reducible refine runR_call (between_spec _ _ _) ?_) | (with_reducible refine runR_call h2 ?_) | (with_reducible refine runR_call h4 ?_) | (with_reducible refine runR_call h6 ?_) | (with_reducible refine runR_call h12 ?_) | (with_reducible refine runR_call h16 ?_) | (with_reducible refine runR_call hr ?_) | (with_reducible refine runR_call hs ?_))
      | (refine auD ?_)
      | (with_reducible refine runR_b (fun h => ?_) (fun h => ?_) <;> first | exact auH | simp only [h, runR_t, runR_f])
      | (with_reducible refine condK_bl ?_ ?_)
      | (with_reducible refine condK_b (fun h => ?_) (fun h => ?_) <;> first | exact auH | skip)
      | (first | (refine runR_n (by simp only [mkS_size, List.length_take, List.length_drop]; omega) ?_) | (refine runR_n (by omega) ?_) | fail))
    (all_goals first | exact auP | skip)
    all_goals refine auF ?_
    all_goals (try first | refine auR ?_ | exact auR0)
    all_goals (try simp only [hsM] at *)
    all_goals rfl
  have h4 := ipwordAt_spec s 4 (by omega) (by omega) 4 rfl
  have h12 := iplongAt_spec s 12 (by omega) (by omega) 12 rfl
  have h16 := iplongAt_spec s 16 (by omega) (by omega) 16 rfl
  have hr := rfC (rdP s) (by simp only [rdP, List.length_take, List.length_drop]; omega) (by simp only [rdP, List.length_take, List.length_drop]; omega) (lgAt_bd s 12) (lgAt_bd s 16)
  have hs := right_spec (s.take (hN s)) (by rw [List.length_take]; omega)
  have d1 := bN_lt s 1
  have d8 := bN_lt s 8
  have d9 := bN_lt s 9
  have c1 : IntKind.i64.wrap (bN s 1 : Nat) = (bN s 1 : Nat) := IntWalk.i64_in _ (by omega)
  have c8 : IntKind.i64.wrap (bN s 8 : Nat) = (bN s 8 : Nat) := IntWalk.i64_in _ (by omega)
  have c9 : IntKind.i64.wrap (bN s 9 : Nat) = (bN s 9 : Nat) := IntWalk.i64_in _ (by omega)
  have m14 : min 14 IntKind.i64.bits = 14 := rfl
  have m13 : min 13 IntKind.i64.bits = 13 := rfl
  have f14 : (wordAtI s 6).fdiv (2 ^ 14) = wordAtI s 6 / 16384 := Int.fdiv_eq_ediv_of_nonneg _ (by decide)
  have f13 : (wordAtI s 6).fdiv (2 ^ 13) = wordAtI s 6 / 8192 := Int.fdiv_eq_ediv_of_nonneg _ (by decide)
  have g2 : wordAtI s 6 / 16384 % 2 = wordAtI s 6 / 16384 := by omega
  have g14 : IntKind.i64.wrap ((wordAtI s 6).tdiv 16384) = wordAtI s 6 / 16384 := by rw [Int.tdiv_eq_ediv_of_nonneg (by omega), IntWalk.i64_in _ (by omega)]
  have g13 : (IntKind.i64.wrap ((wordAtI s 6).tdiv 8192)).tmod 2 = wordAtI s 6 / 8192 % 2 := by rw [Int.tdiv_eq_ediv_of_nonneg (by omega), IntWalk.i64_in _ (by omega), Int.tmod_eq_emod_of_nonneg (by omega)]
  have gm : (wordAtI s 6).tmod 8192 = wordAtI s 6 % 8192 := Int.tmod_eq_emod_of_nonneg (by omega)
  have x1 : (mkS s).extract 20 (hN s) = mkS ((s.drop 20).take (hN s - 20)) := mkS_ext _ _ _
  have x2 : (mkS s).extract (hN s) (wordAtI s 2).toNat = mkS ((s.drop (hN s)).take ((wordAtI s 2).toNat - hN s)) := mkS_ext _ _ _
  have x3 : (mkS s).extract 0 (hN s) = mkS (s.take (hN s)) := by rw [mkS_ext]; rfl
  by_cases hE : pErr (rdP s) = 0
  rotate_left 1
  · have hre : rpErr s = 4 := by unfold rpErr; rw [if_neg (by omega), if_neg (by omega), if_pos hE]
    rw [rpR_bad hre (by decide)]
    clear hre
    generalize pErr (rdP s) = E at *
    try generalize (pW (rdP s)).1 = T at *
    unfold rdP at hr
    generalize hN s = n at *
    generalize wordAtI s 2 = al at *
    generalize wordAtI s 6 = F at *
    refine hspec_fn Tryd.func10 rfl ok_ip_Read okr_ip_Read rfl (by kernel_rfl) ?_
    intro Γ hW0 hN0 hL0
    have hW := hW0 rfl
    clear hW0 hN0 hL0
    unfold x_ip_Read r_ip_Read
    refine auC ?_
    repeat' (first
      | (refine auS ?_)
      | (first | (simp only [mkS_size, mkS_at, Int.toNat_natCast]) | (simp only [c0, c15, c4, cm, cw, cs]) | (simp only [c1, c8, c9]) | (simp only [m4, m15]) | (simp only [m14, m13]) | (simp only [f15]) | (simp only [f14, f13]) | (simp only [g14, g13, g2, gm]) | (simp only [and1, and8191]) | (simp only [g1]) | (simp only [x1, x2, x3]) | (with_reducible refine runR_call (between_spec _ _ _) ?_) | (with_reducible refine runR_call h2 ?_) | (with_reducible refine runR_call h4 ?_) | (with_reducible refine runR_call h6 ?_) | (with_reducible refine runR_call h12 ?_) | (with_reducible refine runR_call h16 ?_) | (with_reducible refine runR_call hr ?_) | (with_reducible refine runR_call hs ?_))
      | (refine auD ?_)
      | (with_reducible refine runR_b (fun h => ?_) (fun h => ?_) <;> first | exact auH | simp only [h, runR_t, runR_f])
      | (with_reducible refine condK_bl ?_ ?_)
      | (with_reducible refine condK_b (fun h => ?_) (fun h => ?_) <;> first | exact auH | skip)
      | (first | (refine runR_n (by simp only [mkS_size, List.length_take, List.length_drop]; omega) ?_) | (refine runR_n (by omega) ?_) | fail))
    (all_goals first | exact auP | skip)
    all_goals refine auF ?_
    all_goals (try first | refine auR ?_ | exact auR0)
    all_goals (try simp only [hsM] at *)
    all_goals rfl
  by_cases hS : foldI (wsum (s.take (hN s))) = 65535
  rotate_left 1
  · have hre : rpErr s = 5 := by unfold rpErr; rw [if_neg (by omega), if_neg (by omega), if_neg (not_not_intro hE), if_pos hS]
    rw [rpR_bad hre (by decide)]
    clear hre
    rw [hE] at hr
    clear hE
    try generalize (pW (rdP s)).1 = T at *
    unfold rdP at hr
    generalize foldI (wsum (s.take (hN s))) = c at *
    generalize hN s = n at *
    generalize wordAtI s 2 = al at *
    generalize wordAtI s 6 = F at *
    refine hspec_fn Tryd.func10 rfl ok_ip_Read okr_ip_Read rfl (by kernel_rfl) ?_
    intro Γ hW0 hN0 hL0
    have hW := hW0 rfl
    clear hW0 hN0 hL0
    unfold x_ip_Read r_ip_Read
    refine auC ?_
    repeat' (first
      | (refine auS ?_)
      | (first | (simp only [mkS_size, mkS_at, Int.toNat_natCast]) | (simp only [c0, c15, c4, cm, cw, cs]) | (simp only [c1, c8, c9]) | (simp only [m4, m15]) | (simp only [m14, m13]) | (simp only [f15]) | (simp only [f14, f13]) | (simp only [g14, g13, g2, gm]) | (simp only [and1, and8191]) | (simp only [g1]) | (simp only [x1, x2, x3]) | (with_reducible refine runR_call (between_spec _ _ _) ?_) | (with_reducible refine runR_call h2 ?_) | (with_reducible refine runR_call h4 ?_) | (with_reducible refine runR_call h6 ?_) | (with_reducible refine runR_call h12 ?_) | (with_reducible refine runR_call h16 ?_) | (with_reducible refine runR_call hr ?_) | (with_reducible refine runR_call hs ?_))
      | (refine auD ?_)
      | (with_reducible refine runR_b (fun h => ?_) (fun h => ?_) <;> first | exact auH | simp only [h, runR_t, runR_f])
      | (with_reducible refine condK_bl ?_ ?_)
      | (with_reducible refine condK_b (fun h => ?_) (fun h => ?_) <;> first | exact auH | skip)
      | (first | (refine runR_n (by simp only [mkS_size, List.length_take, List.length_drop]; omega) ?_) | (refine runR_n (by omega) ?_) | fail))
    (all_goals first | exact auP | skip)
    all_goals refine auF ?_
    all_goals (try first | refine auR ?_ | exact auR0)
    all_goals (try simp only [hsM] at *)
    all_goals rfl
  · have hre0 : rpErr s = 0 := by unfold rpErr; rw [if_neg (by omega), if_neg (by omega), if_neg (not_not_intro hE), if_neg (not_not_intro hS)]
    have hre : rpR s = (rdP s, 0) := by unfold rpR; rw [hre0, if_pos rfl]
    clear hre0
    rw [hre]
    clear hre
    rw [hE] at hr
    rw [hS] at hs
    clear hE hS
    try generalize (pW (rdP s)).1 = T at *
    unfold rdP at hr ⊢
    generalize hN s = n at *
    generalize wordAtI s 2 = al at *
    generalize wordAtI s 6 = F at *
    refine hspec_fn Tryd.func10 rfl ok_ip_Read okr_ip_Read rfl (by kernel_rfl) ?_
    intro Γ hW0 hN0 hL0
    have hW := hW0 rfl
    clear hW0 hN0 hL0
    unfold x_ip_Read r_ip_Read
    refine auC ?_
    repeat' (first
      | (refine auS ?_)
      | (first | (simp only [mkS_size, mkS_at, Int.toNat_natCast]) | (simp only [c0, c15, c4, cm, cw, cs]) | (simp only [c1, c8, c9]) | (simp only [m4, m15]) | (simp only [m14, m13]) | (simp only [f15]) | (simp only [f14, f13]) | (simp only [g14, g13, g2, gm]) | (simp only [and1, and8191]) | (simp only [g1]) | (simp only [x1, x2, x3]) | (with_reducible refine runR_call (between_spec _ _ _) ?_) | (with_reducible refine runR_call h2 ?_) | (with_reducible refine runR_call h4 ?_) | (with_reducible refine runR_call h6 ?_) | (with_reducible refine runR_call h12 ?_) | (with_reducible refine runR_call h16 ?_) | (with_reducible refine runR_call hr ?_) | (with_reducible refine runR_call hs ?_))
      | (refine auD ?_)
      | (with_reducible refine runR_b (fun h => ?_) (fun h => ?_) <;> first | exact auH | simp only [h, runR_t, runR_f])
      | (with_reducible refine condK_bl ?_ ?_)
      | (with_reducible refine condK_b (fun h => ?_) (fun h => ?_) <;> first | exact auH | skip)
      | (first | (refine runR_n (by simp only [mkS_size, List.length_take, List.length_drop]; omega) ?_) | (refine runR_n (by omega) ?_) | fail))
    (all_goals first | exact auP | skip)
    all_goals refine auF ?_
    all_goals (try first | refine auR ?_ | exact auR0)
    all_goals (try simp only [hsM] at *)
    all_goals rfl
set_option maxHeartbeats 4000000 in
theorem textPacket_spec (s : List UInt8) (hl : s.length ≤ 140737488351232) : Spec Tryd.prog 14 [.v (.string (mkS s))] (dPE (rpR s)) := by
  by_cases h20 : s.length < 20
  · have hr : rpErr s = 3 := by unfold rpErr; rw [if_pos (.inl h20)]
    rw [rpR_bad hr (by decide)]
    refine hspec_fn Tryd.func14 rfl ok_custref_TextPacket okr_custref_TextPacket rfl (by kernel_rfl) ?_
    intro Γ hW0 hN0 hL0
    have hW := hW0 rfl
    clear hW0 hN0 hL0
    unfold x_custref_TextPacket r_custref_TextPacket
    refine auC ?_
    repeat' (first
      | (refine auS ?_)
      | (first | (simp only [mkS_size, mkS_at, Int.toNat_natCast]) | (simp only [c0, c15, c4, cm, cw, cs]) | (simp only [c1, c8, c9]) | (simp only [m4, m15]) | (simp only [m14, m13]) | (simp only [f15]) | (simp only [f14, f13]) | (simp only [g14, g13, g2, gm]) | (simp only [and1, and8191]) | (simp only [g1]) | (simp only [x1, x2, x3]) | (with_reducible refine runR_call (between_spec _ _ _) ?_) | (with_reducible refine runR_call h2 ?_) | (with_reducible refine runR_call h4 ?_) | (with_reducible refine runR_call h6 ?_) | (with_reducible refine runR_call h12 ?_) | (with_reducible refine runR_call h16 ?_) | (with_reducible refine runR_call hr ?_) | (with_reducible refine runR_call hs ?_))
      | (refine auD ?_)
      | (with_reducible refine runR_b (fun h => ?_) (fun h => ?_) <;> first | exact auH | simp only [h, runR_t, runR_f])
      | (with_reducible refine condK_bl ?_ ?_)
      | (with_reducible refine condK_b (fun h => ?_) (fun h => ?_) <;> first | exact auH | skip)
      | (first | (refine runR_n (by simp only [mkS_size, List.length_take, List.length_drop]; omega) ?_) | (refine runR_n (by omega) ?_) | fail))
    (all_goals first | exact auP | skip)
    all_goals refine auF ?_
    all_goals (try first | refine auR ?_ | exact auR0)
    all_goals (try simp only [hsM] at *)
    all_goals rfl
  have h2 := wordAt_spec s 2 (by omega) (by omega) 2 rfl
  have b2 := wordAtI_bd s 2
  have b0 := bN_lt s 0
  have c0 : IntKind.i64.wrap (bN s 0 : Nat) = (bN s 0 : Nat) := IntWalk.i64_in _ (by omega)
  have c15 : bits .and .u8 (bN s 0 : Nat) 15 = ((bN s 0 % 16 : Nat) : Int) := by rw [u8_and15 _ (by omega) (by omega)]; omega
  have cm : IntKind.i64.wrap (bN s 0 % 16 : Nat) = ((bN s 0 % 16 : Nat) : Int) := IntWalk.i64_in _ (by omega)
  have cw : IntKind.i64.wrap (((bN s 0 % 16 : Nat) : Int) * 4) = ((hN s : Nat) : Int) := by unfold hN; rw [IntWalk.i64_in _ (by omega)]; omega
  have c4 : ((bN s 0 : Nat) : Int).tmod 16 = ((bN s 0 % 16 : Nat) : Int) := (Int.ofNat_tmod _ 16).symm
  have cs : IntKind.i64.wrap (4 * ((bN s 0 % 16 : Nat) : Int)) = ((hN s : Nat) : Int) := by unfold hN; rw [IntWalk.i64_in _ (by omega)]; omega
  by_cases hn : s.length < hN s
  · have hr : rpErr s = 3 := by unfold rpErr; rw [if_pos (.inr (.inl hn))]
    rw [rpR_bad hr (by decide)]
    clear hr
    generalize hN s = n at *
    generalize wordAtI s 2 = al at *
    refine hspec_fn Tryd.func14 rfl ok_custref_TextPacket okr_custref_TextPacket rfl (by kernel_rfl) ?_
    intro Γ hW0 hN0 hL0
    have hW := hW0 rfl
    clear hW0 hN0 hL0
    unfold x_custref_TextPacket r_custref_TextPacket
    refine auC ?_
    repeat' (first
      | (refine auS ?_)
      | (first | (simp only [mkS_size, mkS_at, Int.toNat_natCast]) | (simp only [c0, c15, c4, cm, cw, cs]) | (simp only [c1, c8, c9]) | (simp only [m4, m15]) | (simp only [m14, m13]) | (simp only [f15]) | (simp only [f14, f13]) | (simp only [g14, g13, g2, gm]) | (simp only [and1, and8191]) | (simp only [g1]) | (simp only [x1, x2, x3]) | (with_reducible refine runR_call (between_spec _ _ _) ?_) | (with_reducible refine runR_call h2 ?_) | (with_reducible refine runR_call h4 ?_) | (with_reducible refine runR_call h6 ?_) | (with_reducible refine runR_call h12 ?_) | (with_reducible refine runR_call h16 ?_) | (with_reducible refine runR_call hr ?_) | (with_reducible refine runR_call hs ?_))
      | (refine auD ?_)
      | (with_reducible refine runR_b (fun h => ?_) (fun h => ?_) <;> first | exact auH | simp only [h, runR_t, runR_f])
      | (with_reducible refine condK_bl ?_ ?_)
      | (with_reducible refine condK_b (fun h => ?_) (fun h => ?_) <;> first | exact auH | skip)
      | (first | (refine runR_n (by simp only [mkS_size, List.length_take, List.length_drop]; omega) ?_) | (refine runR_n (by omega) ?_) | fail))
    (all_goals first | exact auP | skip)
    all_goals refine auF ?_
    all_goals (try first | refine auR ?_ | exact auR0)
    all_goals (try simp only [hsM] at *)
    all_goals rfl
  by_cases ha : (s.length : Int) < wordAtI s 2
  · have hr : rpErr s = 3 := by unfold rpErr; rw [if_pos (.inr (.inr ha))]
    rw [rpR_bad hr (by decide)]
    clear hr
    generalize hN s = n at *
    generalize wordAtI s 2 = al at *
    refine hspec_fn Tryd.func14 rfl ok_custref_TextPacket okr_custref_TextPacket rfl (by kernel_rfl) ?_
    intro Γ hW0 hN0 hL0
    have hW := hW0 rfl
    clear hW0 hN0 hL0
    unfold x_custref_TextPacket r_custref_TextPacket
    refine auC ?_
    repeat' (first
      | (refine auS ?_)
      | (first | (simp only [mkS_size, mkS_at, Int.toNat_natCast]) | (simp only [c0, c15, c4, cm, cw, cs]) | (simp only [c1, c8, c9]) | (simp only [m4, m15]) | (simp only [m14, m13]) | (simp only [f15]) | (simp only [f14, f13]) | (simp only [g14, g13, g2, gm]) | (simp only [and1, and8191]) | (simp only [g1]) | (simp only [x1, x2, x3]) | (with_reducible refine runR_call (between_spec _ _ _) ?_) | (with_reducible refine runR_call h2 ?_) | (with_reducible refine runR_call h4 ?_) | (with_reducible refine runR_call h6 ?_) | (with_reducible refine runR_call h12 ?_) | (with_reducible refine runR_call h16 ?_) | (with_reducible refine runR_call hr ?_) | (with_reducible refine runR_call hs ?_))
      | (refine auD ?_)
      | (with_reducible refine runR_b (fun h => ?_) (fun h => ?_) <;> first | exact auH | simp only [h, runR_t, runR_f])
      | (with_reducible refine condK_bl ?_ ?_)
      | (with_reducible refine condK_b (fun h => ?_) (fun h => ?_) <;> first | exact auH | skip)
      | (first | (refine runR_n (by simp only [mkS_size, List.length_take, List.length_drop]; omega) ?_) | (refine runR_n (by omega) ?_) | fail))
    (all_goals first | exact auP | skip)
    all_goals refine auF ?_
    all_goals (try first | refine auR ?_ | exact auR0)
    all_goals (try simp only [hsM] at *)
    all_goals rfl
  have h6 := wordAt_spec s 6 (by omega) (by omega) 6 rfl
  have b6 := wordAtI_bd s 6
  have m4 : min 4 IntKind.u8.bits = 4 := rfl
  have m15 : min 15 IntKind.i64.bits = 15 := rfl
  have f15 : (wordAtI s 6).fdiv (2 ^ 15) = wordAtI s 6 / 32768 := Int.fdiv_eq_ediv_of_nonneg _ (by decide)
  have g1 : ((bN s 0 : Nat) : Int).fdiv (2 ^ 4) = ((bN s 0 / 16 : Nat) : Int) := by rw [Int.fdiv_eq_ediv_of_nonneg _ (by decide)]; omega
  have hnB : hN s = 4 * (bN s 0 % 16) := rfl
  by_cases hB : 69 ≤ bN s 0 ∧ bN s 0 ≤ 79
  rotate_left 1
  · have hr : rpErr s = 4 := by unfold rpErr; rw [if_neg (by omega), if_pos (.inl hB)]
    rw [rpR_bad hr (by decide)]
    clear hr
    generalize hN s = n at *
    generalize wordAtI s 2 = al at *
    generalize wordAtI s 6 = F at *
    refine hspec_fn Tryd.func14 rfl ok_custref_TextPacket okr_custref_TextPacket rfl (by kernel_rfl) ?_
    intro Γ hW0 hN0 hL0
    have hW := hW0 rfl
    clear hW0 hN0 hL0
    unfold x_custref_TextPacket r_custref_TextPacket
    refine auC ?_
    repeat' (first
      | (refine auS ?_)
      | (first | (simp only [mkS_size, mkS_at, Int.toNat_natCast]) | (simp only [c0, c15, c4, cm, cw, cs]) | (simp only [c1, c8, c9]) | (simp only [m4, m15]) | (simp only [m14, m13]) | (simp only [f15]) | (simp only [f14, f13]) | (simp only [g14, g13, g2, gm]) | (simp only [and1, and8191]) | (simp only [g1]) | (simp only [x1, x2, x3]) | (with_reducible refine runR_call (between_spec _ _ _) ?_) | (with_reducible refine runR_call h2 ?_) | (with_reducible refine runR_call h4 ?_) | (with_reducible refine runR_call h6 ?_) | (with_reducible refine runR_call h12 ?_) | (with_reducible refine runR_call h16 ?_) | (with_reducible refine runR_call hr ?_) | (with_reducible refine runR_call hs ?_))
      | (refine auD ?_)
      | (with_reducible refine runR_b (fun h => ?_) (fun h => ?_) <;> first | exact auH | simp only [h, runR_t, runR_f])
      | (with_reducible refine condK_bl ?_ ?_)
      | (with_reducible refine condK_b (fun h => ?_) (fun h => ?_) <;> first | exact auH | skip)
      | (first | (refine runR_n (by simp only [mkS_size, List.length_take, List.length_drop]; omega) ?_) | (refine runR_n (by omega) ?_) | fail))
    (all_goals first | exact auP | skip)
    all_goals refine auF ?_
    all_goals (try first | refine auR ?_ | exact auR0)
    all_goals (try simp only [hsM] at *)
    all_goals rfl
  by_cases hA : wordAtI s 2 < (hN s : Nat)
  · have hr : rpErr s = 4 := by unfold rpErr; rw [if_neg (by omega), if_pos (.inr (.inl hA))]
    rw [rpR_bad hr (by decide)]
    clear hr
    generalize hN s = n at *
    generalize wordAtI s 2 = al at *
    generalize wordAtI s 6 = F at *
    refine hspec_fn Tryd.func14 rfl ok_custref_TextPacket okr_custref_TextPacket rfl (by kernel_rfl) ?_
    intro Γ hW0 hN0 hL0
    have hW := hW0 rfl
    clear hW0 hN0 hL0
    unfold x_custref_TextPacket r_custref_TextPacket
    refine auC ?_
    repeat' (first
      | (refine auS ?_)
      | (first | (simp only [mkS_size, mkS_at, Int.toNat_natCast]) | (simp only [c0, c15, c4, cm, cw, cs]) | (simp only [c1, c8, c9]) | (simp only [m4, m15]) | (simp only [m14, m13]) | (simp only [f15]) | (simp only [f14, f13]) | (simp only [g14, g13, g2, gm]) | (simp only [and1, and8191]) | (simp only [g1]) | (simp only [x1, x2, x3]) | (with_reducible refine runR_call (between_spec _ _ _) ?_) | (with_reducible refine runR_call h2 ?_) | (with_reducible refine runR_call h4 ?_) | (with_reducible refine runR_call h6 ?_) | (with_reducible refine runR_call h12 ?_) | (with_reducible refine runR_call h16 ?_) | (with_reducible refine runR_call hr ?_) | (with_reducible refine runR_call hs ?_))
      | (refine auD ?_)
      | (with_reducible refine runR_b (fun h => ?_) (fun h => ?_) <;> first | exact auH | simp only [h, runR_t, runR_f])
      | (with_reducible refine condK_bl ?_ ?_)
      | (with_reducible refine condK_b (fun h => ?_) (fun h => ?_) <;> first | exact auH | skip)
      | (first | (refine runR_n (by simp only [mkS_size, List.length_take, List.length_drop]; omega) ?_) | (refine runR_n (by omega) ?_) | fail))
    (all_goals first | exact auP | skip)
    all_goals refine auF ?_
    all_goals (try first | refine auR ?_ | exact auR0)
    all_goals (try simp only [hsM] at *)
    all_goals rfl
  by_cases hF : 32768 ≤ wordAtI s 6
  · have hr : rpErr s = 4 := by unfold rpErr; rw [if_neg (by omega), if_pos (.inr (.inr hF))]
    rw [rpR_bad hr (by decide)]
    clear hr
    generalize hN s = n at *
    generalize wordAtI s 2 = al at *
    generalize wordAtI s 6 = F at *
    refine hspec_fn Tryd.func14 rfl ok_custref_TextPacket okr_custref_TextPacket rfl (by kernel_rfl) ?_
    intro Γ hW0 hN0 hL0
    have hW := hW0 rfl
    clear hW0 hN0 hL0
    unfold x_custref_TextPacket r_custref_TextPacket
    refine auC ?_
    repeat' (first
      | (refine auS ?_)
      | (first | (simp only [mkS_size, mkS_at, Int.toNat_natCast]) | (simp only [c0, c15, c4, cm, cw, cs]) | (simp only [c1, c8, c9]) | (simp only [m4, m15]) | (simp only [m14, m13]) | (simp only [f15]) | (simp only [f14, f13]) | (simp only [g14, g13, g2, gm]) | (simp only [and1, and8191]) | (simp only [g1]) | (simp only [x1, x2, x3]) | (with_reducible refine runR_call (between_spec _ _ _) ?_) | (with_reducible refine runR_call h2 ?_) | (with_reducible refine runR_call h4 ?_) | (with_reducible refine runR_call h6 ?_) | (with_reducible refine runR_call h12 ?_) | (with_reducible refine runR_call h16 ?_) | (with_reducible refine runR_call hr ?_) | (with_reducible refine runR_call hs ?_))
      | (refine auD ?_)
      | (with_reducible refine runR_b (fun h => ?_) (fun h => ?_) <;> first | exact auH | simp only [h, runR_t, runR_f])
      | (with_reducible refine condK_bl ?_ ?_)
      | (with_reducible refine condK_b (fun h => ?_) (fun h => ?_) <;> first | exact auH | skip)
      | (first | (refine runR_n (by simp only [mkS_size, List.length_take, List.length_drop]; omega) ?_) | (refine runR_n (by omega) ?_) | fail))
    (all_goals first | exact auP | skip)
    all_goals refine auF ?_
    all_goals (try first | refine auR ?_ | exact auR0)
    all_goals (try simp only [hsM] at *)
    all_goals rfl
  have h4 := wordAt_spec s 4 (by omega) (by omega) 4 rfl
  have h12 := longAt_spec s 12 (by omega) (by omega) 12 rfl
  have h16 := longAt_spec s 16 (by omega) (by omega) 16 rfl
  have hr := rfR (rdP s) (by simp only [rdP, List.length_take, List.length_drop]; omega) (by simp only [rdP, List.length_take, List.length_drop]; omega) (lgAt_bd s 12) (lgAt_bd s 16)
  have hs := sumOfZ (s.take (hN s)) (by rw [List.length_take]; omega)
  have d1 := bN_lt s 1
  have d8 := bN_lt s 8
  have d9 := bN_lt s 9
  have c1 : IntKind.i64.wrap (bN s 1 : Nat) = (bN s 1 : Nat) := IntWalk.i64_in _ (by omega)
  have c8 : IntKind.i64.wrap (bN s 8 : Nat) = (bN s 8 : Nat) := IntWalk.i64_in _ (by omega)
  have c9 : IntKind.i64.wrap (bN s 9 : Nat) = (bN s 9 : Nat) := IntWalk.i64_in _ (by omega)
  have m14 : min 14 IntKind.i64.bits = 14 := rfl
  have m13 : min 13 IntKind.i64.bits = 13 := rfl
  have f14 : (wordAtI s 6).fdiv (2 ^ 14) = wordAtI s 6 / 16384 := Int.fdiv_eq_ediv_of_nonneg _ (by decide)
  have f13 : (wordAtI s 6).fdiv (2 ^ 13) = wordAtI s 6 / 8192 := Int.fdiv_eq_ediv_of_nonneg _ (by decide)
  have g2 : wordAtI s 6 / 16384 % 2 = wordAtI s 6 / 16384 := by omega
  have g14 : IntKind.i64.wrap ((wordAtI s 6).tdiv 16384) = wordAtI s 6 / 16384 := by rw [Int.tdiv_eq_ediv_of_nonneg (by omega), IntWalk.i64_in _ (by omega)]
  have g13 : (IntKind.i64.wrap ((wordAtI s 6).tdiv 8192)).tmod 2 = wordAtI s 6 / 8192 % 2 := by rw [Int.tdiv_eq_ediv_of_nonneg (by omega), IntWalk.i64_in _ (by omega), Int.tmod_eq_emod_of_nonneg (by omega)]
  have gm : (wordAtI s 6).tmod 8192 = wordAtI s 6 % 8192 := Int.tmod_eq_emod_of_nonneg (by omega)
  have x1 : (mkS s).extract 20 (hN s) = mkS ((s.drop 20).take (hN s - 20)) := mkS_ext _ _ _
  have x2 : (mkS s).extract (hN s) (wordAtI s 2).toNat = mkS ((s.drop (hN s)).take ((wordAtI s 2).toNat - hN s)) := mkS_ext _ _ _
  have x3 : (mkS s).extract 0 (hN s) = mkS (s.take (hN s)) := by rw [mkS_ext]; rfl
  by_cases hE : pErr (rdP s) = 0
  rotate_left 1
  · have hre : rpErr s = 4 := by unfold rpErr; rw [if_neg (by omega), if_neg (by omega), if_pos hE]
    rw [rpR_bad hre (by decide)]
    clear hre
    generalize pErr (rdP s) = E at *
    try generalize (pW (rdP s)).1 = T at *
    unfold rdP at hr
    generalize hN s = n at *
    generalize wordAtI s 2 = al at *
    generalize wordAtI s 6 = F at *
    refine hspec_fn Tryd.func14 rfl ok_custref_TextPacket okr_custref_TextPacket rfl (by kernel_rfl) ?_
    intro Γ hW0 hN0 hL0
    have hW := hW0 rfl
    clear hW0 hN0 hL0
    unfold x_custref_TextPacket r_custref_TextPacket
    refine auC ?_
    repeat' (first
      | (refine auS ?_)
      | (first | (simp only [mkS_size, mkS_at, Int.toNat_natCast]) | (simp only [c0, c15, c4, cm, cw, cs]) | (simp only [c1, c8, c9]) | (simp only [m4, m15]) | (simp only [m14, m13]) | (simp only [f15]) | (simp only [f14, f13]) | (simp only [g14, g13, g2, gm]) | (simp only [and1, and8191]) | (simp only [g1]) | (simp only [x1, x2, x3]) | (with_reducible refine runR_call (between_spec _ _ _) ?_) | (with_reducible refine runR_call h2 ?_) | (with_reducible refine runR_call h4 ?_) | (with_reducible refine runR_call h6 ?_) | (with_reducible refine runR_call h12 ?_) | (with_reducible refine runR_call h16 ?_) | (with_reducible refine runR_call hr ?_) | (with_reducible refine runR_call hs ?_))
      | (refine auD ?_)
      | (with_reducible refine runR_b (fun h => ?_) (fun h => ?_) <;> first | exact auH | simp only [h, runR_t, runR_f])
      | (with_reducible refine condK_bl ?_ ?_)
      | (with_reducible refine condK_b (fun h => ?_) (fun h => ?_) <;> first | exact auH | skip)
      | (first | (refine runR_n (by simp only [mkS_size, List.length_take, List.length_drop]; omega) ?_) | (refine runR_n (by omega) ?_) | fail))
    (all_goals first | exact auP | skip)
    all_goals refine auF ?_
    all_goals (try first | refine auR ?_ | exact auR0)
    all_goals (try simp only [hsM] at *)
    all_goals rfl
  by_cases hS : foldI (wsum (s.take (hN s))) = 65535
  rotate_left 1
  · have hre : rpErr s = 5 := by unfold rpErr; rw [if_neg (by omega), if_neg (by omega), if_neg (not_not_intro hE), if_pos hS]
    rw [rpR_bad hre (by decide)]
    clear hre
    rw [hE] at hr
    clear hE
    try generalize (pW (rdP s)).1 = T at *
    unfold rdP at hr
    generalize foldI (wsum (s.take (hN s))) = c at *
    generalize hN s = n at *
    generalize wordAtI s 2 = al at *
    generalize wordAtI s 6 = F at *
    refine hspec_fn Tryd.func14 rfl ok_custref_TextPacket okr_custref_TextPacket rfl (by kernel_rfl) ?_
    intro Γ hW0 hN0 hL0
    have hW := hW0 rfl
    clear hW0 hN0 hL0
    unfold x_custref_TextPacket r_custref_TextPacket
    refine auC ?_
    repeat' (first
      | (refine auS ?_)
      | (first | (simp only [mkS_size, mkS_at, Int.toNat_natCast]) | (simp only [c0, c15, c4, cm, cw, cs]) | (simp only [c1, c8, c9]) | (simp only [m4, m15]) | (simp only [m14, m13]) | (simp only [f15]) | (simp only [f14, f13]) | (simp only [g14, g13, g2, gm]) | (simp only [and1, and8191]) | (simp only [g1]) | (simp only [x1, x2, x3]) | (with_reducible refine runR_call (between_spec _ _ _) ?_) | (with_reducible refine runR_call h2 ?_) | (with_reducible refine runR_call h4 ?_) | (with_reducible refine runR_call h6 ?_) | (with_reducible refine runR_call h12 ?_) | (with_reducible refine runR_call h16 ?_) | (with_reducible refine runR_call hr ?_) | (with_reducible refine runR_call hs ?_))
      | (refine auD ?_)
      | (with_reducible refine runR_b (fun h => ?_) (fun h => ?_) <;> first | exact auH | simp only [h, runR_t, runR_f])
      | (with_reducible refine condK_bl ?_ ?_)
      | (with_reducible refine condK_b (fun h => ?_) (fun h => ?_) <;> first | exact auH | skip)
      | (first | (refine runR_n (by simp only [mkS_size, List.length_take, List.length_drop]; omega) ?_) | (refine runR_n (by omega) ?_) | fail))
    (all_goals first | exact auP | skip)
    all_goals refine auF ?_
    all_goals (try first | refine auR ?_ | exact auR0)
    all_goals (try simp only [hsM] at *)
    all_goals rfl
  · have hre0 : rpErr s = 0 := by unfold rpErr; rw [if_neg (by omega), if_neg (by omega), if_neg (not_not_intro hE), if_neg (not_not_intro hS)]
    have hre : rpR s = (rdP s, 0) := by unfold rpR; rw [hre0, if_pos rfl]
    clear hre0
    rw [hre]
    clear hre
    rw [hE] at hr
    rw [hS] at hs
    clear hE hS
    try generalize (pW (rdP s)).1 = T at *
    unfold rdP at hr ⊢
    generalize hN s = n at *
    generalize wordAtI s 2 = al at *
    generalize wordAtI s 6 = F at *
    refine hspec_fn Tryd.func14 rfl ok_custref_TextPacket okr_custref_TextPacket rfl (by kernel_rfl) ?_
    intro Γ hW0 hN0 hL0
    have hW := hW0 rfl
    clear hW0 hN0 hL0
    unfold x_custref_TextPacket r_custref_TextPacket
    refine auC ?_
    repeat' (first
      | (refine auS ?_)
      | (first | (simp only [mkS_size, mkS_at, Int.toNat_natCast]) | (simp only [c0, c15, c4, cm, cw, cs]) | (simp only [c1, c8, c9]) | (simp only [m4, m15]) | (simp only [m14, m13]) | (simp only [f15]) | (simp only [f14, f13]) | (simp only [g14, g13, g2, gm]) | (simp only [and1, and8191]) | (simp only [g1]) | (simp only [x1, x2, x3]) | (with_reducible refine runR_call (between_spec _ _ _) ?_) | (with_reducible refine runR_call h2 ?_) | (with_reducible refine runR_call h4 ?_) | (with_reducible refine runR_call h6 ?_) | (with_reducible refine runR_call h12 ?_) | (with_reducible refine runR_call h16 ?_) | (with_reducible refine runR_call hr ?_) | (with_reducible refine runR_call hs ?_))
      | (refine auD ?_)
      | (with_reducible refine runR_b (fun h => ?_) (fun h => ?_) <;> first | exact auH | simp only [h, runR_t, runR_f])
      | (with_reducible refine condK_bl ?_ ?_)
      | (with_reducible refine condK_b (fun h => ?_) (fun h => ?_) <;> first | exact auH | skip)
      | (first | (refine runR_n (by simp only [mkS_size, List.length_take, List.length_drop]; omega) ?_) | (refine runR_n (by omega) ?_) | fail))
    (all_goals first | exact auP | skip)
    all_goals refine auF ?_
    all_goals (try first | refine auR ?_ | exact auR0)
    all_goals (try simp only [hsM] at *)
    all_goals rfl
end Go.Proofs.YthfalbbghajimaaDoor
