/-
  The program's Parse of an address, walked.
-/
import Derived.Test.YtcbcmaahgldlfaaDoorMacU
namespace Go.Proofs.YtcbcmaahgldlfaaDoor
set_option linter.unusedVariables false
set_option linter.unusedSimpArgs false
def dg (s : List UInt8) (k : Nat) : Int := digI (bN s k : Nat)
def dk (s : List UInt8) (k : Nat) : Bool := digOk (bN s k : Nat)
def pv (s : List UInt8) (i : Nat) : Int := 16 * dg s (3 * i) + dg s (3 * i + 1)
def pvs (s : List UInt8) : List Int := (List.range 6).map (pv s)
def okAt (s : List UInt8) (i : Nat) : Prop := dk s (3 * i) = true ∧ dk s (3 * i + 1) = true ∧ (i < 5 → bN s (3 * i + 2) = 58)
instance (s : List UInt8) (i : Nat) : Decidable (okAt s i) := by unfold okAt; exact inferInstance
def parseOk (s : List UInt8) : Prop := s.length = 17 ∧ ∀ i, i < 6 → okAt s i
instance (s : List UInt8) : Decidable (parseOk s) := by unfold parseOk; exact inferInstance
def pmac (s : List UInt8) : DV := if parseOk s then .tup [.agg ((pvs s).map cI), .v (.int .i64 0)] else .tup [.agg zr6, .v (.int .i64 10)]
theorem pmac_bad {s : List UInt8} (h : ¬ parseOk s) : pmac s = .tup [.agg zr6, .v (.int .i64 10)] := if_neg h
theorem pmac_good {s : List UInt8} (h : parseOk s) : pmac s = .tup [.agg ((pvs s).map cI), .v (.int .i64 0)] := if_pos h
theorem dg_rng (s : List UInt8) (k : Nat) : 0 ≤ dg s k ∧ dg s k < 16 := by
  unfold dg digI
  have := bN_lt s k
  split
  · omega
  · split <;> omega
theorem dig_at (s : List UInt8) (k : Nat) {b : Bool} (h : dk s k = b) : Spec Tryd.prog 9 [.v (.int .u8 (bN s k : Nat))] (.tup [.v (.int .u8 (dg s k)), .v (.bool b)]) := by
  have := digit_spec (bN s k : Nat) (by omega) (by have := bN_lt s k; omega)
  rw [← h]
  exact this
theorem or_fin : ∀ a b : Fin 16, bits .or .u8 (IntKind.u8.wrap ((a.val : Int) * 16)) (b.val : Int) = 16 * (a.val : Int) + (b.val : Int) := by decide +kernel
theorem or_hex {a b : Int} (ha : 0 ≤ a ∧ a < 16) (hb : 0 ≤ b ∧ b < 16) : bits .or .u8 (IntKind.u8.wrap (a * 2 ^ min 4 IntKind.u8.bits)) b = 16 * a + b := by
  have := or_fin ⟨a.toNat, by omega⟩ ⟨b.toNat, by omega⟩
  dsimp only at this
  rw [Int.toNat_of_nonneg ha.1, Int.toNat_of_nonneg hb.1] at this
  exact this
set_option maxHeartbeats 2000000 in
theorem parse_spec (s : List UInt8) : Spec Tryd.prog 4 [.v (.string (mkS s))] (pmac s) := by
  by_cases h17 : s.length = 17
  · have hvl : (pvs s).length = 6 := by simp [pvs]
    refine hspec_fn Tryd.func4 rfl ok_eth_Parse okr_eth_Parse rfl (by kernel_rfl) ?_
    intro Γ hW0 hN0 hL0
    have hW := hW0 rfl
    clear hW0 hN0 hL0
    unfold x_eth_Parse r_eth_Parse
    refine auC ?_
    repeat' (first
      | (refine auS ?_)
      | (simp only [mkS_size, h17])
      | (refine auD ?_)
      | (with_reducible refine runR_b (fun h => ?_) (fun h => ?_) <;> first | exact auH | simp only [h, runR_t, runR_f])
      | (with_reducible refine condK_bl ?_ ?_)
      | (with_reducible refine condK_b (fun h => ?_) (fun h => ?_) <;> first | exact auH | skip)
      | fail)
    (all_goals first | exact auP | skip)
    refine go_loopH (α := Nat) (fun i => [(⟨.d0, .d1, .d6⟩, .v (.int .i64 (i : Nat)))]) (fun i => [(1, some ⟨Γ.g0 + 1, 6, [cellsAt (pvs s) i]⟩)]) (fun _ => Γ.g0 + 2) (fun i => 6 - i) (fun i => i ≤ 6 ∧ ∀ j, j < i → okAt s j) 0 ⟨Nat.zero_le _, fun j h => absurd h (Nat.not_lt_zero _)⟩ ?_ ?_
    · skip
      refine le_mk ?_ ?_ (Nat.le_refl _)
      all_goals first | refine auE ?_ | exact auE0
      all_goals (repeat' (first | exact trivial | exact rfl | apply And.intro))
    rintro i ⟨hi, hok⟩
    dsimp only at hi hok ⊢
    refine auL ?_
    by_cases hlt : i < 6
    · have hv : (pvs s)[i]? = some (pv s i) := by simp [pvs, hlt]
      have hset : splice (cellsAt (pvs s) i) i [.v (.int .u8 (16 * dg s (3 * i) + dg s (3 * i + 1)))] = _ := cells_set _ hvl hv
      have hcl := cells_len _ hvl i (by omega)
      have n0 := bN_lt s (3 * i + 2)
      have r0 := dg_rng s (3 * i)
      have r1 := dg_rng s (3 * i + 1)
      have w1 : IntKind.i64.wrap ((i : Int) + 1) = ((i + 1 : Nat) : Int) := by rw [IntWalk.i64_in _ (by omega)]; omega
      have w2 : IntKind.i64.wrap (3 * (i : Int)) = ((3 * i : Nat) : Int) := by rw [IntWalk.i64_in _ (by omega)]; omega
      have w3 : IntKind.i64.wrap (((3 * i : Nat) : Int) + 1) = ((3 * i + 1 : Nat) : Int) := by rw [IntWalk.i64_in _ (by omega)]; omega
      have w4 : IntKind.i64.wrap (((3 * i : Nat) : Int) + 2) = ((3 * i + 2 : Nat) : Int) := by rw [IntWalk.i64_in _ (by omega)]; omega
      have w5 := or_hex r0 r1
      have hbad : ¬ okAt s i → ¬ parseOk s := fun q z => q (z.2 i hlt)
      have hnx : okAt s i → ∀ j, j < i + 1 → okAt s j := fun q j hj => by
        by_cases e : j = i
        · rw [e]; exact q
        · exact hok j (by omega)
      generalize cellsAt (pvs s) i = cs at hset hcl ⊢
      have hcase : (dk s (3 * i) = false ∧ ¬ okAt s i) ∨ (dk s (3 * i) = true ∧ dk s (3 * i + 1) = false ∧ ¬ okAt s i) ∨ (dk s (3 * i) = true ∧ dk s (3 * i + 1) = true ∧ i < 5 ∧ ¬ bN s (3 * i + 2) = 58 ∧ ¬ okAt s i) ∨ (dk s (3 * i) = true ∧ dk s (3 * i + 1) = true ∧ (i < 5 → bN s (3 * i + 2) = 58) ∧ okAt s i) := by
        unfold okAt
        cases dk s (3 * i) <;> cases dk s (3 * i + 1) <;> simp <;> omega
      rcases hcase with ⟨a1, a2⟩ | ⟨a1, a2, a3⟩ | ⟨a1, a2, a3, a4, a5⟩ | ⟨a1, a2, a3, a4⟩
      · rw [pmac_bad (hbad a2)]
        have hA := dig_at s (3 * i) a1
        have hB := dig_at s (3 * i + 1) rfl
        generalize dk s (3 * i + 1) = q at hB
        repeat' (first
          | (refine auS ?_)
          | (first | (simp only [h17, mkS_size, mkS_at, w1, w2, w3, w4, w5, Int.toNat_natCast]) | (with_reducible refine runR_call hA ?_) | (with_reducible refine runR_call hB ?_))
          | (refine auD ?_)
          | (with_reducible refine runR_b (fun h => ?_) (fun h => ?_) <;> first | exact auH | simp only [h, runR_t, runR_f])
          | (with_reducible refine condK_bl ?_ ?_)
          | (with_reducible refine condK_b (fun h => ?_) (fun h => ?_) <;> first | exact auH | skip)
          | fail)
        (all_goals first | exact auP | skip)
        all_goals refine auF ?_
        all_goals (try first | refine auR ?_ | exact auR0)
        all_goals (try simp only [hsM] at *)
        all_goals rfl
      · rw [pmac_bad (hbad a3)]
        have hA := dig_at s (3 * i) a1
        have hB := dig_at s (3 * i + 1) a2
        repeat' (first
          | (refine auS ?_)
          | (first | (simp only [h17, mkS_size, mkS_at, w1, w2, w3, w4, w5, Int.toNat_natCast]) | (with_reducible refine runR_call hA ?_) | (with_reducible refine runR_call hB ?_))
          | (refine auD ?_)
          | (with_reducible refine runR_b (fun h => ?_) (fun h => ?_) <;> first | exact auH | simp only [h, runR_t, runR_f])
          | (with_reducible refine condK_bl ?_ ?_)
          | (with_reducible refine condK_b (fun h => ?_) (fun h => ?_) <;> first | exact auH | skip)
          | fail)
        (all_goals first | exact auP | skip)
        all_goals refine auF ?_
        all_goals (try first | refine auR ?_ | exact auR0)
        all_goals (try simp only [hsM] at *)
        all_goals rfl
      · rw [pmac_bad (hbad a5)]
        have hA := dig_at s (3 * i) a1
        have hB := dig_at s (3 * i + 1) a2
        repeat' (first
          | (refine auS ?_)
          | (first | (simp only [h17, mkS_size, mkS_at, w1, w2, w3, w4, w5, Int.toNat_natCast]) | (with_reducible refine runR_call hA ?_) | (with_reducible refine runR_call hB ?_))
          | (refine auD ?_)
          | (with_reducible refine runR_b (fun h => ?_) (fun h => ?_) <;> first | exact auH | simp only [h, runR_t, runR_f])
          | (with_reducible refine condK_bl ?_ ?_)
          | (with_reducible refine condK_b (fun h => ?_) (fun h => ?_) <;> first | exact auH | skip)
          | fail)
        (all_goals first | exact auP | skip)
        all_goals refine auF ?_
        all_goals (try first | refine auR ?_ | exact auR0)
        all_goals (try simp only [hsM] at *)
        all_goals rfl
      · have hA := dig_at s (3 * i) a1
        have hB := dig_at s (3 * i + 1) a2
        repeat' (first
          | (refine auS ?_)
          | (first | (simp only [h17, mkS_size, mkS_at, w1, w2, w3, w4, w5, Int.toNat_natCast]) | (with_reducible refine runR_call hA ?_) | (with_reducible refine runR_call hB ?_))
          | (refine auD ?_)
          | (with_reducible refine runR_b (fun h => ?_) (fun h => ?_) <;> first | exact auH | simp only [h, runR_t, runR_f])
          | (with_reducible refine condK_bl ?_ ?_)
          | (with_reducible refine condK_b (fun h => ?_) (fun h => ?_) <;> first | exact auH | skip)
          | fail)
        (all_goals first | exact auP | skip)
        all_goals first
          | (exfalso; simp_all; done)
          | skip
        all_goals
          refine nx_loop ⟨i + 1, ⟨by omega, hnx a4⟩, by omega, ?_⟩
          refine le_mk ?_ ?_ (Nat.le_refl _)
          all_goals first | refine auE ?_ | exact auE0
          all_goals (repeat' (first | exact trivial | exact rfl | apply And.intro))
        all_goals rw [Nat.zero_add, Nat.mul_one, hset]
    · obtain rfl : i = 6 := by omega
      rw [pmac_good ⟨h17, fun i hi => hok i hi⟩]
      have hfin : cellsAt (pvs s) 6 = (pvs s).map cI := rfl
      rw [hfin]
      dsimp only [pvs, List.range, List.range.loop, List.map, cI]
      repeat' (first
        | (refine auS ?_)
        | fail
        | (refine auD ?_)
        | (with_reducible refine runR_b (fun h => ?_) (fun h => ?_) <;> first | exact auH | simp only [h, runR_t, runR_f])
        | (with_reducible refine condK_bl ?_ ?_)
        | (with_reducible refine condK_b (fun h => ?_) (fun h => ?_) <;> first | exact auH | skip)
        | fail)
      (all_goals first | exact auP | skip)
      all_goals refine auF ?_
      all_goals (try first | refine auR ?_ | exact auR0)
      all_goals (try simp only [hsM] at *)
  · rw [pmac_bad fun q => h17 q.1]
    refine hspec_fn Tryd.func4 rfl ok_eth_Parse okr_eth_Parse rfl (by kernel_rfl) ?_
    intro Γ hW0 hN0 hL0
    have hW := hW0 rfl
    clear hW0 hN0 hL0
    unfold x_eth_Parse r_eth_Parse
    refine auC ?_
    repeat' (first
      | (refine auS ?_)
      | (simp only [mkS_size])
      | (refine auD ?_)
      | (with_reducible refine runR_b (fun h => ?_) (fun h => ?_) <;> first | exact auH | simp only [h, runR_t, runR_f])
      | (with_reducible refine condK_bl ?_ ?_)
      | (with_reducible refine condK_b (fun h => ?_) (fun h => ?_) <;> first | exact auH | skip)
      | fail)
    (all_goals first | exact auP | skip)
    all_goals refine auF ?_
    all_goals (try first | refine auR ?_ | exact auR0)
    all_goals (try simp only [hsM] at *)
    all_goals rfl
end Go.Proofs.YtcbcmaahgldlfaaDoor
