/-
  Addresses read by the reference: ReadNum, TextAddr.
-/
import Derived.Test.YtbcamncabckbnaaGreatDoorAdrT
namespace Go.Proofs.YtbcamncabckbnaaGreatDoor
set_option linter.unusedVariables false
set_option linter.unusedSimpArgs false
theorem valD_snoc (l : List UInt8) (b : UInt8) : valD (l ++ [b]) = 10 * valD l + (b.toNat - 48) := by
  unfold valD
  rw [List.foldl_append]
  rfl
theorem valD_lt {w : List UInt8} (h : w.all isD = true) : ∀ i, i ≤ w.length → valD (w.take i) < 10 ^ i := by
  intro i
  induction i with
  | zero => intro _; exact Nat.one_pos
  | succ i ih =>
    intro hi
    have hb : w[i]? = some (w[i]'(by omega)) := List.getElem?_eq_getElem (by omega)
    have hd := of_decide_eq_true (List.all_eq_true.1 h _ (List.mem_of_getElem? hb))
    have := ih (by omega)
    rw [take_snoc hb, valD_snoc, Nat.pow_succ]
    omega
theorem all_take {w : List UInt8} {i : Nat} (h : w.all isD = true) : (w.take i).all isD = true := List.all_eq_true.2 fun x hx => List.all_eq_true.1 h x (List.mem_of_mem_take hx)
def dNB (r : Nat × Bool) : DV := .tup [.v (.int .i64 (r.1 : Nat)), .v (.bool r.2)]
set_option maxHeartbeats 2000000 in
theorem readNum_spec (w : List UInt8) (hw : w.length ≤ 1048576) : Spec Tryz.prog 68 [.v (.string (mkS w))] (dNB (rnum w)) := by
  have hb1 := between_spec (w.length : Nat) 1 9
  by_cases hlen : 1 ≤ w.length ∧ w.length ≤ 9
  · rw [decide_eq_true (show (1 : Int) ≤ (w.length : Nat) ∧ ((w.length : Nat) : Int) ≤ 9 by omega)] at hb1
    refine hspec_fn Tryz.func68 rfl ok_custref_ReadNum okr_custref_ReadNum rfl (by kernel_rfl) ?_
    intro Γ hW0 hN0 hL0
    have hW := hW0 rfl
    clear hW0 hN0 hL0
    unfold x_custref_ReadNum r_custref_ReadNum
    with_reducible refine auC ?_
    repeat' (first
      | (with_reducible refine auS ?_)
      | (first | (simp only [mkS_size]) | (with_reducible refine runR_call hb1 ?_))
      | (with_reducible refine auD ?_)
      | ((with_reducible refine auB ?_ ?_); all_goals first | (intro h; first | exact auH | simp only [h, runR_t, runR_f] | skip) | skip)
      | fail)
    (all_goals first | exact auP | skip)
    refine go_loopH (α := Nat) (fun i => [(⟨.d0, .d0, .d4⟩, .v (.int .i64 (valD (w.take i) : Nat))), (⟨.d0, .d1, .d4⟩, .v (.int .i64 (i : Nat)))]) (fun _ => []) (fun _ => Γ.g0) (fun i => w.length - i) (fun i => i ≤ w.length ∧ (w.take i).all isD = true) 0 ⟨Nat.zero_le _, rfl⟩ ?_ ?_
    · skip
      refine le_mk ?_ ?_ (Nat.le_refl _)
      all_goals first | with_reducible refine auE ?_ | exact auE0
      all_goals (repeat' (first | exact trivial | exact rfl | apply And.intro))
    rintro i ⟨hi, hok⟩
    dsimp only at hi hok ⊢
    with_reducible refine auL ?_
    by_cases hlt : i < w.length
    · obtain ⟨b, hb⟩ : ∃ b, w[i]? = some b := ⟨_, List.getElem?_eq_getElem hlt⟩
      have hbn : bN w i = b.toNat := bN_some hb
      have hb8 := bN_lt w i
      have hb2 := between_spec (bN w i : Nat) 48 57
      have cB : IntKind.i64.wrap ((bN w i : Nat) : Int) = (bN w i : Nat) := IntWalk.i64_in _ (by omega)
      by_cases hd : isD b = true
      · have hd2 := of_decide_eq_true hd
        have hall : (w.take (i + 1)).all isD = true := by
          rw [take_snoc hb, List.all_append, hok]
          simp [hd]
        have hv : valD (w.take i) < 10 ^ i := by
          have := valD_lt hok i (by simp; omega)
          rwa [List.take_take, Nat.min_self] at this
        have hp : (10 : Nat) ^ i ≤ 10 ^ 8 := Nat.pow_le_pow_right (by decide) (by omega)
        have hvs := valD_snoc (w.take i) b
        rw [← take_snoc hb] at hvs
        rw [decide_eq_true (show (48 : Int) ≤ (bN w i : Nat) ∧ ((bN w i : Nat) : Int) ≤ 57 by omega)] at hb2
        have w1 : IntKind.i64.wrap ((i : Int) + 1) = ((i + 1 : Nat) : Int) := by rw [IntWalk.i64_in _ (by omega)]; omega
        have w2 : IntKind.i64.wrap (10 * ((valD (w.take i) : Nat) : Int)) = 10 * ((valD (w.take i) : Nat) : Int) := IntWalk.i64_in _ (by omega)
        have w3 : IntKind.i64.wrap (10 * ((valD (w.take i) : Nat) : Int) + (bN w i : Nat)) = 10 * ((valD (w.take i) : Nat) : Int) + (bN w i : Nat) := IntWalk.i64_in _ (by omega)
        have w4 : IntKind.i64.wrap (10 * ((valD (w.take i) : Nat) : Int) + (bN w i : Nat) - 48) = ((valD (w.take (i + 1)) : Nat) : Int) := by rw [IntWalk.i64_in _ (by omega)]; omega
        repeat' (first
          | (with_reducible refine auS ?_)
          | (first | (simp only [mkS_size, mkS_at, cB, w1, w2, w3, w4, Int.toNat_natCast]) | (with_reducible refine runR_call hb2 ?_))
          | (with_reducible refine auD ?_)
          | ((with_reducible refine auB ?_ ?_); all_goals first | (intro h; first | exact auH | simp only [h, runR_t, runR_f] | skip) | skip)
          | fail)
        (all_goals first | exact auP | skip)
        refine nx_loop ⟨i + 1, ⟨hlt, hall⟩, by omega, ?_⟩
        refine le_mk ?_ ?_ (Nat.le_refl _)
        all_goals first | with_reducible refine auE ?_ | exact auE0
        all_goals (repeat' (first | exact trivial | exact rfl | apply And.intro))
      · have hno : rnum w = (0, false) := by
          unfold rnum
          rw [if_neg fun q => hd (List.all_eq_true.1 q.2.2 b (List.mem_of_getElem? hb))]
        rw [hno]
        have hd2 : ¬ (48 ≤ b.toNat ∧ b.toNat ≤ 57) := fun q => hd (decide_eq_true q)
        rw [decide_eq_false (show ¬ ((48 : Int) ≤ (bN w i : Nat) ∧ ((bN w i : Nat) : Int) ≤ 57) by omega)] at hb2
        repeat' (first
          | (with_reducible refine auS ?_)
          | (first | (simp only [mkS_size, mkS_at, cB, Int.toNat_natCast]) | (with_reducible refine runR_call hb2 ?_))
          | (with_reducible refine auD ?_)
          | ((with_reducible refine auB ?_ ?_); all_goals first | (intro h; first | exact auH | simp only [h, runR_t, runR_f] | skip) | skip)
          | fail)
        (all_goals first | exact auP | skip)
        all_goals with_reducible refine auF ?_
        all_goals (try first | with_reducible refine auR ?_ | exact auR0)
        all_goals (try simp only [hsM] at *)
        all_goals rfl
    · obtain rfl : i = w.length := by omega
      rw [List.take_length] at hok ⊢
      have hv : valD w < 10 ^ w.length := by
        have := valD_lt hok w.length (Nat.le_refl _)
        rwa [List.take_length] at this
      have hp : (10 : Nat) ^ w.length ≤ 10 ^ 9 := Nat.pow_le_pow_right (by decide) (by omega)
      have hnum := num_spec _ (valD w) (Nat.le_refl _) (by omega)
      have hyes : rnum w = (valD w, decide (Lib.decDigits (valD w) = w)) := by
        unfold rnum
        rw [if_pos ⟨hlen.1, hlen.2, hok⟩]
      rw [hyes]
      generalize valD w = V at *
      repeat' (first
        | (with_reducible refine auS ?_)
        | (first | (simp only [mkS_size, mkS_inj]) | (with_reducible refine runR_call hnum ?_))
        | (with_reducible refine auD ?_)
        | ((with_reducible refine auB ?_ ?_); all_goals first | (intro h; first | exact auH | simp only [h, runR_t, runR_f] | skip) | skip)
        | fail)
      (all_goals first | exact auP | skip)
      all_goals with_reducible refine auF ?_
      all_goals (try first | with_reducible refine auR ?_ | exact auR0)
      all_goals (try simp only [hsM] at *)
      all_goals first
        | rfl
        | exact congrArg (fun b => DV.tup [.v (.int .i64 (V : Nat)), .v (.bool b)]) (by simp)
  · have hno : rnum w = (0, false) := by
      unfold rnum
      rw [if_neg fun q => hlen ⟨q.1, q.2.1⟩]
    rw [hno]
    rw [decide_eq_false (show ¬ ((1 : Int) ≤ (w.length : Nat) ∧ ((w.length : Nat) : Int) ≤ 9) by omega)] at hb1
    refine hspec_fn Tryz.func68 rfl ok_custref_ReadNum okr_custref_ReadNum rfl (by kernel_rfl) ?_
    intro Γ hW0 hN0 hL0
    have hW := hW0 rfl
    clear hW0 hN0 hL0
    unfold x_custref_ReadNum r_custref_ReadNum
    with_reducible refine auC ?_
    repeat' (first
      | (with_reducible refine auS ?_)
      | (first | (simp only [mkS_size]) | (with_reducible refine runR_call hb1 ?_))
      | (with_reducible refine auD ?_)
      | ((with_reducible refine auB ?_ ?_); all_goals first | (intro h; first | exact auH | simp only [h, runR_t, runR_f] | skip) | skip)
      | fail)
    (all_goals first | exact auP | skip)
    all_goals with_reducible refine auF ?_
    all_goals (try first | with_reducible refine auR ?_ | exact auR0)
    all_goals (try simp only [hsM] at *)
    all_goals rfl
end Go.Proofs.YtbcamncabckbnaaGreatDoor
