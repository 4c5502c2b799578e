/-
  Addresses told and read by the reference: AddrText, ReadNum, TextAddr.
-/
import Derived.Test.YtbcamncabckbnaaGreatDoorAdrY
namespace Go.Proofs.YtbcamncabckbnaaGreatDoor
set_option linter.unusedVariables false
set_option linter.unusedSimpArgs false
theorem u8_ofN (n : Nat) : (u8 ((n : Nat) : Int)).toNat = n % 256 := by
  unfold u8
  rw [show (((n : Nat) : Int) % 256).toNat = n % 256 by omega, UInt8.toNat_ofNat']
  omega
theorem bN_lg (a : Nat) : bN (lg (a : Nat)) 0 = a / 16777216 % 256 ∧ bN (lg (a : Nat)) 1 = a / 65536 % 256 ∧ bN (lg (a : Nat)) 2 = a / 256 % 256 ∧ bN (lg (a : Nat)) 3 = a % 256 := by
  refine ⟨?_, ?_, ?_, ?_⟩
  · show (u8 ((a : Nat) / 65536 / 256)).toNat = _
    rw [show ((a : Nat) : Int) / 65536 / 256 = ((a / 16777216 : Nat) : Int) by omega, u8_ofN]
  · show (u8 ((a : Nat) / 65536)).toNat = _
    rw [show ((a : Nat) : Int) / 65536 = ((a / 65536 : Nat) : Int) by omega, u8_ofN]
  · show (u8 ((a : Nat) / 256)).toNat = _
    rw [show ((a : Nat) : Int) / 256 = ((a / 256 : Nat) : Int) by omega, u8_ofN]
  · show (u8 ((a : Nat) : Int)).toNat = _
    rw [u8_ofN]
/-- The text behind so many numbers. -/
def preA (a : Nat) : Nat → List UInt8
  | 0 => []
  | 1 => pc0 a
  | 2 => pc0 a ++ [46] ++ pc1 a
  | 3 => pc0 a ++ [46] ++ pc1 a ++ [46] ++ pc2 a
  | _ => pc0 a ++ [46] ++ pc1 a ++ [46] ++ pc2 a ++ [46] ++ pc3 a
theorem preA_show (a : Nat) : preA a 4 = showA a := by
  show pc0 a ++ [46] ++ pc1 a ++ [46] ++ pc2 a ++ [46] ++ pc3 a = _
  unfold showA pc0 pc1 pc2 pc3
  simp [Lib.join, List.intercalate, List.intersperse]
set_option maxHeartbeats 2000000 in
theorem addrText_spec (a : Nat) (ha : a < 4294967296) : Spec Tryz.prog 20 [.v (.int .u32 (a : Nat))] (.v (.string (mkS (showA a)))) := by
  have hlg := long_spec (a : Nat) (by omega) (by omega)
  have hlen : (lg (a : Nat)).length = 4 := lg_len _
  obtain ⟨k0, k1, k2, k3⟩ := bN_lg a
  have l0 := pc_len (a / 16777216)
  have l1 := pc_len (a / 65536)
  have l2 := pc_len (a / 256)
  have l3 := pc_len a
  change (pc0 a).length ≤ 256 at l0
  change (pc1 a).length ≤ 256 at l1
  change (pc2 a).length ≤ 256 at l2
  change (pc3 a).length ≤ 256 at l3
  have c0 : IntKind.i64.wrap ((a / 16777216 % 256 : Nat) : Int) = ((a / 16777216 % 256 : Nat) : Int) := IntWalk.i64_in _ (by omega)
  have c1 : IntKind.i64.wrap ((a / 65536 % 256 : Nat) : Int) = ((a / 65536 % 256 : Nat) : Int) := IntWalk.i64_in _ (by omega)
  have c2 : IntKind.i64.wrap ((a / 256 % 256 : Nat) : Int) = ((a / 256 % 256 : Nat) : Int) := IntWalk.i64_in _ (by omega)
  have c3 : IntKind.i64.wrap ((a % 256 : Nat) : Int) = ((a % 256 : Nat) : Int) := IntWalk.i64_in _ (by omega)
  have i0 := num_spec _ (a / 16777216 % 256) (Nat.le_refl _) (by omega)
  have i1 := num_spec _ (a / 65536 % 256) (Nat.le_refl _) (by omega)
  have i2 := num_spec _ (a / 256 % 256) (Nat.le_refl _) (by omega)
  have i3 := num_spec _ (a % 256) (Nat.le_refl _) (by omega)
  change Spec Tryz.prog _ _ (.v (.string (mkS (pc0 a)))) at i0
  change Spec Tryz.prog _ _ (.v (.string (mkS (pc1 a)))) at i1
  change Spec Tryz.prog _ _ (.v (.string (mkS (pc2 a)))) at i2
  change Spec Tryz.prog _ _ (.v (.string (mkS (pc3 a)))) at i3
  have e46 : ByteArray.mk #[46] = mkS [46] := rfl
  have em : ByteArray.mk #[] = mkS [] := rfl
  rw [← preA_show]
  generalize lg (a : Nat) = G at *
  refine hspec_fn Tryz.func20 rfl ok_custref_AddrText okr_custref_AddrText rfl (by kernel_rfl) ?_
  intro Γ hW0 hN0 hL0
  have hW := hW0 rfl
  clear hW0 hN0 hL0
  unfold x_custref_AddrText r_custref_AddrText
  with_reducible refine auC ?_
  repeat' (first
    | (with_reducible refine auS ?_)
    | (with_reducible refine runR_call hlg ?_)
    | (with_reducible refine auD ?_)
    | ((with_reducible refine auB ?_ ?_); all_goals first | (intro h; first | exact auH | simp only [h, runR_t, runR_f] | skip) | skip)
    | fail)
  refine go_loopH (α := Nat) (fun x => [(⟨.d0, .d0, .d4⟩, .v (.string (mkS (preA a x)))), (⟨.d0, .d1, .d0⟩, .v (.int .i64 (x : Nat)))]) (fun _ => []) (fun _ => Γ.g0) (fun x => 4 - x) (fun x => x ≤ 4) 0 (Nat.zero_le _) ?_ ?_
  · skip
    refine le_mk ?_ ?_ (Nat.le_refl _)
    all_goals first | with_reducible refine auE ?_ | exact auE0
    all_goals (repeat' (first | exact trivial | exact rfl | apply And.intro))
  intro i hi
  dsimp only at hi ⊢
  with_reducible refine auL ?_
  obtain rfl | hlt : i = 4 ∨ i < 4 := by omega
  · generalize preA a 4 = P
    repeat' (first
      | (with_reducible refine auS ?_)
      | fail
      | (with_reducible refine auD ?_)
      | ((with_reducible refine auB ?_ ?_); all_goals first | (intro h; first | exact auH | simp only [h, runR_t, runR_f] | skip) | skip)
      | fail)
    (all_goals first | exact auP | skip)
    all_goals with_reducible refine auF ?_
    all_goals (try first | with_reducible refine auR ?_ | exact auR0)
    all_goals (try simp only [hsM] at *)
  · have : i = 0 ∨ i = 1 ∨ i = 2 ∨ i = 3 := by omega
    rcases this with rfl | rfl | rfl | rfl
    all_goals simp only [natL]
    all_goals dsimp only [preA]
    repeat' (first
      | (with_reducible refine auS ?_)
      | (first | (simp only [e46, em, mkS_app, mkS_size, hlen, mkS_at, Int.reduceToNat, k0, k1, k2, k3, c0, c1, c2, c3]) | (with_reducible refine runR_call i0 ?_) | (with_reducible refine runR_call i1 ?_) | (with_reducible refine runR_call i2 ?_) | (with_reducible refine runR_call i3 ?_))
      | (with_reducible refine auD ?_)
      | ((with_reducible refine auB ?_ ?_); all_goals first | (intro h; first | exact auH | simp only [h, runR_t, runR_f] | skip) | skip)
      | (refine runR_n (by simp only [mkS_size, List.length_append, List.length_cons, List.length_nil]; omega) ?_))
    (all_goals first | exact auP | skip)
    · refine nx_loop ⟨1, by omega, by omega, ?_⟩
      refine le_mk ?_ ?_ (Nat.le_refl _)
      all_goals first | with_reducible refine auE ?_ | exact auE0
      all_goals (repeat' (first | exact trivial | exact rfl | apply And.intro))
    · refine nx_loop ⟨2, by omega, by omega, ?_⟩
      refine le_mk ?_ ?_ (Nat.le_refl _)
      all_goals first | with_reducible refine auE ?_ | exact auE0
      all_goals (repeat' (first | exact trivial | exact rfl | apply And.intro))
    · refine nx_loop ⟨3, by omega, by omega, ?_⟩
      refine le_mk ?_ ?_ (Nat.le_refl _)
      all_goals first | with_reducible refine auE ?_ | exact auE0
      all_goals (repeat' (first | exact trivial | exact rfl | apply And.intro))
    · refine nx_loop ⟨4, by omega, by omega, ?_⟩
      refine le_mk ?_ ?_ (Nat.le_refl _)
      all_goals first | with_reducible refine auE ?_ | exact auE0
      all_goals (repeat' (first | exact trivial | exact rfl | apply And.intro))
end Go.Proofs.YtbcamncabckbnaaGreatDoor
