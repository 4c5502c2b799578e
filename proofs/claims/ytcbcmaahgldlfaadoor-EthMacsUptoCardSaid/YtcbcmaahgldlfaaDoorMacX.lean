/-
  Addresses shown: Many, Show, a digit.
-/
import Derived.Test.YtcbcmaahgldlfaaDoorStr
import Derived.Test.YtcbcmaahgldlfaaDoorCodeM
namespace Go.Proofs.YtcbcmaahgldlfaaDoor
set_option linter.unusedVariables false
set_option linter.unusedSimpArgs false
def hexL : List UInt8 := [48, 49, 50, 51, 52, 53, 54, 55, 56, 57, 97, 98, 99, 100, 101, 102]
/-- A digit of base 16, as a byte. -/
def hxI (n : Int) : Int := byteI (mkS hexL) n.toNat
def hxB (n : Int) : UInt8 := hexL.getD n.toNat 0
theorem u8_in (n : Int) (h : 0 ≤ n ∧ n < 256) : IntKind.u8.wrap n = n := by simp [IntKind.wrap, IntKind.bits, IntKind.signed]; omega
def m6 (m : Nat → Int) : DV := .agg [.v (.int .u8 (m 0)), .v (.int .u8 (m 1)), .v (.int .u8 (m 2)), .v (.int .u8 (m 3)), .v (.int .u8 (m 4)), .v (.int .u8 (m 5))]
def m6ok (m : Nat → Int) : Prop := ∀ i, 0 ≤ m i ∧ m i < 256
def showI (m : Nat → Int) : List Int := [hxI (m 0 / 16), hxI (m 0 % 16), 58, hxI (m 1 / 16), hxI (m 1 % 16), 58, hxI (m 2 / 16), hxI (m 2 % 16), 58, hxI (m 3 / 16), hxI (m 3 % 16), 58, hxI (m 4 / 16), hxI (m 4 % 16), 58, hxI (m 5 / 16), hxI (m 5 % 16)]
def rowI (l : List Int) : List (List DV) := l.map fun x => [.v (.int .u8 x)]
theorem many_spec (m : Nat → Int) : Spec Tryd.prog 6 [m6 m] (.v (.bool (bits .and .u8 (m 0) 1 == 1))) := by
  refine hspec_fn Tryd.func6 rfl ok_eth_Many okr_eth_Many rfl (by kernel_rfl) ?_
  intro Γ hW0 hN0 hL0
  have hW := hW0 rfl
  clear hW0 hN0 hL0
  unfold x_eth_Many r_eth_Many
  refine auC ?_
  dsimp only [m6]
  repeat' (first
    | (refine auS ?_)
    | fail
    | (refine auD ?_)
    | (with_reducible refine runR_b (fun h => ?_) (fun h => ?_) <;> first | exact auH | simp only [h, runR_t, runR_f])
    | (with_reducible refine condK_bl ?_ ?_)
    | (with_reducible refine condK_b (fun h => ?_) (fun h => ?_) <;> first | exact auH | skip)
    | fail)
  (all_goals first | exact auP | skip)
  all_goals refine auF ?_
  all_goals (try first | refine auR ?_ | exact auR0)
  all_goals (try simp only [hsM] at *)
  all_goals exact congrArg (fun b => DV.v (.bool b)) (by rw [Bool.eq_iff_iff, decide_eq_true_iff, beq_iff_eq])
theorem natL : ((0 : Nat) : Int) = 0 ∧ ((1 : Nat) : Int) = 1 ∧ ((2 : Nat) : Int) = 2 ∧ ((3 : Nat) : Int) = 3 ∧ ((4 : Nat) : Int) = 4 ∧ ((5 : Nat) : Int) = 5 ∧ ((6 : Nat) : Int) = 6 := ⟨rfl, rfl, rfl, rfl, rfl, rfl, rfl⟩
/-- What digit answers. -/
def digI (b : Int) : Int := if 48 ≤ b ∧ b ≤ 57 then b - 48 else if 97 ≤ b ∧ b ≤ 102 then b - 87 else 0
def digOk (b : Int) : Bool := decide ((48 ≤ b ∧ b ≤ 57) ∨ (97 ≤ b ∧ b ≤ 102))
theorem digit_spec (b : Int) (h0 : 0 ≤ b) (h1 : b < 256) : Spec Tryd.prog 9 [.v (.int .u8 b)] (.tup [.v (.int .u8 (digI b)), .v (.bool (digOk b))]) := by
  refine hspec_fn Tryd.func9 rfl ok_eth_digit okr_eth_digit rfl (by kernel_rfl) ?_
  intro Γ hW0 hN0 hL0
  have hW := hW0 rfl
  clear hW0 hN0 hL0
  unfold x_eth_digit r_eth_digit
  refine auC ?_
  repeat' (first
    | (refine auS ?_)
    | fail
    | (refine auD ?_)
    | (with_reducible refine runR_b (fun h => ?_) (fun h => ?_) <;> first | exact auH | simp only [h, runR_t, runR_f])
    | (with_reducible refine condK_bl ?_ ?_)
    | (with_reducible refine condK_b (fun h => ?_) (fun h => ?_) <;> first | exact auH | skip)
    | fail)
  (all_goals first | exact auP | skip)
  all_goals refine auF ?_
  all_goals (try first | refine auR ?_ | exact auR0)
  all_goals (try simp only [hsM] at *)
  all_goals (unfold digI digOk)
  · rw [if_pos (by omega), decide_eq_true (by omega), u8_in _ (by omega)]
  · rw [if_neg (by omega), if_pos (by omega), decide_eq_true (by omega), u8_in (b - 97) (by omega), u8_in _ (by omega), show b - 97 + 10 = b - 87 by omega]
  all_goals rw [if_neg (by omega), if_neg (by omega), decide_eq_false (by omega)]
def hexA : ByteArray := ⟨#[48, 49, 50, 51, 52, 53, 54, 55, 56, 57, 97, 98, 99, 100, 101, 102]⟩
theorem hex_at (n : Int) : byteI { data := #[48, 49, 50, 51, 52, 53, 54, 55, 56, 57, 97, 98, 99, 100, 101, 102] } n.toNat = hxI n := rfl
theorem hex_size : ((ByteArray.mk #[48, 49, 50, 51, 52, 53, 54, 55, 56, 57, 97, 98, 99, 100, 101, 102]).size : Int) = 16 := rfl
theorem sh4 (n : Int) : n.fdiv (2 ^ min 4 IntKind.u8.bits) = n / 16 := Int.fdiv_eq_ediv_of_nonneg _ (by decide)
theorem and_fin : ∀ n : Fin 256, bits .and .u8 (n.val : Int) 15 = (n.val : Int) % 16 ∧ bits .and .u8 (n.val : Int) 1 = (n.val : Int) % 2 := by decide +kernel
theorem and15 {n : Int} (h : 0 ≤ n ∧ n < 256) : bits .and .u8 n 15 = n % 16 ∧ bits .and .u8 n 1 = n % 2 := by
  have := and_fin ⟨n.toNat, by omega⟩
  dsimp only at this
  rwa [Int.toNat_of_nonneg h.1] at this
theorem show_spec (m : Nat → Int) (hm : m6ok m) : Spec Tryd.prog 7 [m6 m] (.v (.string (strOf (rowI (showI m))))) := by
  have h0 := hm 0
  have h1 := hm 1
  have h2 := hm 2
  have h3 := hm 3
  have h4 := hm 4
  have h5 := hm 5
  refine hspec_fn Tryd.func7 rfl ok_eth_Show okr_eth_Show rfl (by kernel_rfl) ?_
  intro Γ hW0 hN0 hL0
  have hW := hW0 rfl
  clear hW0 hN0 hL0
  unfold x_eth_Show r_eth_Show
  refine auC ?_
  dsimp only [m6]
  repeat' (first
    | (refine auS ?_)
    | fail
    | (refine auD ?_)
    | (with_reducible refine runR_b (fun h => ?_) (fun h => ?_) <;> first | exact auH | simp only [h, runR_t, runR_f])
    | (with_reducible refine condK_bl ?_ ?_)
    | (with_reducible refine condK_b (fun h => ?_) (fun h => ?_) <;> first | exact auH | skip)
    | fail)
  apply go_le
  · exact le_row ⟨.d0, .d0, .d3⟩ 4 1 rfl rfl
  refine auL ?_
  refine go_loopH (α := Nat × Nat × Nat) (fun x => [(⟨.d0, .d0, .d3⟩, .sl 4 x.2.1 1 0 (3 * x.1 - 1) false), (⟨.d0, .d0, .d7⟩, .v (.int .i64 (x.1 : Nat)))]) (fun x => [(1, none), (2, none), (3, none), (4, some ⟨x.2.1, 1, rowI ((showI m).take (3 * x.1 - 1))⟩)]) (fun x => x.2.2) (fun x => 6 - x.1) (fun x => x.1 ≤ 6) (0, Γ.g0 + 1, Γ.g0 + 2) (Nat.zero_le _) ?_ ?_
  · skip
    refine le_mk ?_ ?_ (Nat.le_refl _)
    all_goals first | refine auE ?_ | exact auE0
    all_goals (repeat' (first | exact trivial | exact rfl | apply And.intro))
  rintro ⟨i, nm, gn⟩ hi
  dsimp only at hi ⊢
  refine auL ?_
  obtain rfl | hlt : i = 6 ∨ i < 6 := by omega
  · have hok : okBytes (rowI (showI m)) = true := rfl
    dsimp only [showI, List.take, rowI, List.map, Nat.reduceMul, Nat.reduceSub]
    repeat' (first
      | (refine auS ?_)
      | fail
      | (refine auD ?_)
      | (with_reducible refine runR_b (fun h => ?_) (fun h => ?_) <;> first | exact auH | simp only [h, runR_t, runR_f])
      | (with_reducible refine condK_bl ?_ ?_)
      | (with_reducible refine condK_b (fun h => ?_) (fun h => ?_) <;> first | exact auH | skip)
      | fail)
    (all_goals first | exact auP | skip)
    all_goals refine auF ?_
    all_goals (try first | refine auR ?_ | exact auR0)
    all_goals (try simp only [hsM] at *)
    all_goals rfl
  · have : i = 0 ∨ i = 1 ∨ i = 2 ∨ i = 3 ∨ i = 4 ∨ i = 5 := by omega
    rcases this with rfl | rfl | rfl | rfl | rfl | rfl
    all_goals simp only [natL]
    all_goals dsimp only [showI, List.take, rowI, List.map, Nat.reduceMul, Nat.reduceSub]
    repeat' (first
      | (refine auS ?_)
      | (simp only [sh4, hex_at, hex_size, (and15 h0).1, (and15 h1).1, (and15 h2).1, (and15 h3).1, (and15 h4).1, (and15 h5).1])
      | (refine auD ?_)
      | (with_reducible refine runR_b (fun h => ?_) (fun h => ?_) <;> first | exact auH | simp only [h, runR_t, runR_f])
      | (with_reducible refine condK_bl ?_ ?_)
      | (with_reducible refine condK_b (fun h => ?_) (fun h => ?_) <;> first | exact auH | skip)
      | fail)
    (all_goals first | exact auP | skip)
    · refine nx_loop ⟨(1, gn + 1, gn + 2), by omega, by omega, ?_⟩
      refine le_mk ?_ ?_ (Nat.le_refl _)
      all_goals first | refine auE ?_ | exact auE0
      all_goals (repeat' (first | exact trivial | exact rfl | apply And.intro))
    · refine nx_loop ⟨(2, gn + 3, gn + 4), by omega, by omega, ?_⟩
      refine le_mk ?_ ?_ (Nat.le_refl _)
      all_goals first | refine auE ?_ | exact auE0
      all_goals (repeat' (first | exact trivial | exact rfl | apply And.intro))
    · refine nx_loop ⟨(3, gn + 3, gn + 4), by omega, by omega, ?_⟩
      refine le_mk ?_ ?_ (Nat.le_refl _)
      all_goals first | refine auE ?_ | exact auE0
      all_goals (repeat' (first | exact trivial | exact rfl | apply And.intro))
    · refine nx_loop ⟨(4, gn + 3, gn + 4), by omega, by omega, ?_⟩
      refine le_mk ?_ ?_ (Nat.le_refl _)
      all_goals first | refine auE ?_ | exact auE0
      all_goals (repeat' (first | exact trivial | exact rfl | apply And.intro))
    · refine nx_loop ⟨(5, gn + 3, gn + 4), by omega, by omega, ?_⟩
      refine le_mk ?_ ?_ (Nat.le_refl _)
      all_goals first | refine auE ?_ | exact auE0
      all_goals (repeat' (first | exact trivial | exact rfl | apply And.intro))
    · refine nx_loop ⟨(6, gn + 3, gn + 4), by omega, by omega, ?_⟩
      refine le_mk ?_ ?_ (Nat.le_refl _)
      all_goals first | refine auE ?_ | exact auE0
      all_goals (repeat' (first | exact trivial | exact rfl | apply And.intro))
end Go.Proofs.YtcbcmaahgldlfaaDoor
