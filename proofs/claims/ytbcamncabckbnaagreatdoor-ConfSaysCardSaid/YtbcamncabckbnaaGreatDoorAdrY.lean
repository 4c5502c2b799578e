/-
  Addresses told: Show, AddrText.
-/
import Derived.Test.YtbcamncabckbnaaGreatDoorAdrX
import Derived.Test.YtbcamncabckbnaaGreatDoorJoinS
import Derived.Test.YtbcamncabckbnaaGreatDoorNetL
namespace Go.Proofs.YtbcamncabckbnaaGreatDoor
set_option linter.unusedVariables false
set_option linter.unusedSimpArgs false
theorem natL : ((0 : Nat) : Int) = 0 ∧ ((1 : Nat) : Int) = 1 ∧ ((2 : Nat) : Int) = 2 ∧ ((3 : Nat) : Int) = 3 ∧ ((4 : Nat) : Int) = 4 := ⟨rfl, rfl, rfl, rfl, rfl⟩
def pc0 (a : Nat) : List UInt8 := Lib.decDigits (a / 16777216 % 256)
def pc1 (a : Nat) : List UInt8 := Lib.decDigits (a / 65536 % 256)
def pc2 (a : Nat) : List UInt8 := Lib.decDigits (a / 256 % 256)
def pc3 (a : Nat) : List UInt8 := Lib.decDigits (a % 256)
def pcA (a : Nat) : List ByteArray := [mkS (pc0 a), mkS (pc1 a), mkS (pc2 a), mkS (pc3 a)]
theorem pc_len (n : Nat) : (Lib.decDigits (n % 256)).length ≤ 256 := by
  have := dec_len (n % 256)
  omega
theorem join_pcA (a : Nat) : ByteArray.mk (Lib.join ((pcA a).map (·.data.toList)) (ByteArray.mk #[46]).data.toList).toArray = mkS (showA a) := rfl
theorem join_len (a : Nat) : (Lib.join ((pcA a).map (·.data.toList)) (ByteArray.mk #[46]).data.toList).length ≤ 140737488355328 := by
  show (showA a).length ≤ _
  have h0 := pc_len (a / 16777216)
  have h1 := pc_len (a / 65536)
  have h2 := pc_len (a / 256)
  have h3 := pc_len a
  unfold showA
  simp [Lib.join, List.intercalate, List.intersperse]
  omega
theorem u32_and255' (m : Int) (h0 : 0 ≤ m) (h1 : m ≤ 4294967295) : bits .and .u32 m 255 = m % 256 := by
  go_bits2
theorem u32_and255 (n : Nat) (h : n < 4294967296) : bits .and .u32 (n : Int) 255 = ((n % 256 : Nat) : Int) := by
  rw [u32_and255' _ (by omega) (by omega)]
  omega
set_option maxHeartbeats 2000000 in
theorem show_spec (a : Nat) (ha : a < 4294967296) : Spec Tryz.prog 14 [.v (.int .u32 (a : Nat))] (.v (.string (mkS (showA a)))) := by
  have hj := join_spec (pcA a) ⟨#[46]⟩ false (by show 0 < 4; omega) (by show 4 ≤ _; omega) (join_len a)
  rw [join_pcA] at hj
  have d0 : ((a : Nat) : Int).fdiv (2 ^ min 24 IntKind.u32.bits) = ((a / 16777216 : Nat) : Int) := by rw [show min 24 IntKind.u32.bits = 24 from rfl, Int.fdiv_eq_ediv_of_nonneg _ (by decide)]; rfl
  have d1 : ((a : Nat) : Int).fdiv (2 ^ min 16 IntKind.u32.bits) = ((a / 65536 : Nat) : Int) := by rw [show min 16 IntKind.u32.bits = 16 from rfl, Int.fdiv_eq_ediv_of_nonneg _ (by decide)]; rfl
  have d2 : ((a : Nat) : Int).fdiv (2 ^ min 8 IntKind.u32.bits) = ((a / 256 : Nat) : Int) := by rw [show min 8 IntKind.u32.bits = 8 from rfl, Int.fdiv_eq_ediv_of_nonneg _ (by decide)]; rfl
  have d3 : ((a : Nat) : Int).fdiv (2 ^ min 0 IntKind.u32.bits) = ((a : Nat) : Int) := by rw [show min 0 IntKind.u32.bits = 0 from rfl, Int.fdiv_eq_ediv_of_nonneg _ (by decide)]; simp
  have b0 := u32_and255 (a / 16777216) (by omega)
  have b1 := u32_and255 (a / 65536) (by omega)
  have b2 := u32_and255 (a / 256) (by omega)
  have b3 := u32_and255 a ha
  have c0 : IntKind.i64.wrap ((a / 16777216 % 256 : Nat) : Int) = ((a / 16777216 % 256 : Nat) : Int) := IntWalk.i64_in _ (by omega)
  have c1 : IntKind.i64.wrap ((a / 65536 % 256 : Nat) : Int) = ((a / 65536 % 256 : Nat) : Int) := IntWalk.i64_in _ (by omega)
  have c2 : IntKind.i64.wrap ((a / 256 % 256 : Nat) : Int) = ((a / 256 % 256 : Nat) : Int) := IntWalk.i64_in _ (by omega)
  have c3 : IntKind.i64.wrap ((a % 256 : Nat) : Int) = ((a % 256 : Nat) : Int) := IntWalk.i64_in _ (by omega)
  have i0 := itoa_spec (a / 16777216 % 256) (by omega)
  have i1 := itoa_spec (a / 65536 % 256) (by omega)
  have i2 := itoa_spec (a / 256 % 256) (by omega)
  have i3 := itoa_spec (a % 256) (by omega)
  change Spec Tryz.prog _ _ (.v (.string (mkS (pc0 a)))) at i0
  change Spec Tryz.prog _ _ (.v (.string (mkS (pc1 a)))) at i1
  change Spec Tryz.prog _ _ (.v (.string (mkS (pc2 a)))) at i2
  change Spec Tryz.prog _ _ (.v (.string (mkS (pc3 a)))) at i3
  generalize a / 16777216 % 256 = n0 at *
  generalize a / 65536 % 256 = n1 at *
  generalize a / 256 % 256 = n2 at *
  generalize a % 256 = n3 at *
  refine hspec_fn Tryz.func14 rfl ok_ip_Show okr_ip_Show rfl (by kernel_rfl) ?_
  intro Γ hW0 hN0 hL0
  have hW := hW0 rfl
  clear hW0 hN0 hL0
  unfold x_ip_Show r_ip_Show
  with_reducible refine auC ?_
  repeat' (first
    | (with_reducible refine auS ?_)
    | fail
    | (with_reducible refine auD ?_)
    | ((with_reducible refine auB ?_ ?_); all_goals first | (intro h; first | exact auH | simp only [h, runR_t, runR_f] | skip) | skip)
    | fail)
  apply go_le
  · exact le_row ⟨.d0, .d0, .d3⟩ 1 1 rfl rfl
  with_reducible refine auL ?_
  refine go_loopH (α := Nat × Nat × Nat) (fun x => [(⟨.d0, .d0, .d3⟩, .sl 1 x.2.1 1 0 x.1 false), (⟨.d0, .d0, .d4⟩, .v (.int .i64 (24 - 8 * (x.1 : Nat))))]) (fun x => [(0, none), (1, some ⟨x.2.1, 1, rowS ((pcA a).take x.1)⟩)]) (fun x => x.2.2) (fun x => 4 - x.1) (fun x => x.1 ≤ 4) (0, Γ.g0, Γ.g0 + 1) (Nat.zero_le _) ?_ ?_
  · skip
    refine le_mk ?_ ?_ (Nat.le_refl _)
    all_goals first | with_reducible refine auE ?_ | exact auE0
    all_goals (repeat' (first | exact trivial | exact rfl | apply And.intro))
  rintro ⟨i, nm, gn⟩ hi
  dsimp only at hi ⊢
  with_reducible refine auL ?_
  obtain rfl | hlt : i = 4 ∨ i < 4 := by omega
  · have hf : frz2L ⟨nm, 1, rowS ((pcA a).take 4)⟩ [.sl 1 nm 1 0 4 false, .v (.string ⟨#[46]⟩)] [.snap 1 ((pcA a).map fun x => [.v (.string x)]) false, .v (.string ⟨#[46]⟩)] := ⟨.inl ⟨rfl, rfl, by show 0 + 4 ≤ 4; omega, rfl⟩, rfl, rfl⟩
    simp only [natL, Int.reduceMul, Int.reduceSub]
    repeat' (first
      | (with_reducible refine auS ?_)
      | (refine runR_callF 1 rfl hj hf rfl ?_)
      | (with_reducible refine auD ?_)
      | ((with_reducible refine auB ?_ ?_); all_goals first | (intro h; first | exact auH | simp only [h, runR_t, runR_f] | skip) | skip)
      | fail)
    (all_goals first | exact auP | skip)
    all_goals with_reducible refine auF ?_
    all_goals (try first | with_reducible refine auR ?_ | exact auR0)
    all_goals (try simp only [hsM] at *)
    all_goals rfl
  · have : i = 0 ∨ i = 1 ∨ i = 2 ∨ i = 3 := by omega
    rcases this with rfl | rfl | rfl | rfl
    all_goals simp only [natL, Int.reduceMul, Int.reduceSub]
    all_goals dsimp only [pcA, List.take, rowS, List.map, Nat.reduceMul, Nat.reduceSub]
    repeat' (first
      | (with_reducible refine auS ?_)
      | (first | (simp only [d0, d1, d2, d3, b0, b1, b2, b3, c0, c1, c2, c3]) | (with_reducible refine runR_call i0 ?_) | (with_reducible refine runR_call i1 ?_) | (with_reducible refine runR_call i2 ?_) | (with_reducible refine runR_call i3 ?_))
      | (with_reducible refine auD ?_)
      | ((with_reducible refine auB ?_ ?_); all_goals first | (intro h; first | exact auH | simp only [h, runR_t, runR_f] | skip) | skip)
      | fail)
    (all_goals first | exact auP | skip)
    · refine nx_loop ⟨(1, gn + 1, gn + 2), by omega, by omega, ?_⟩
      refine le_mk ?_ ?_ (Nat.le_refl _)
      all_goals first | with_reducible refine auE ?_ | exact auE0
      all_goals (repeat' (first | exact trivial | exact rfl | apply And.intro))
    · refine nx_loop ⟨(2, gn + 1, gn + 2), by omega, by omega, ?_⟩
      refine le_mk ?_ ?_ (Nat.le_refl _)
      all_goals first | with_reducible refine auE ?_ | exact auE0
      all_goals (repeat' (first | exact trivial | exact rfl | apply And.intro))
    · refine nx_loop ⟨(3, gn + 1, gn + 2), by omega, by omega, ?_⟩
      refine le_mk ?_ ?_ (Nat.le_refl _)
      all_goals first | with_reducible refine auE ?_ | exact auE0
      all_goals (repeat' (first | exact trivial | exact rfl | apply And.intro))
    · refine nx_loop ⟨(4, gn + 1, gn + 2), by omega, by omega, ?_⟩
      refine le_mk ?_ ?_ (Nat.le_refl _)
      all_goals first | with_reducible refine auE ?_ | exact auE0
      all_goals (repeat' (first | exact trivial | exact rfl | apply And.intro))
end Go.Proofs.YtbcamncabckbnaaGreatDoor
