/-
  What rules are right, in the program and in the reference (for the text of a plan).
-/
import Derived.Test.YtbcamncabckbnaaGreatDoorConfQ
import Derived.Test.YtbcamncabckbnaaGreatDoorAdrX
namespace Go.Proofs.YtbcamncabckbnaaGreatDoor
set_option linter.unusedVariables false
set_option linter.unusedSimpArgs false
theorem pow_int (k : Nat) : (2 : Int) ^ k = ((2 ^ k : Nat) : Int) := by simp
/-- The bits of an address, the uppermost first. -/
def bitsL (a n : Nat) : List UInt8 := (List.range n).map (fun i => UInt8.ofNat (48 + a / 2 ^ (31 - i) % 2))
theorem bitsL_len (a n : Nat) : (bitsL a n).length = n := by simp [bitsL]
theorem bitsL_succ (a n : Nat) : bitsL a (n + 1) = bitsL a n ++ [UInt8.ofNat (48 + a / 2 ^ (31 - n) % 2)] := by simp [bitsL, List.range_succ]
theorem bitsOf_spec (a : Nat) (ha : a < 4294967296) : Spec Tryz.prog 87 [.v (.int .u32 (a : Nat)), .v (.int .i64 32)] (.v (.string (mkS (bitsL a 32)))) := by
  have e1 : IntKind.i64.wrap (a : Int) = (a : Int) := IntWalk.i64_in _ (by omega)
  refine hspec_fn Tryz.func87 rfl ok_custref_BitsOf okr_custref_BitsOf rfl (by kernel_rfl) ?_
  intro Γ hW0 hN0 hL0
  have hW := hW0 rfl
  clear hW0 hN0 hL0
  unfold x_custref_BitsOf r_custref_BitsOf
  with_reducible refine auC ?_
  repeat' (first
    | (with_reducible refine auS ?_)
    | fail
    | (with_reducible refine auD ?_)
    | ((with_reducible refine auB ?_ ?_); all_goals first | (intro h; first | exact auH | simp only [h, runR_t, runR_f] | skip) | skip)
    | fail)
  refine go_loopH (α := Nat) (fun i => [(⟨.d0, .d0, .d5⟩, .v (.string (mkS (bitsL a i)))), (⟨.d0, .d1, .d0⟩, .v (.int .i64 (i : Nat)))]) (fun _ => []) (fun _ => Γ.g0) (fun i => 32 - i) (fun i => i ≤ 32) 0 (Nat.zero_le _) ?_ ?_
  · skip
    refine le_mk ?_ ?_ (Nat.le_refl _)
    all_goals first | with_reducible refine auE ?_ | exact auE0
    all_goals (repeat' (first | exact trivial | exact rfl | apply And.intro))
  intro i hi
  dsimp only at hi ⊢
  with_reducible refine auL ?_
  by_cases hlt : i < 32
  · have hp : 2 ^ (31 - i) ≤ 2 ^ 31 := Nat.pow_le_pow_right (by decide) (by omega)
    have hp0 : 0 < 2 ^ (31 - i) := Nat.two_pow_pos _
    have e2 : IntKind.i64.wrap (31 - (i : Int)) = ((31 - i : Nat) : Int) := by rw [IntWalk.i64_in _ (by omega)]; omega
    have e3 : min (31 - i) IntKind.i64.bits = 31 - i := Nat.min_eq_left (by show 31 - i ≤ 64; omega)
    have e4 : IntKind.i64.wrap (1 * 2 ^ (31 - i)) = ((2 ^ (31 - i) : Nat) : Int) := by rw [Int.one_mul, pow_int]; exact IntWalk.i64_in _ (by omega)
    have e5 : ((2 ^ (31 - i) : Nat) : Int) ≠ 0 := by omega
    have e6 : IntKind.i64.wrap ((a : Int).tdiv ((2 ^ (31 - i) : Nat) : Int)) = ((a / 2 ^ (31 - i) : Nat) : Int) := by
      rw [← Int.ofNat_tdiv]
      have hq := Nat.div_le_self a (2 ^ (31 - i))
      revert hq
      generalize a / 2 ^ (31 - i) = q
      intro hq
      exact IntWalk.i64_in _ (by omega)
    have e7 : ((a / 2 ^ (31 - i) : Nat) : Int).tmod 2 = ((a / 2 ^ (31 - i) % 2 : Nat) : Int) := (Int.ofNat_tmod _ 2).symm
    have hn := num_spec _ (a / 2 ^ (31 - i) % 2) (Nat.le_refl _) (by omega)
    rw [Lib.decDigits_one (by omega)] at hn
    have hlen := bitsL_len a i
    repeat' (first
      | (with_reducible refine auS ?_)
      | (first | (simp only [e1, e2, e3, e4, e6, e7, mkS_app, Int.toNat_natCast]) | (refine runR_n e5 ?_) | (with_reducible refine runR_call hn ?_))
      | (with_reducible refine auD ?_)
      | ((with_reducible refine auB ?_ ?_); all_goals first | (intro h; first | exact auH | simp only [h, runR_t, runR_f] | skip) | skip)
      | (first | (refine runR_n (by simp only [mkS_size, hlen, List.length_singleton]; omega) ?_) | fail))
    (all_goals first | exact auP | skip)
    refine nx_loop ⟨i + 1, hlt, by omega, ?_⟩
    refine le_mk ?_ ?_ (Nat.le_refl _)
    all_goals first | with_reducible refine auE ?_ | exact auE0
    all_goals (repeat' (first | exact trivial | exact rfl | apply And.intro))
    all_goals first
      | exact dint ((IntWalk.i64_in _ (by omega)).trans (by omega))
      | rw [bitsL_succ]
  · obtain rfl : i = 32 := by omega
    repeat' (first
      | (with_reducible refine auS ?_)
      | fail
      | (with_reducible refine auD ?_)
      | ((with_reducible refine auB ?_ ?_); all_goals first | (intro h; first | exact auH | simp only [h, runR_t, runR_f] | skip) | skip)
      | fail)
    (all_goals first | exact auP | skip)
    all_goals with_reducible refine auF ?_
    all_goals (try first | with_reducible refine auR ?_ | exact auR0)
    all_goals (try simp only [hsM] at *)
theorem ib_mem (c : UInt8) : ∀ l : List UInt8, 0 ≤ Lib.indexByte l c ↔ c ∈ l
  | [] => by simp [Lib.indexByte]
  | b :: l => by
    have ih := ib_mem c l
    have hge := Lib.indexByte_ge l c
    unfold Lib.indexByte
    by_cases hb : b = c
    · simp [hb]
    · have hb' : (b == c) = false := by simpa using hb
      have hc : ¬ c = b := fun q => hb q.symm
      rw [hb', List.mem_cons]
      simp only [Bool.false_eq_true, if_false]
      by_cases hm : Lib.indexByte l c = -1
      · simp [hm, hc]
        rw [hm] at ih
        intro q
        have := ih.2 q
        omega
      · have : (Lib.indexByte l c == -1) = false := by simpa using hm
        rw [this]
        simp only [Bool.false_eq_true, if_false]
        constructor
        · intro q; exact .inr (ih.1 (by omega))
        · intro q
          rcases q with q | q
          · exact absurd q hc
          · have := ih.2 q; omega
theorem s49 : (ByteArray.mk #[49] : ByteArray) = mkS [49] := rfl
theorem contains_spec (l : List UInt8) : Spec Tryz.prog 30 [.v (.string (mkS l)), .v (.string (mkS [49]))] (.v (.bool (decide ((49 : UInt8) ∈ l)))) := by
  have h1 := index_spec 49 l
  have h2 := ib_mem 49 l
  refine hspec_fn Tryz.func30 rfl ok_strings_Contains okr_strings_Contains rfl (by kernel_rfl) ?_
  intro Γ hW0 hN0 hL0
  have hW := hW0 rfl
  clear hW0 hN0 hL0
  unfold x_strings_Contains r_strings_Contains
  with_reducible refine auC ?_
  repeat' (first
    | (with_reducible refine auS ?_)
    | (with_reducible refine runR_call h1 ?_)
    | (with_reducible refine auD ?_)
    | ((with_reducible refine auB ?_ ?_); all_goals first | (intro h; first | exact auH | simp only [h, runR_t, runR_f] | skip) | skip)
    | fail)
  (all_goals first | exact auP | skip)
  all_goals with_reducible refine auF ?_
  all_goals (try first | with_reducible refine auR ?_ | exact auR0)
  all_goals (try simp only [hsM] at *)
  all_goals exact dbool (decide_eq_decide.2 h2)
theorem bit_49 (a i : Nat) : UInt8.ofNat (48 + a / 2 ^ (31 - i) % 2) = 49 ↔ a.testBit (31 - i) = true := by
  rw [Nat.testBit_eq_decide_div_mod_eq]
  rcases Nat.mod_two_eq_zero_or_one (a / 2 ^ (31 - i)) with h | h
  · rw [h]; decide
  · rw [h]; decide
theorem ones (a l : Nat) (hl : l ≤ 32) : ((49 : UInt8) ∈ (bitsL a 32).drop l) ↔ ¬ a % 2 ^ (32 - l) = 0 := by
  constructor
  · intro hm h0
    obtain ⟨j, hj⟩ := List.mem_iff_getElem?.1 hm
    rw [List.getElem?_drop] at hj
    unfold bitsL at hj
    rw [List.getElem?_map] at hj
    cases hr : (List.range 32)[l + j]? with
    | none => rw [hr] at hj; cases hj
    | some q =>
      rw [hr] at hj
      have hq := List.getElem?_eq_some_iff.1 hr
      have h1 : q = l + j := by have := hq.2; simpa using this.symm
      have h2 : l + j < 32 := by have := hq.1; simpa using this
      subst h1
      have hb := (bit_49 a (l + j)).1 (Option.some.inj hj)
      have h3 := Nat.testBit_mod_two_pow a (32 - l) (31 - (l + j))
      rw [h0, hb, decide_eq_true (by omega : 31 - (l + j) < 32 - l)] at h3
      simp at h3
  · intro h0
    apply Decidable.byContradiction
    intro hm
    apply h0
    apply Nat.eq_of_testBit_eq
    intro j
    rw [Nat.testBit_mod_two_pow, Nat.zero_testBit]
    by_cases hj : j < 32 - l
    · rw [decide_eq_true hj, Bool.true_and]
      cases hb : a.testBit j with
      | false => rfl
      | true =>
        exfalso
        apply hm
        refine List.mem_iff_getElem?.2 ⟨31 - j - l, ?_⟩
        have h4 : l + (31 - j - l) = 31 - j := by omega
        rw [List.getElem?_drop, h4]
        unfold bitsL
        rw [List.getElem?_map, List.getElem?_range (by omega)]
        have h5 : 31 - (31 - j) = j := by omega
        have := (bit_49 a (31 - j)).2 (by rw [h5]; exact hb)
        simp only [Option.map_some]
        rw [this]
    · rw [decide_eq_false hj, Bool.false_and]
def isNet (a l : Int) : Bool := decide (0 ≤ l ∧ l ≤ 32) && decide (a.toNat % 2 ^ (32 - l.toNat) = 0)
abbrev dNt (a l : Int) : DV := .agg [.v (.int .u32 a), .v (.int .i64 l)]
theorem isNet_spec (a l : Int) (ha : 0 ≤ a ∧ a < 4294967296) : Spec Tryz.prog 71 [dNt a l] (.v (.bool (isNet a l))) := by
  obtain ⟨A, rfl⟩ := Int.eq_ofNat_of_zero_le ha.1
  unfold isNet
  by_cases hl : 0 ≤ l ∧ l ≤ 32
  · obtain ⟨L, rfl⟩ := Int.eq_ofNat_of_zero_le hl.1
    have h1 := bitsOf_spec A (by omega)
    have h2 := contains_spec ((bitsL A 32).drop L)
    have h3 := ones A L (by omega)
    have hlen := bitsL_len A 32
    have x1 : (mkS (bitsL A 32)).extract L 32 = mkS ((bitsL A 32).drop L) := by rw [mkS_ext, List.take_of_length_le (by rw [List.length_drop, hlen]; omega)]
    have hd : decide ((49 : UInt8) ∈ (bitsL A 32).drop L) = !decide (A % 2 ^ (32 - L) = 0) := by
      rw [decide_eq_decide.2 h3, decide_not]
    rw [hd] at h2
    rw [decide_eq_true hl, Int.toNat_natCast, Int.toNat_natCast, Bool.true_and]
    refine hspec_fn Tryz.func71 rfl ok_custref_IsNet okr_custref_IsNet rfl (by kernel_rfl) ?_
    intro Γ hW0 hN0 hL0
    have hW := hW0 rfl
    clear hW0 hN0 hL0
    unfold x_custref_IsNet r_custref_IsNet
    with_reducible refine auC ?_
    repeat' (first
      | (with_reducible refine auS ?_)
      | (first | (simp only [mkS_size, hlen, s49, x1, Int.toNat_natCast]) | (with_reducible refine runR_call h1 ?_) | (with_reducible refine runR_call h2 ?_) | (with_reducible refine runR_call (between_spec _ _ _) ?_))
      | (with_reducible refine auD ?_)
      | ((with_reducible refine auB ?_ ?_); all_goals first | (intro h; first | exact auH | simp only [h, runR_t, runR_f] | skip) | skip)
      | (first | (refine runR_n (by simp only [mkS_size, hlen]; omega) ?_) | fail))
    (all_goals first | exact auP | skip)
    all_goals with_reducible refine auF ?_
    all_goals (try first | with_reducible refine auR ?_ | exact auR0)
    all_goals (try simp only [hsM] at *)
    all_goals (refine dbool ?_; first | simp | simp_all)
  · rw [decide_eq_false hl, Bool.false_and]
    refine hspec_fn Tryz.func71 rfl ok_custref_IsNet okr_custref_IsNet rfl (by kernel_rfl) ?_
    intro Γ hW0 hN0 hL0
    have hW := hW0 rfl
    clear hW0 hN0 hL0
    unfold x_custref_IsNet r_custref_IsNet
    with_reducible refine auC ?_
    repeat' (first
      | (with_reducible refine auS ?_)
      | (with_reducible refine runR_call (between_spec _ _ _) ?_)
      | (with_reducible refine auD ?_)
      | ((with_reducible refine auB ?_ ?_); all_goals first | (intro h; first | exact auH | simp only [h, runR_t, runR_f] | skip) | skip)
      | fail)
    (all_goals first | exact auP | skip)
    all_goals with_reducible refine auF ?_
    all_goals (try first | with_reducible refine auR ?_ | exact auR0)
    all_goals (try simp only [hsM] at *)
theorem shl_zero (A L : Nat) (hL : L ≤ 32) : (A * 2 ^ L) % 4294967296 = 0 ↔ A % 2 ^ (32 - L) = 0 := by
  have h : 4294967296 = 2 ^ (32 - L) * 2 ^ L := by rw [← Nat.pow_add, show 32 - L + L = 32 by omega]
  rw [h, Nat.mul_mod_mul_right]
  have := Nat.two_pow_pos L
  constructor
  · intro q
    rcases Nat.mul_eq_zero.1 q with q | q
    · exact q
    · omega
  · intro q; rw [q, Nat.zero_mul]
theorem net_spec (a l : Int) (ha : 0 ≤ a ∧ a < 4294967296) : Spec Tryz.prog 69 [dNt a l] (.v (.bool (isNet a l))) := by
  obtain ⟨A, rfl⟩ := Int.eq_ofNat_of_zero_le ha.1
  unfold isNet
  by_cases hl : 0 ≤ l ∧ l ≤ 32
  · obtain ⟨L, rfl⟩ := Int.eq_ofNat_of_zero_le hl.1
    have e1 : min L IntKind.u32.bits = L := Nat.min_eq_left (by show L ≤ 32; omega)
    have e2 : IntKind.u32.wrap ((A : Int) * 2 ^ L) = ((A * 2 ^ L % 4294967296 : Nat) : Int) := by rw [IntKind.wrap_u32, pow_int]; simp
    have h3 := shl_zero A L (by omega)
    have h4 : decide (((A * 2 ^ L % 4294967296 : Nat) : Int) = 0) = decide (A % 2 ^ (32 - L) = 0) := decide_eq_decide.2 ⟨fun q => h3.1 (by omega), fun q => by rw [h3.2 q]; rfl⟩
    rw [decide_eq_true hl, Int.toNat_natCast, Int.toNat_natCast, Bool.true_and]
    refine hspec_fn Tryz.func69 rfl ok_rules_net okr_rules_net rfl (by kernel_rfl) ?_
    intro Γ hW0 hN0 hL0
    have hW := hW0 rfl
    clear hW0 hN0 hL0
    unfold x_rules_net r_rules_net
    with_reducible refine auC ?_
    repeat' (first
      | (with_reducible refine auS ?_)
      | (simp only [Int.toNat_natCast, e1, e2, h4])
      | (with_reducible refine auD ?_)
      | ((with_reducible refine auB ?_ ?_); all_goals first | (intro h; first | exact auH | simp only [h, runR_t, runR_f] | skip) | skip)
      | fail)
    (all_goals first | exact auP | skip)
    all_goals with_reducible refine auF ?_
    all_goals (try first | with_reducible refine auR ?_ | exact auR0)
    all_goals (try simp only [hsM] at *)
  · rw [decide_eq_false hl, Bool.false_and]
    refine hspec_fn Tryz.func69 rfl ok_rules_net okr_rules_net rfl (by kernel_rfl) ?_
    intro Γ hW0 hN0 hL0
    have hW := hW0 rfl
    clear hW0 hN0 hL0
    unfold x_rules_net r_rules_net
    with_reducible refine auC ?_
    repeat' (first
      | (with_reducible refine auS ?_)
      | fail
      | (with_reducible refine auD ?_)
      | ((with_reducible refine auB ?_ ?_); all_goals first | (intro h; first | exact auH | simp only [h, runR_t, runR_f] | skip) | skip)
      | fail)
    (all_goals first | exact auP | skip)
    all_goals with_reducible refine auF ?_
    all_goals (try first | with_reducible refine auR ?_ | exact auR0)
    all_goals (try simp only [hsM] at *)
abbrev Rl.enc (r : Rl) : List DV := [.v (.int .u32 r.fa), .v (.int .i64 r.fl), .v (.int .u32 r.ta), .v (.int .i64 r.tl), .v (.int .i64 r.pr), .v (.int .i64 r.fp), .v (.int .i64 r.fq), .v (.int .i64 r.tp), .v (.int .i64 r.tq), .v (.bool r.ps)]
abbrev dRl (r : Rl) : DV := .agg r.enc
def Rl.wf (r : Rl) : Prop := (0 ≤ r.fa ∧ r.fa < 4294967296) ∧ (0 ≤ r.ta ∧ r.ta < 4294967296)
def bnds (a b : Int) : Bool := decide (0 ≤ a ∧ a ≤ b ∧ b ≤ 65535)
theorem bounds_spec (a b : Int) : Spec Tryz.prog 70 [.v (.int .i64 a), .v (.int .i64 b)] (.v (.bool (bnds a b))) := by
  unfold bnds
  refine hspec_fn Tryz.func70 rfl ok_rules_bounds okr_rules_bounds rfl (by kernel_rfl) ?_
  intro Γ hW0 hN0 hL0
  have hW := hW0 rfl
  clear hW0 hN0 hL0
  unfold x_rules_bounds r_rules_bounds
  with_reducible refine auC ?_
  repeat' (first
    | (with_reducible refine auS ?_)
    | fail
    | (with_reducible refine auD ?_)
    | ((with_reducible refine auB ?_ ?_); all_goals first | (intro h; first | exact auH | simp only [h, runR_t, runR_f] | skip) | skip)
    | fail)
  (all_goals first | exact auP | skip)
  all_goals with_reducible refine auF ?_
  all_goals (try first | with_reducible refine auR ?_ | exact auR0)
  all_goals (try simp only [hsM] at *)
  all_goals (refine dbool ?_; first | (simp_all; done) | (simp_all; omega) | (simp_all [decide_eq_decide]; omega) | (simp_all; rw [Bool.eq_iff_iff]; simp; omega))
def rOk (r : Rl) : Bool := isNet r.fa r.fl && (isNet r.ta r.tl && (decide (0 ≤ r.pr ∧ r.pr ≤ 255) && (bnds r.fp r.fq && bnds r.tp r.tq)))
theorem isNet_bd {a l : Int} (h : isNet a l = true) : 0 ≤ l ∧ l ≤ 32 := by
  unfold isNet at h
  simp only [Bool.and_eq_true, decide_eq_true_eq] at h
  exact h.1
theorem rOk_facts {r : Rl} (h : rOk r = true) : (isNet r.fa r.fl = true ∧ isNet r.ta r.tl = true) ∧ (0 ≤ r.pr ∧ r.pr ≤ 255) ∧ (0 ≤ r.fp ∧ r.fp ≤ r.fq ∧ r.fq ≤ 65535) ∧ (0 ≤ r.tp ∧ r.tp ≤ r.tq ∧ r.tq ≤ 65535) := by
  unfold rOk bnds at h
  simp only [Bool.and_eq_true, decide_eq_true_eq] at h
  exact ⟨⟨h.1, h.2.1⟩, h.2.2.1, h.2.2.2.1, h.2.2.2.2⟩
theorem right_spec (r : Rl) (hr : r.wf) : Spec Tryz.prog 56 [dRl r] (.v (.bool (rOk r))) := by
  have h1 := net_spec r.fa r.fl hr.1
  have h2 := net_spec r.ta r.tl hr.2
  have h3 := bounds_spec r.fp r.fq
  have h4 := bounds_spec r.tp r.tq
  unfold rOk
  generalize isNet r.fa r.fl = b1 at *
  generalize isNet r.ta r.tl = b2 at *
  generalize bnds r.fp r.fq = b3 at *
  generalize bnds r.tp r.tq = b4 at *
  refine hspec_fn Tryz.func56 rfl ok_rules_right okr_rules_right rfl (by kernel_rfl) ?_
  intro Γ hW0 hN0 hL0
  have hW := hW0 rfl
  clear hW0 hN0 hL0
  unfold x_rules_right r_rules_right
  with_reducible refine auC ?_
  repeat' (first
    | (with_reducible refine auS ?_)
    | (first | (with_reducible refine runR_call h1 ?_) | (with_reducible refine runR_call h2 ?_) | (with_reducible refine runR_call h3 ?_) | (with_reducible refine runR_call h4 ?_))
    | (with_reducible refine auD ?_)
    | ((with_reducible refine auB ?_ ?_); all_goals first | (intro h; first | exact auH | simp only [h, runR_t, runR_f] | skip) | skip)
    | fail)
  (all_goals first | exact auP | skip)
  all_goals with_reducible refine auF ?_
  all_goals (try first | with_reducible refine auR ?_ | exact auR0)
  all_goals (try simp only [hsM] at *)
  all_goals (refine dbool ?_; first | (simp_all; done) | (simp_all; omega) | (simp_all [decide_eq_decide]; omega) | (simp_all; rw [Bool.eq_iff_iff]; simp; omega))
theorem ruleRight_spec (r : Rl) (hr : r.wf) : Spec Tryz.prog 57 [dRl r] (.v (.bool (rOk r))) := by
  have h1 := isNet_spec r.fa r.fl hr.1
  have h2 := isNet_spec r.ta r.tl hr.2
  unfold rOk bnds
  generalize isNet r.fa r.fl = b1 at *
  generalize isNet r.ta r.tl = b2 at *
  refine hspec_fn Tryz.func57 rfl ok_custref_RuleRight okr_custref_RuleRight rfl (by kernel_rfl) ?_
  intro Γ hW0 hN0 hL0
  have hW := hW0 rfl
  clear hW0 hN0 hL0
  unfold x_custref_RuleRight r_custref_RuleRight
  with_reducible refine auC ?_
  repeat' (first
    | (with_reducible refine auS ?_)
    | (first | (with_reducible refine runR_call h1 ?_) | (with_reducible refine runR_call h2 ?_) | (with_reducible refine runR_call (between_spec _ _ _) ?_))
    | (with_reducible refine auD ?_)
    | ((with_reducible refine auB ?_ ?_); all_goals first | (intro h; first | exact auH | simp only [h, runR_t, runR_f] | skip) | skip)
    | fail)
  (all_goals first | exact auP | skip)
  all_goals with_reducible refine auF ?_
  all_goals (try first | with_reducible refine auR ?_ | exact auR0)
  all_goals (try simp only [hsM] at *)
  all_goals (refine dbool ?_; first | (simp_all; done) | (simp_all; omega) | (simp_all [decide_eq_decide]; omega) | (simp_all; rw [Bool.eq_iff_iff]; simp; omega))
def rErr (l : List Rl) : Int := if 64 < l.length then 2 else if l.all rOk then 0 else 4
theorem rErr_ok {l : List Rl} (h : rErr l = 0) : l.length ≤ 64 ∧ ∀ r ∈ l, rOk r = true := by
  unfold rErr at h
  split at h
  · cases h
  · split at h
    · rename_i h1 h2
      exact ⟨by omega, fun r hr => List.all_eq_true.1 h2 r hr⟩
    · cases h
theorem xget_rl {l : List Rl} {k : Nat} {t : Rl} (ht : l[k]? = some t) : xget (l.map Rl.enc) k = t.enc := xget_map Rl.enc l k t ht
set_option maxHeartbeats 1000000 in
theorem check_spec (l : List Rl) (c : Bool) (hl : l.length ≤ maxLen) (hw : ∀ r ∈ l, r.wf) : Spec Tryz.prog 32 [.snap 10 (l.map Rl.enc) c] (.v (.int .i64 (rErr l))) := by
  unfold maxLen at hl
  by_cases h64 : 64 < l.length
  · have he : rErr l = 2 := by unfold rErr; rw [if_pos h64]
    rw [he]
    refine hspec_fn Tryz.func32 rfl ok_rules_Check okr_rules_Check rfl (by kernel_rfl) ?_
    intro Γ hW0 hN0 hL0
    have hW := hW0 rfl
    clear hW0 hN0 hL0
    unfold x_rules_Check r_rules_Check
    with_reducible refine auC ?_
    repeat' (first
      | (with_reducible refine auS ?_)
      | fail
      | (with_reducible refine auD ?_)
      | ((with_reducible refine auB ?_ ?_); all_goals first | (intro h; first | exact auH | simp only [h, runR_t, runR_f] | skip) | skip)
      | (simp only [List.length_map]))
    (all_goals first | exact auP | skip)
    all_goals with_reducible refine auF ?_
    all_goals (try first | with_reducible refine auR ?_ | exact auR0)
    all_goals (try simp only [hsM] at *)
  have he : rErr l = if l.all rOk then 0 else 4 := by unfold rErr; rw [if_neg h64]
  rw [he]
  clear he
  refine hspec_fn Tryz.func32 rfl ok_rules_Check okr_rules_Check rfl (by kernel_rfl) ?_
  intro Γ hW0 hN0 hL0
  have hW := hW0 rfl
  clear hW0 hN0 hL0
  unfold x_rules_Check r_rules_Check
  with_reducible refine auC ?_
  repeat' (first
    | (with_reducible refine auS ?_)
    | fail
    | (with_reducible refine auD ?_)
    | ((with_reducible refine auB ?_ ?_); all_goals first | (intro h; first | exact auH | simp only [h, runR_t, runR_f] | skip) | skip)
    | (simp only [List.length_map]))
  (all_goals first | exact auP | skip)
  refine go_loopH (α := Nat × Nat) (fun x => [(⟨.d0, .d1, .d2⟩, .v (.int .i64 (x.1 : Nat)))]) (fun _ => [(0, none)]) (fun x => x.2) (fun x => l.length - x.1) (fun x => x.1 ≤ l.length ∧ ∀ y ∈ l.take x.1, rOk y = true) (0, Γ.g0) ⟨Nat.zero_le _, fun y hy => by simp at hy⟩ ?_ ?_
  · skip
    refine le_mk ?_ ?_ (Nat.le_refl _)
    all_goals first | with_reducible refine auE ?_ | exact auE0
    all_goals (repeat' (first | exact trivial | exact rfl | apply And.intro))
  rintro ⟨k, gn⟩ ⟨hk, hp⟩
  dsimp only at hk hp ⊢
  with_reducible refine auL ?_
  by_cases hlt : k < l.length
  · obtain ⟨t, ht⟩ : ∃ t, l[k]? = some t := ⟨_, List.getElem?_eq_getElem hlt⟩
    have ex := xget_rl ht
    have hmem := List.mem_of_getElem? ht
    have hr := right_spec t (hw t hmem)
    cases hq : rOk t with
    | false =>
      rw [hq] at hr
      have hbad : l.all rOk = false := by
        cases ha : l.all rOk with
        | false => rfl
        | true => rw [List.all_eq_true.1 ha t hmem] at hq; cases hq
      rw [hbad]
      repeat' (first
        | (with_reducible refine auS ?_)
        | (with_reducible refine runR_call hr ?_)
        | (with_reducible refine auD ?_)
        | ((with_reducible refine auB ?_ ?_); all_goals first | (intro h; first | exact auH | simp only [h, runR_t, runR_f] | skip) | skip)
        | (simp only [Int.toNat_natCast, ex, List.length_map]))
      (all_goals first | exact auP | skip)
      all_goals first
        | (exfalso; simp_all; done)
        | skip
      all_goals with_reducible refine auF ?_
      all_goals (try first | with_reducible refine auR ?_ | exact auR0)
      all_goals (try simp only [hsM] at *)
      all_goals rfl
    | true =>
      rw [hq] at hr
      repeat' (first
        | (with_reducible refine auS ?_)
        | (with_reducible refine runR_call hr ?_)
        | (with_reducible refine auD ?_)
        | ((with_reducible refine auB ?_ ?_); all_goals first | (intro h; first | exact auH | simp only [h, runR_t, runR_f] | skip) | skip)
        | (simp only [Int.toNat_natCast, ex, List.length_map]))
      (all_goals first | exact auP | skip)
      all_goals first
        | (exfalso; simp_all; done)
        | skip
      refine nx_loop ⟨(k + 1, gn + 1), ⟨hlt, fun y hy => ?_⟩, Nat.sub_lt_sub_left hlt (Nat.lt_succ_self k), ?_⟩
      · rw [take_snoc ht] at hy
        rcases List.mem_append.1 hy with hy | hy
        · exact hp y hy
        · simp at hy; rw [hy]; exact hq
      refine le_mk ?_ ?_ (Nat.le_refl _)
      all_goals first | with_reducible refine auE ?_ | exact auE0
      all_goals (repeat' (first | exact trivial | exact rfl | apply And.intro))
      all_goals exact dint ((IntWalk.i64_in _ (by omega)).trans (by omega))
  · obtain rfl : k = l.length := by omega
    rw [List.take_length] at hp
    have hall : l.all rOk = true := List.all_eq_true.2 hp
    rw [hall]
    repeat' (first
      | (with_reducible refine auS ?_)
      | fail
      | (with_reducible refine auD ?_)
      | ((with_reducible refine auB ?_ ?_); all_goals first | (intro h; first | exact auH | simp only [h, runR_t, runR_f] | skip) | skip)
      | (simp only [List.length_map]))
    (all_goals first | exact auP | skip)
    all_goals with_reducible refine auF ?_
    all_goals (try first | with_reducible refine auR ?_ | exact auR0)
    all_goals (try simp only [hsM] at *)
    all_goals rfl
set_option maxHeartbeats 1000000 in
theorem rulesRight_spec (l : List Rl) (c : Bool) (hl : l.length ≤ maxLen) (hw : ∀ r ∈ l, r.wf) : Spec Tryz.prog 35 [.snap 10 (l.map Rl.enc) c] (.v (.int .i64 (rErr l))) := by
  unfold maxLen at hl
  by_cases h64 : 64 < l.length
  · have he : rErr l = 2 := by unfold rErr; rw [if_pos h64]
    rw [he]
    refine hspec_fn Tryz.func35 rfl ok_custref_RulesRight okr_custref_RulesRight rfl (by kernel_rfl) ?_
    intro Γ hW0 hN0 hL0
    have hW := hW0 rfl
    clear hW0 hN0 hL0
    unfold x_custref_RulesRight r_custref_RulesRight
    with_reducible refine auC ?_
    repeat' (first
      | (with_reducible refine auS ?_)
      | fail
      | (with_reducible refine auD ?_)
      | ((with_reducible refine auB ?_ ?_); all_goals first | (intro h; first | exact auH | simp only [h, runR_t, runR_f] | skip) | skip)
      | (simp only [List.length_map]))
    (all_goals first | exact auP | skip)
    all_goals with_reducible refine auF ?_
    all_goals (try first | with_reducible refine auR ?_ | exact auR0)
    all_goals (try simp only [hsM] at *)
  have he : rErr l = if l.all rOk then 0 else 4 := by unfold rErr; rw [if_neg h64]
  rw [he]
  clear he
  refine hspec_fn Tryz.func35 rfl ok_custref_RulesRight okr_custref_RulesRight rfl (by kernel_rfl) ?_
  intro Γ hW0 hN0 hL0
  have hW := hW0 rfl
  clear hW0 hN0 hL0
  unfold x_custref_RulesRight r_custref_RulesRight
  with_reducible refine auC ?_
  repeat' (first
    | (with_reducible refine auS ?_)
    | fail
    | (with_reducible refine auD ?_)
    | ((with_reducible refine auB ?_ ?_); all_goals first | (intro h; first | exact auH | simp only [h, runR_t, runR_f] | skip) | skip)
    | (simp only [List.length_map]))
  (all_goals first | exact auP | skip)
  refine go_loopH (α := Nat × Nat) (fun x => [(⟨.d0, .d1, .d2⟩, .v (.int .i64 (x.1 : Nat)))]) (fun _ => [(0, none)]) (fun x => x.2) (fun x => l.length - x.1) (fun x => x.1 ≤ l.length ∧ ∀ y ∈ l.take x.1, rOk y = true) (0, Γ.g0) ⟨Nat.zero_le _, fun y hy => by simp at hy⟩ ?_ ?_
  · skip
    refine le_mk ?_ ?_ (Nat.le_refl _)
    all_goals first | with_reducible refine auE ?_ | exact auE0
    all_goals (repeat' (first | exact trivial | exact rfl | apply And.intro))
  rintro ⟨k, gn⟩ ⟨hk, hp⟩
  dsimp only at hk hp ⊢
  with_reducible refine auL ?_
  by_cases hlt : k < l.length
  · obtain ⟨t, ht⟩ : ∃ t, l[k]? = some t := ⟨_, List.getElem?_eq_getElem hlt⟩
    have ex := xget_rl ht
    have hmem := List.mem_of_getElem? ht
    have hr := ruleRight_spec t (hw t hmem)
    cases hq : rOk t with
    | false =>
      rw [hq] at hr
      have hbad : l.all rOk = false := by
        cases ha : l.all rOk with
        | false => rfl
        | true => rw [List.all_eq_true.1 ha t hmem] at hq; cases hq
      rw [hbad]
      repeat' (first
        | (with_reducible refine auS ?_)
        | (with_reducible refine runR_call hr ?_)
        | (with_reducible refine auD ?_)
        | ((with_reducible refine auB ?_ ?_); all_goals first | (intro h; first | exact auH | simp only [h, runR_t, runR_f] | skip) | skip)
        | (simp only [Int.toNat_natCast, ex, List.length_map]))
      (all_goals first | exact auP | skip)
      all_goals first
        | (exfalso; simp_all; done)
        | skip
      all_goals with_reducible refine auF ?_
      all_goals (try first | with_reducible refine auR ?_ | exact auR0)
      all_goals (try simp only [hsM] at *)
      all_goals rfl
    | true =>
      rw [hq] at hr
      repeat' (first
        | (with_reducible refine auS ?_)
        | (with_reducible refine runR_call hr ?_)
        | (with_reducible refine auD ?_)
        | ((with_reducible refine auB ?_ ?_); all_goals first | (intro h; first | exact auH | simp only [h, runR_t, runR_f] | skip) | skip)
        | (simp only [Int.toNat_natCast, ex, List.length_map]))
      (all_goals first | exact auP | skip)
      all_goals first
        | (exfalso; simp_all; done)
        | skip
      refine nx_loop ⟨(k + 1, gn + 1), ⟨hlt, fun y hy => ?_⟩, Nat.sub_lt_sub_left hlt (Nat.lt_succ_self k), ?_⟩
      · rw [take_snoc ht] at hy
        rcases List.mem_append.1 hy with hy | hy
        · exact hp y hy
        · simp at hy; rw [hy]; exact hq
      refine le_mk ?_ ?_ (Nat.le_refl _)
      all_goals first | with_reducible refine auE ?_ | exact auE0
      all_goals (repeat' (first | exact trivial | exact rfl | apply And.intro))
      all_goals exact dint ((IntWalk.i64_in _ (by omega)).trans (by omega))
  · obtain rfl : k = l.length := by omega
    rw [List.take_length] at hp
    have hall : l.all rOk = true := List.all_eq_true.2 hp
    rw [hall]
    repeat' (first
      | (with_reducible refine auS ?_)
      | fail
      | (with_reducible refine auD ?_)
      | ((with_reducible refine auB ?_ ?_); all_goals first | (intro h; first | exact auH | simp only [h, runR_t, runR_f] | skip) | skip)
      | (simp only [List.length_map]))
    (all_goals first | exact auP | skip)
    all_goals with_reducible refine auF ?_
    all_goals (try first | with_reducible refine auR ?_ | exact auR0)
    all_goals (try simp only [hsM] at *)
    all_goals rfl
def pOk (b : Int) : Bool := decide (64 ≤ b ∧ b ≤ 65472 ∧ b.tmod 64 = 0)
def pE (b : Int) : Int := if pOk b then 0 else 1
theorem pcheck_spec (b : Int) (t : Nat) : Spec Tryz.prog 31 [.agg [.v (.int .i64 b), .v (.int .u64 (t : Int))]] (.v (.int .i64 (pE b))) := by
  have hw : 64 ≤ b ∧ b ≤ 65472 → IntKind.i64.wrap (b.tmod 64) = b.tmod 64 := fun h => IntWalk.i64_in _ (by have := Int.tmod_lt_of_pos b (by decide : (0 : Int) < 64); have := Int.tmod_nonneg 64 (by omega : 0 ≤ b); omega)
  refine hspec_fn Tryz.func31 rfl ok_ports_Check okr_ports_Check rfl (by kernel_rfl) ?_
  intro Γ hW0 hN0 hL0
  have hW := hW0 rfl
  clear hW0 hN0 hL0
  unfold x_ports_Check r_ports_Check
  with_reducible refine auC ?_
  repeat' (first
    | (with_reducible refine auS ?_)
    | fail
    | (with_reducible refine auD ?_)
    | ((with_reducible refine auB ?_ ?_); all_goals first | (intro h; first | exact auH | simp only [h, runR_t, runR_f] | skip) | skip)
    | fail)
  (all_goals first | exact auP | skip)
  all_goals with_reducible refine auF ?_
  all_goals (try first | with_reducible refine auR ?_ | exact auR0)
  all_goals (try simp only [hsM] at *)
  all_goals (unfold pE pOk; generalize b.tmod 64 = q at *)
  all_goals first
    | (rw [if_neg (by simp; omega)]; done)
    | (rw [if_pos (by simp; omega)]; done)
theorem pright_spec (b : Int) (t : Nat) : Spec Tryz.prog 33 [.agg [.v (.int .i64 b), .v (.int .u64 (t : Int))]] (.v (.int .i64 (pE b))) := by
  refine hspec_fn Tryz.func33 rfl ok_custref_PortsRight okr_custref_PortsRight rfl (by kernel_rfl) ?_
  intro Γ hW0 hN0 hL0
  have hW := hW0 rfl
  clear hW0 hN0 hL0
  unfold x_custref_PortsRight r_custref_PortsRight
  with_reducible refine auC ?_
  repeat' (first
    | (with_reducible refine auS ?_)
    | (with_reducible refine runR_call (between_spec _ _ _) ?_)
    | (with_reducible refine auD ?_)
    | ((with_reducible refine auB ?_ ?_); all_goals first | (intro h; first | exact auH | simp only [h, runR_t, runR_f] | skip) | skip)
    | fail)
  (all_goals first | exact auP | skip)
  all_goals with_reducible refine auF ?_
  all_goals (try first | with_reducible refine auR ?_ | exact auR0)
  all_goals (try simp only [hsM] at *)
  all_goals (unfold pE pOk; generalize b.tmod 64 = q at *)
  all_goals first
    | (rw [if_neg (by simp; omega)]; done)
    | (rw [if_pos (by simp; omega)]; done)
/-- A plan as the walk sees it. -/
abbrev Pl.enc (p : Pl) (d : DV) : List DV := [.v (.int .u32 p.ou), .v (.int .i64 p.lt), .v (.int .i64 p.st), .v (.int .i64 p.lf), .v (.int .i64 p.ra), .v (.int .i64 p.mo), d, .v (.bool p.el)]
abbrev dPl (p : Pl) (c : Bool) : DV := .agg (p.enc (.snap 10 (p.rs.map Rl.enc) c))
def Pl.wf (p : Pl) : Prop := (0 ≤ p.ou ∧ p.ou < 4294967296) ∧ ∀ r ∈ p.rs, r.wf
def plOk (p : Pl) : Bool := pOk p.lt && (pOk p.st && (decide (1 ≤ p.lf ∧ p.lf ≤ 1000000) && (decide (0 ≤ p.ra ∧ p.ra ≤ 1000000) && decide (1 ≤ p.mo ∧ p.mo ≤ 1000000000))))
def plE (p : Pl) : Int := if plOk p = true then rErr p.rs else 1
theorem pE_0 (b : Int) : decide (pE b = 0) = pOk b := by unfold pE; split <;> simp_all
set_option maxHeartbeats 1000000 in
theorem confCheck_spec (p : Pl) (c : Bool) (hp : p.wf) (hl : p.rs.length ≤ maxLen) : Spec Tryz.prog 8 [dPl p c] (.v (.int .i64 (plE p))) := by
  have h1 := pcheck_spec p.lt 0
  have h2 := pcheck_spec p.st 0
  have h3 := check_spec p.rs c hl hp.2
  have e1 := pE_0 p.lt
  have e2 := pE_0 p.st
  unfold plE plOk
  generalize pOk p.lt = b1 at *
  generalize pOk p.st = b2 at *
  generalize pE p.lt = E1 at *
  generalize pE p.st = E2 at *
  generalize rErr p.rs = E3 at *
  refine hspec_fn Tryz.func8 rfl ok_conf_Check okr_conf_Check rfl (by kernel_rfl) ?_
  intro Γ hW0 hN0 hL0
  have hW := hW0 rfl
  clear hW0 hN0 hL0
  unfold x_conf_Check r_conf_Check
  with_reducible refine auC ?_
  repeat' (first
    | (with_reducible refine auS ?_)
    | (first | (with_reducible refine runR_call h1 ?_) | (with_reducible refine runR_call h2 ?_) | (with_reducible refine runR_call h3 ?_))
    | (with_reducible refine auD ?_)
    | ((with_reducible refine auB ?_ ?_); all_goals first | (intro h; first | exact auH | simp only [h, runR_t, runR_f] | skip) | skip)
    | fail)
  (all_goals first | exact auP | skip)
  all_goals with_reducible refine auF ?_
  all_goals (try first | with_reducible refine auR ?_ | exact auR0)
  all_goals (try simp only [hsM] at *)
  all_goals (refine dint ?_; subst e1; subst e2)
  all_goals first
    | (rw [if_pos (show _ by refine ⟨decide_eq_true (by omega), decide_eq_true (by omega), ?_⟩; omega)]; done)
    | (rw [if_neg (show ¬ _ by rintro ⟨q1, q2, q3⟩; have q4 := of_decide_eq_true q1; have q5 := of_decide_eq_true q2; omega)]; done)
set_option maxHeartbeats 1000000 in
theorem planRight_spec (p : Pl) (c : Bool) (hp : p.wf) (hl : p.rs.length ≤ maxLen) : Spec Tryz.prog 9 [dPl p c] (.v (.int .i64 (plE p))) := by
  have h1 := pright_spec p.lt 0
  have h2 := pright_spec p.st 0
  have h3 := rulesRight_spec p.rs c hl hp.2
  have e1 := pE_0 p.lt
  have e2 := pE_0 p.st
  unfold plE plOk
  generalize pOk p.lt = b1 at *
  generalize pOk p.st = b2 at *
  generalize pE p.lt = E1 at *
  generalize pE p.st = E2 at *
  generalize rErr p.rs = E3 at *
  refine hspec_fn Tryz.func9 rfl ok_custref_PlanRight okr_custref_PlanRight rfl (by kernel_rfl) ?_
  intro Γ hW0 hN0 hL0
  have hW := hW0 rfl
  clear hW0 hN0 hL0
  unfold x_custref_PlanRight r_custref_PlanRight
  with_reducible refine auC ?_
  repeat' (first
    | (with_reducible refine auS ?_)
    | (first | (with_reducible refine runR_call h1 ?_) | (with_reducible refine runR_call h2 ?_) | (with_reducible refine runR_call h3 ?_) | (with_reducible refine runR_call (between_spec _ _ _) ?_))
    | (with_reducible refine auD ?_)
    | ((with_reducible refine auB ?_ ?_); all_goals first | (intro h; first | exact auH | simp only [h, runR_t, runR_f] | skip) | skip)
    | fail)
  (all_goals first | exact auP | skip)
  all_goals with_reducible refine auF ?_
  all_goals (try first | with_reducible refine auR ?_ | exact auR0)
  all_goals (try simp only [hsM] at *)
  all_goals (refine dint ?_; subst e1; subst e2)
  all_goals first
    | (rw [if_pos (show _ by refine ⟨decide_eq_true (by omega), decide_eq_true (by omega), ?_⟩; omega)]; done)
    | (rw [if_neg (show ¬ _ by rintro ⟨q1, q2, q3⟩; have q4 := of_decide_eq_true q1; have q5 := of_decide_eq_true q2; omega)]; done)
end Go.Proofs.YtbcamncabckbnaaGreatDoor
