/-
  Packets: words and longs of package ip, what may not be, in the program.
-/
import Derived.Test.YtidogmmfakcfgaaNetL
namespace Go.Proofs.Ytidogmmfakcfgaa
set_option linter.unusedVariables false
set_option linter.unusedSimpArgs false
theorem and_low (j : Nat) (hj : j ≤ 62) (p : Int) : bits .and .i64 p ((2 ^ j - 1 : Nat) : Int) = p % ((2 ^ j : Nat) : Int) := by
  have hp : 2 ^ j ≤ 2 ^ 62 := Nat.pow_le_pow_right (by decide) hj
  have hpos : 0 < 2 ^ j := Nat.two_pow_pos j
  show IntKind.i64.wrap ((BitVec.ofInt 64 p &&& BitVec.ofInt 64 ((2 ^ j - 1 : Nat) : Int)).toNat : Int) = _
  rw [BitVec.ofInt_natCast, BitVec.toNat_and, BitVec.toNat_ofNat, Nat.mod_eq_of_lt (by omega : 2 ^ j - 1 < 2 ^ 64), Nat.and_two_pow_sub_one_eq_mod, BitVec.toNat_ofInt]
  have h2 : ((p % ((2 ^ 64 : Nat) : Int)).toNat : Int) = p % ((2 ^ 64 : Nat) : Int) := Int.toNat_of_nonneg (Int.emod_nonneg _ (by decide))
  have h3 : (p % ((2 ^ 64 : Nat) : Int)) % ((2 ^ j : Nat) : Int) = p % ((2 ^ j : Nat) : Int) := by
    refine Int.emod_emod_of_dvd p ?_
    exact Int.natCast_dvd_natCast.2 (Nat.pow_dvd_pow 2 (by omega))
  have h4 : 0 ≤ p % ((2 ^ j : Nat) : Int) := Int.emod_nonneg _ (by omega)
  have h5 : p % ((2 ^ j : Nat) : Int) < ((2 ^ j : Nat) : Int) := Int.emod_lt_of_pos _ (by omega)
  rw [Int.natCast_emod, h2, h3, IntWalk.i64_in _ (by omega)]
theorem and1 (p : Int) : bits .and .i64 p 1 = p % 2 := and_low 1 (by decide) p
theorem and8191 (p : Int) : bits .and .i64 p 8191 = p % 8192 := and_low 13 (by decide) p
theorem strU2 (a b : Int) : strOf [[.v (.int .u8 (IntKind.u8.wrap a))], [.v (.int .u8 (IntKind.u8.wrap b))]] = mkS [u8 a, u8 b] := by rw [strOf2, u8_wrap, u8_wrap]
theorem strU4 (a b c d : Int) : strOf [[.v (.int .u8 (IntKind.u8.wrap a))], [.v (.int .u8 (IntKind.u8.wrap b))], [.v (.int .u8 (IntKind.u8.wrap c))], [.v (.int .u8 (IntKind.u8.wrap d))]] = mkS [u8 a, u8 b, u8 c, u8 d] := by rw [strOf4, u8_wrap, u8_wrap, u8_wrap, u8_wrap]
theorem ipword_spec (n : Int) : Spec Try.prog 34 [.v (.int .i64 n)] (.v (.string (mkS (wd n)))) := by
  have h1 : n.fdiv (2 ^ 8) = n / 256 := Int.fdiv_eq_ediv_of_nonneg _ (by decide)
  have hs : strOf [[.v (.int .u8 (IntKind.u8.wrap (n / 256)))], [.v (.int .u8 (IntKind.u8.wrap n))]] = mkS (wd n) := by rw [strOf2, u8_wrap, u8_wrap]; rfl
  refine hspec_fn Try.func34 rfl ok_ip_word okr_ip_word rfl (by kernel_rfl) ?_
  intro Γ hW0 hN0 hL0
  have hW := hW0 rfl
  clear hW0 hN0 hL0
  unfold x_ip_word r_ip_word
  with_reducible refine auC ?_
  repeat' (first
    | (with_reducible refine auS ?_)
    | (simp only [min8, h1, hs])
    | (with_reducible refine auD ?_)
    | ((with_reducible refine auB ?_ ?_); all_goals first | ((with_reducible intro h); first | exact auH | simp only [h, runR_t, runR_f] | skip) | skip)
    | fail)
  (all_goals first | exact auP | skip)
  all_goals with_reducible refine auF ?_
  all_goals (try first | with_reducible refine auR ?_ | exact auR0)
  all_goals (try simp only [hsM] at *)
theorem lg_eq (a : Int) : [u8 (a / 16777216), u8 (a / 65536), u8 (a / 256), u8 a] = lg a := by
  unfold lg wd
  rw [u8_eq (show a / 16777216 % 256 = a / 65536 / 256 % 256 by omega)]
  rfl
theorem iplong_spec (a : Int) (h0 : 0 ≤ a) (h1 : a < 4294967296) : Spec Try.prog 35 [.v (.int .u32 a)] (.v (.string (mkS (lg a)))) := by
  have m1 : min 24 IntKind.u32.bits = 24 := rfl
  have m2 : min 16 IntKind.u32.bits = 16 := rfl
  have m3 : min 8 IntKind.u32.bits = 8 := rfl
  have e1 : a.fdiv (2 ^ 24) = a / 16777216 := Int.fdiv_eq_ediv_of_nonneg _ (by decide)
  have e2 : a.fdiv (2 ^ 16) = a / 65536 := Int.fdiv_eq_ediv_of_nonneg _ (by decide)
  have e3 : a.fdiv (2 ^ 8) = a / 256 := Int.fdiv_eq_ediv_of_nonneg _ (by decide)
  refine hspec_fn Try.func35 rfl ok_ip_long okr_ip_long rfl (by kernel_rfl) ?_
  intro Γ hW0 hN0 hL0
  have hW := hW0 rfl
  clear hW0 hN0 hL0
  unfold x_ip_long r_ip_long
  with_reducible refine auC ?_
  repeat' (first
    | (with_reducible refine auS ?_)
    | (simp only [m1, m2, m3, e1, e2, e3, strU4, lg_eq])
    | (with_reducible refine auD ?_)
    | ((with_reducible refine auB ?_ ?_); all_goals first | ((with_reducible intro h); first | exact auH | simp only [h, runR_t, runR_f] | skip) | skip)
    | fail)
  (all_goals first | exact auP | skip)
  all_goals with_reducible refine auF ?_
  all_goals (try first | with_reducible refine auR ?_ | exact auR0)
  all_goals (try simp only [hsM] at *)
theorem byt_spec (n : Int) : Spec Try.prog 51 [.v (.int .i64 n)] (.v (.bool (decide (0 ≤ n ∧ n ≤ 255)))) := by
  refine hspec_fn Try.func51 rfl ok_ip_byt okr_ip_byt rfl (by kernel_rfl) ?_
  intro Γ hW0 hN0 hL0
  have hW := hW0 rfl
  clear hW0 hN0 hL0
  unfold x_ip_byt r_ip_byt
  with_reducible refine auC ?_
  repeat' (first
    | (with_reducible refine auS ?_)
    | fail
    | (with_reducible refine auD ?_)
    | ((with_reducible refine auB ?_ ?_); all_goals first | ((with_reducible intro h); first | exact auH | simp only [h, runR_t, runR_f] | skip) | skip)
    | fail)
  (all_goals first | exact auP | skip)
  all_goals with_reducible refine auF ?_
  all_goals (try first | with_reducible refine auR ?_ | exact auR0)
  all_goals (try simp only [hsM] at *)
  all_goals (refine dbool ?_; first | (simp_all; done) | (simp_all; omega))
structure Pk where
  (tos id : Int) (wh mo : Bool) (start life proto fr to : Int) (opt data : List UInt8)
abbrev Pk.enc (p : Pk) : List DV := [.v (.int .i64 p.tos), .v (.int .i64 p.id), .v (.bool p.wh), .v (.bool p.mo), .v (.int .i64 p.start), .v (.int .i64 p.life), .v (.int .i64 p.proto), .v (.int .u32 p.fr), .v (.int .u32 p.to), .v (.string (mkS p.opt)), .v (.string (mkS p.data))]
abbrev dP (p : Pk) : DV := .agg p.enc
def Pk.arg (p : Pk) : Prop := (0 ≤ p.tos ∧ p.tos ≤ 255) ∧ (0 ≤ p.life ∧ p.life ≤ 255) ∧ (0 ≤ p.proto ∧ p.proto ≤ 255) ∧ (0 ≤ p.id ∧ p.id ≤ 65535) ∧ (0 ≤ p.start ∧ p.start ≤ 8191) ∧ p.opt.length ≤ 40 ∧ p.opt.length % 4 = 0
instance (p : Pk) : Decidable p.arg := by unfold Pk.arg; infer_instance
def Pk.form (p : Pk) : Prop := p.wh = true → p.mo = false ∧ p.start = 0
instance (p : Pk) : Decidable p.form := by unfold Pk.form; infer_instance
def pErr (p : Pk) : Int := if ¬ p.arg then 1 else if ¬ p.form then 4 else if 65515 < p.data.length + p.opt.length then 2 else 0
theorem tmod4 (n : Nat) : ((n : Nat) : Int).tmod 4 = ((n % 4 : Nat) : Int) := (Int.ofNat_tmod n 4).symm
set_option maxHeartbeats 4000000 in
theorem refused_spec (p : Pk) (ho : p.opt.length ≤ 140737488351232) (hd : p.data.length ≤ 140737488351232) : Spec Try.prog 33 [dP p] (.v (.int .i64 (pErr p))) := by
  have e1 : IntKind.i64.wrap (65515 - (p.opt.length : Nat)) = 65515 - (p.opt.length : Nat) := IntWalk.i64_in _ (by omega)
  obtain ⟨tos, id, wh, mo, start, life, proto, fr, to, opt, data⟩ := p
  unfold pErr Pk.arg Pk.form
  dsimp only at ho hd e1 ⊢
  by_cases h1 : 0 ≤ tos ∧ tos ≤ 255
  rotate_left 1
  · rw [if_pos (fun q => h1 q.1)]
    refine hspec_fn Try.func33 rfl ok_ip_refused okr_ip_refused rfl (by kernel_rfl) ?_
    intro Γ hW0 hN0 hL0
    have hW := hW0 rfl
    clear hW0 hN0 hL0
    unfold x_ip_refused r_ip_refused
    with_reducible refine auC ?_
    repeat' (first
      | (with_reducible refine auS ?_)
      | (first | (simp only [mkS_size, tmod4, e1]) | (with_reducible refine runR_call (byt_spec _) ?_))
      | (with_reducible refine auD ?_)
      | ((with_reducible refine auB ?_ ?_); all_goals first | ((with_reducible intro h); first | exact auH | simp only [h, runR_t, runR_f] | skip) | skip)
      | fail)
    (all_goals first | exact auP | skip)
    all_goals with_reducible refine auF ?_
    all_goals (try first | with_reducible refine auR ?_ | exact auR0)
    all_goals (try simp only [hsM] at *)
  by_cases h2 : 0 ≤ life ∧ life ≤ 255
  rotate_left 1
  · rw [if_pos (fun q => h2 q.2.1)]
    refine hspec_fn Try.func33 rfl ok_ip_refused okr_ip_refused rfl (by kernel_rfl) ?_
    intro Γ hW0 hN0 hL0
    have hW := hW0 rfl
    clear hW0 hN0 hL0
    unfold x_ip_refused r_ip_refused
    with_reducible refine auC ?_
    repeat' (first
      | (with_reducible refine auS ?_)
      | (first | (simp only [mkS_size, tmod4, e1]) | (with_reducible refine runR_call (byt_spec _) ?_))
      | (with_reducible refine auD ?_)
      | ((with_reducible refine auB ?_ ?_); all_goals first | ((with_reducible intro h); first | exact auH | simp only [h, runR_t, runR_f] | skip) | skip)
      | fail)
    (all_goals first | exact auP | skip)
    all_goals with_reducible refine auF ?_
    all_goals (try first | with_reducible refine auR ?_ | exact auR0)
    all_goals (try simp only [hsM] at *)
  by_cases h3 : 0 ≤ proto ∧ proto ≤ 255
  rotate_left 1
  · rw [if_pos (fun q => h3 q.2.2.1)]
    refine hspec_fn Try.func33 rfl ok_ip_refused okr_ip_refused rfl (by kernel_rfl) ?_
    intro Γ hW0 hN0 hL0
    have hW := hW0 rfl
    clear hW0 hN0 hL0
    unfold x_ip_refused r_ip_refused
    with_reducible refine auC ?_
    repeat' (first
      | (with_reducible refine auS ?_)
      | (first | (simp only [mkS_size, tmod4, e1]) | (with_reducible refine runR_call (byt_spec _) ?_))
      | (with_reducible refine auD ?_)
      | ((with_reducible refine auB ?_ ?_); all_goals first | ((with_reducible intro h); first | exact auH | simp only [h, runR_t, runR_f] | skip) | skip)
      | fail)
    (all_goals first | exact auP | skip)
    all_goals with_reducible refine auF ?_
    all_goals (try first | with_reducible refine auR ?_ | exact auR0)
    all_goals (try simp only [hsM] at *)
  by_cases h4 : 0 ≤ id ∧ id ≤ 65535
  rotate_left 1
  · rw [if_pos (fun q => h4 q.2.2.2.1)]
    refine hspec_fn Try.func33 rfl ok_ip_refused okr_ip_refused rfl (by kernel_rfl) ?_
    intro Γ hW0 hN0 hL0
    have hW := hW0 rfl
    clear hW0 hN0 hL0
    unfold x_ip_refused r_ip_refused
    with_reducible refine auC ?_
    repeat' (first
      | (with_reducible refine auS ?_)
      | (first | (simp only [mkS_size, tmod4, e1]) | (with_reducible refine runR_call (byt_spec _) ?_))
      | (with_reducible refine auD ?_)
      | ((with_reducible refine auB ?_ ?_); all_goals first | ((with_reducible intro h); first | exact auH | simp only [h, runR_t, runR_f] | skip) | skip)
      | fail)
    (all_goals first | exact auP | skip)
    all_goals with_reducible refine auF ?_
    all_goals (try first | with_reducible refine auR ?_ | exact auR0)
    all_goals (try simp only [hsM] at *)
  by_cases h5 : 0 ≤ start ∧ start ≤ 8191
  rotate_left 1
  · rw [if_pos (fun q => h5 q.2.2.2.2.1)]
    refine hspec_fn Try.func33 rfl ok_ip_refused okr_ip_refused rfl (by kernel_rfl) ?_
    intro Γ hW0 hN0 hL0
    have hW := hW0 rfl
    clear hW0 hN0 hL0
    unfold x_ip_refused r_ip_refused
    with_reducible refine auC ?_
    repeat' (first
      | (with_reducible refine auS ?_)
      | (first | (simp only [mkS_size, tmod4, e1]) | (with_reducible refine runR_call (byt_spec _) ?_))
      | (with_reducible refine auD ?_)
      | ((with_reducible refine auB ?_ ?_); all_goals first | ((with_reducible intro h); first | exact auH | simp only [h, runR_t, runR_f] | skip) | skip)
      | fail)
    (all_goals first | exact auP | skip)
    all_goals with_reducible refine auF ?_
    all_goals (try first | with_reducible refine auR ?_ | exact auR0)
    all_goals (try simp only [hsM] at *)
  by_cases h6 : opt.length ≤ 40
  rotate_left 1
  · rw [if_pos (fun q => h6 q.2.2.2.2.2.1)]
    refine hspec_fn Try.func33 rfl ok_ip_refused okr_ip_refused rfl (by kernel_rfl) ?_
    intro Γ hW0 hN0 hL0
    have hW := hW0 rfl
    clear hW0 hN0 hL0
    unfold x_ip_refused r_ip_refused
    with_reducible refine auC ?_
    repeat' (first
      | (with_reducible refine auS ?_)
      | (first | (simp only [mkS_size, tmod4, e1]) | (with_reducible refine runR_call (byt_spec _) ?_))
      | (with_reducible refine auD ?_)
      | ((with_reducible refine auB ?_ ?_); all_goals first | ((with_reducible intro h); first | exact auH | simp only [h, runR_t, runR_f] | skip) | skip)
      | fail)
    (all_goals first | exact auP | skip)
    all_goals with_reducible refine auF ?_
    all_goals (try first | with_reducible refine auR ?_ | exact auR0)
    all_goals (try simp only [hsM] at *)
  by_cases h7 : opt.length % 4 = 0
  rotate_left 1
  · rw [if_pos (fun q => h7 q.2.2.2.2.2.2)]
    refine hspec_fn Try.func33 rfl ok_ip_refused okr_ip_refused rfl (by kernel_rfl) ?_
    intro Γ hW0 hN0 hL0
    have hW := hW0 rfl
    clear hW0 hN0 hL0
    unfold x_ip_refused r_ip_refused
    with_reducible refine auC ?_
    repeat' (first
      | (with_reducible refine auS ?_)
      | (first | (simp only [mkS_size, tmod4, e1]) | (with_reducible refine runR_call (byt_spec _) ?_))
      | (with_reducible refine auD ?_)
      | ((with_reducible refine auB ?_ ?_); all_goals first | ((with_reducible intro h); first | exact auH | simp only [h, runR_t, runR_f] | skip) | skip)
      | fail)
    (all_goals first | exact auP | skip)
    all_goals with_reducible refine auF ?_
    all_goals (try first | with_reducible refine auR ?_ | exact auR0)
    all_goals (try simp only [hsM] at *)
  rw [if_neg (not_not_intro ⟨h1, h2, h3, h4, h5, h6, h7⟩)]
  cases wh with
  | true =>
    cases mo with
    | true =>
      rw [if_pos (by simp)]
      refine hspec_fn Try.func33 rfl ok_ip_refused okr_ip_refused rfl (by kernel_rfl) ?_
      intro Γ hW0 hN0 hL0
      have hW := hW0 rfl
      clear hW0 hN0 hL0
      unfold x_ip_refused r_ip_refused
      with_reducible refine auC ?_
      repeat' (first
        | (with_reducible refine auS ?_)
        | (first | (simp only [mkS_size, tmod4, e1]) | (with_reducible refine runR_call (byt_spec _) ?_))
        | (with_reducible refine auD ?_)
        | ((with_reducible refine auB ?_ ?_); all_goals first | ((with_reducible intro h); first | exact auH | simp only [h, runR_t, runR_f] | skip) | skip)
        | fail)
      (all_goals first | exact auP | skip)
      all_goals with_reducible refine auF ?_
      all_goals (try first | with_reducible refine auR ?_ | exact auR0)
      all_goals (try simp only [hsM] at *)
    | false =>
      by_cases h8 : start = 0
      · rw [if_neg (by simp [h8])]
        by_cases h9 : 65515 < data.length + opt.length
        · rw [if_pos h9]
          refine hspec_fn Try.func33 rfl ok_ip_refused okr_ip_refused rfl (by kernel_rfl) ?_
          intro Γ hW0 hN0 hL0
          have hW := hW0 rfl
          clear hW0 hN0 hL0
          unfold x_ip_refused r_ip_refused
          with_reducible refine auC ?_
          repeat' (first
            | (with_reducible refine auS ?_)
            | (first | (simp only [mkS_size, tmod4, e1]) | (with_reducible refine runR_call (byt_spec _) ?_))
            | (with_reducible refine auD ?_)
            | ((with_reducible refine auB ?_ ?_); all_goals first | ((with_reducible intro h); first | exact auH | simp only [h, runR_t, runR_f] | skip) | skip)
            | fail)
          (all_goals first | exact auP | skip)
          all_goals with_reducible refine auF ?_
          all_goals (try first | with_reducible refine auR ?_ | exact auR0)
          all_goals (try simp only [hsM] at *)
        · rw [if_neg h9]
          refine hspec_fn Try.func33 rfl ok_ip_refused okr_ip_refused rfl (by kernel_rfl) ?_
          intro Γ hW0 hN0 hL0
          have hW := hW0 rfl
          clear hW0 hN0 hL0
          unfold x_ip_refused r_ip_refused
          with_reducible refine auC ?_
          repeat' (first
            | (with_reducible refine auS ?_)
            | (first | (simp only [mkS_size, tmod4, e1]) | (with_reducible refine runR_call (byt_spec _) ?_))
            | (with_reducible refine auD ?_)
            | ((with_reducible refine auB ?_ ?_); all_goals first | ((with_reducible intro h); first | exact auH | simp only [h, runR_t, runR_f] | skip) | skip)
            | fail)
          (all_goals first | exact auP | skip)
          all_goals with_reducible refine auF ?_
          all_goals (try first | with_reducible refine auR ?_ | exact auR0)
          all_goals (try simp only [hsM] at *)
      · rw [if_pos (by simp [h8])]
        refine hspec_fn Try.func33 rfl ok_ip_refused okr_ip_refused rfl (by kernel_rfl) ?_
        intro Γ hW0 hN0 hL0
        have hW := hW0 rfl
        clear hW0 hN0 hL0
        unfold x_ip_refused r_ip_refused
        with_reducible refine auC ?_
        repeat' (first
          | (with_reducible refine auS ?_)
          | (first | (simp only [mkS_size, tmod4, e1]) | (with_reducible refine runR_call (byt_spec _) ?_))
          | (with_reducible refine auD ?_)
          | ((with_reducible refine auB ?_ ?_); all_goals first | ((with_reducible intro h); first | exact auH | simp only [h, runR_t, runR_f] | skip) | skip)
          | fail)
        (all_goals first | exact auP | skip)
        all_goals with_reducible refine auF ?_
        all_goals (try first | with_reducible refine auR ?_ | exact auR0)
        all_goals (try simp only [hsM] at *)
  | false =>
    rw [if_neg (by simp)]
    by_cases h9 : 65515 < data.length + opt.length
    · rw [if_pos h9]
      refine hspec_fn Try.func33 rfl ok_ip_refused okr_ip_refused rfl (by kernel_rfl) ?_
      intro Γ hW0 hN0 hL0
      have hW := hW0 rfl
      clear hW0 hN0 hL0
      unfold x_ip_refused r_ip_refused
      with_reducible refine auC ?_
      repeat' (first
        | (with_reducible refine auS ?_)
        | (first | (simp only [mkS_size, tmod4, e1]) | (with_reducible refine runR_call (byt_spec _) ?_))
        | (with_reducible refine auD ?_)
        | ((with_reducible refine auB ?_ ?_); all_goals first | ((with_reducible intro h); first | exact auH | simp only [h, runR_t, runR_f] | skip) | skip)
        | fail)
      (all_goals first | exact auP | skip)
      all_goals with_reducible refine auF ?_
      all_goals (try first | with_reducible refine auR ?_ | exact auR0)
      all_goals (try simp only [hsM] at *)
    · rw [if_neg h9]
      refine hspec_fn Try.func33 rfl ok_ip_refused okr_ip_refused rfl (by kernel_rfl) ?_
      intro Γ hW0 hN0 hL0
      have hW := hW0 rfl
      clear hW0 hN0 hL0
      unfold x_ip_refused r_ip_refused
      with_reducible refine auC ?_
      repeat' (first
        | (with_reducible refine auS ?_)
        | (first | (simp only [mkS_size, tmod4, e1]) | (with_reducible refine runR_call (byt_spec _) ?_))
        | (with_reducible refine auD ?_)
        | ((with_reducible refine auB ?_ ?_); all_goals first | ((with_reducible intro h); first | exact auH | simp only [h, runR_t, runR_f] | skip) | skip)
        | fail)
      (all_goals first | exact auP | skip)
      all_goals with_reducible refine auF ?_
      all_goals (try first | with_reducible refine auR ?_ | exact auR0)
      all_goals (try simp only [hsM] at *)
end Go.Proofs.Ytidogmmfakcfgaa
