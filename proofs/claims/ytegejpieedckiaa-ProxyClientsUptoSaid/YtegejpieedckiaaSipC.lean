/-
  A number of a text by a key: the functions on data.
-/
import Derived.Test.YtegejpieedckiaaStr
import Derived.Test.YtegejpieedckiaaCodeC
import Derived.Test.YtegejpieedckiaaBytesF
import Derived.Test.YtegejpieedckiaaNetL
namespace Go.Proofs.Ytegejpieedckiaa
set_option linter.unusedVariables false
set_option linter.unusedSimpArgs false
/-- Four numbers. -/
structure V4 where
  (a b c d : Int)
def u64R (n : Int) : Prop := 0 ≤ n ∧ n < 18446744073709551616
def V4.ok (v : V4) : Prop := u64R v.a ∧ u64R v.b ∧ u64R v.c ∧ u64R v.d
def rotl (k : Nat) (n : Int) : Int := IntKind.u64.wrap (IntKind.u64.wrap (n * 2 ^ k) + n / 2 ^ (64 - k))
theorem rotl_or (k : Nat) (hk : 0 < k) (hk2 : k < 64) (n : Int) (h : u64R n) : bits .or .u64 (IntKind.u64.wrap (n * 2 ^ k)) (n / 2 ^ (64 - k)) = rotl k n := by
  obtain ⟨N, rfl⟩ := Int.eq_ofNat_of_zero_le h.1
  have hN : N < 2 ^ 64 := by have := h.2; omega
  have e1 : ((N : Nat) : Int) / 2 ^ (64 - k) = ((N / 2 ^ (64 - k) : Nat) : Int) := by simp
  have e2 : IntKind.u64.wrap ((N : Nat) * 2 ^ k : Int) = ((N * 2 ^ k % 2 ^ 64 : Nat) : Int) := by rw [u64_mod]; simp
  have hsp : 2 ^ 64 = 2 ^ (64 - k) * 2 ^ k := by rw [← Nat.pow_add]; congr 1; omega
  have h3 : N * 2 ^ k % 2 ^ 64 = N % 2 ^ (64 - k) * 2 ^ k := by rw [hsp, Nat.mul_mod_mul_right]
  have h4 : N / 2 ^ (64 - k) < 2 ^ k := by
    rw [Nat.div_lt_iff_lt_mul (Nat.two_pow_pos _), Nat.mul_comm, ← hsp]; exact hN
  have h5 : N % 2 ^ (64 - k) * 2 ^ k + N / 2 ^ (64 - k) < 2 ^ 64 := by
    have : N % 2 ^ (64 - k) + 1 ≤ 2 ^ (64 - k) := Nat.mod_lt _ (Nat.two_pow_pos _)
    have h6 := Nat.mul_le_mul_right (2 ^ k) this
    rw [← hsp, Nat.add_mul] at h6
    omega
  have h7 : (2 : Nat) ^ k ≤ 2 ^ 64 := Nat.pow_le_pow_right (by decide) (by omega)
  unfold rotl
  rw [e1, e2, h3]
  rw [u64_or_add k _ _ (Int.natCast_nonneg _) ?_ (by exact_mod_cast (by omega : N % 2 ^ (64 - k) * 2 ^ k < 2 ^ 64)) (Int.natCast_nonneg _) (by exact_mod_cast h4) (by exact_mod_cast (by omega : N / 2 ^ (64 - k) < 2 ^ 64))]
  · rw [← Int.natCast_add, u64_keep _ (Int.natCast_nonneg _) (by exact_mod_cast h5)]
  · have : (2 : Int) ^ k = ((2 ^ k : Nat) : Int) := by simp
    rw [this, ← Int.natCast_emod, Nat.mul_mod_left]; rfl
theorem rotl_rng (k : Nat) (n : Int) : u64R (rotl k n) := u64_rng _
abbrev xo (a b : Int) : Int := bits .xor .u64 a b
theorem xo_rng (a b : Int) : u64R (xo a b) := bits_rng .xor a b
abbrev ad (a b : Int) : Int := IntKind.u64.wrap (a + b)
theorem ad_rng (a b : Int) : u64R (ad a b) := u64_rng _
/-- A round. -/
def rnd (v : V4) : V4 :=
  let a1 := ad v.a v.b
  let b1 := xo (rotl 13 v.b) a1
  let a2 := rotl 32 a1
  let c1 := ad v.c v.d
  let d1 := xo (rotl 16 v.d) c1
  let a3 := ad a2 d1
  let d2 := xo (rotl 21 d1) a3
  let c2 := ad c1 b1
  let b2 := xo (rotl 17 b1) c2
  let c3 := rotl 32 c2
  ⟨a3, b2, c3, d2⟩
theorem rnd_ok (v : V4) : (rnd v).ok := ⟨ad_rng _ _, xo_rng _ _, rotl_rng _ _, xo_rng _ _⟩
def rnds : Nat → V4 → V4
  | 0, v => v
  | n + 1, v => rnd (rnds n v)
theorem rnds_ok {v : V4} (h : v.ok) : ∀ n, (rnds n v).ok
  | 0 => h
  | n + 1 => rnd_ok _
def stake (v : V4) (m : Int) : V4 :=
  let w := rnds 2 ⟨v.a, v.b, v.c, xo v.d m⟩
  ⟨xo w.a m, w.b, w.c, w.d⟩
theorem stake_ok {v : V4} (h : v.ok) (m : Int) : (stake v m).ok := by
  have := rnds_ok (v := ⟨v.a, v.b, v.c, xo v.d m⟩) ⟨h.1, h.2.1, h.2.2.1, xo_rng _ _⟩ 2
  exact ⟨xo_rng _ _, this.2.1, this.2.2.1, this.2.2.2⟩
/-- All whole eights of a text are taken; what is left. -/
def absorb (v : V4) (l : List UInt8) : V4 × List UInt8 :=
  if h : 8 ≤ l.length then absorb (stake v (lsN (l.take 8) : Nat)) (l.drop 8) else (v, l)
termination_by l.length
decreasing_by simp; omega
theorem absorb_big {v : V4} {l : List UInt8} (h : 8 ≤ l.length) : absorb v l = absorb (stake v (lsN (l.take 8) : Nat)) (l.drop 8) := by rw [absorb, dif_pos h]
theorem absorb_small {v : V4} {l : List UInt8} (h : ¬ 8 ≤ l.length) : absorb v l = (v, l) := by rw [absorb, dif_neg h]
theorem absorb_rest : ∀ (n : Nat) (v : V4) (l : List UInt8), l.length ≤ n → (absorb v l).2.length < 8
  | n, v, l, hn => by
    by_cases h : 8 ≤ l.length
    · rw [absorb_big h]
      cases n with
      | zero => omega
      | succ n => exact absorb_rest n _ _ (by simp; omega)
    · rw [absorb_small h]; show l.length < 8; omega
theorem absorb_ok : ∀ (n : Nat) (v : V4) (l : List UInt8), l.length ≤ n → v.ok → (absorb v l).1.ok
  | n, v, l, hn, hv => by
    by_cases h : 8 ≤ l.length
    · rw [absorb_big h]
      cases n with
      | zero => omega
      | succ n => exact absorb_ok n _ _ (by simp; omega) (stake_ok hv _)
    · rw [absorb_small h]; exact hv
theorem absorb_snoc (b : UInt8) : ∀ (n : Nat) (v : V4) (l : List UInt8), l.length ≤ n → absorb v (l ++ [b]) =
    if (absorb v l).2.length + 1 = 8 then (stake (absorb v l).1 (lsN ((absorb v l).2 ++ [b]) : Nat), []) else ((absorb v l).1, (absorb v l).2 ++ [b])
  | n, v, l, hn => by
    by_cases h : 8 ≤ l.length
    · have h2 : 8 ≤ (l ++ [b]).length := by simp; omega
      rw [absorb_big h2, absorb_big h, List.take_append_of_le_length h, List.drop_append_of_le_length h]
      cases n with
      | zero => omega
      | succ n => exact absorb_snoc b n _ _ (by simp; omega)
    · rw [absorb_small h]
      dsimp only
      by_cases h3 : l.length + 1 = 8
      · have h2 : 8 ≤ (l ++ [b]).length := by simp; omega
        rw [if_pos h3, absorb_big h2, List.take_of_length_le (by simp; omega), List.drop_eq_nil_of_le (by simp; omega), absorb_small (by simp)]
      · rw [if_neg h3, absorb_small (by simp; omega)]
def sfin (v : V4) (m : Int) : V4 :=
  let w := stake v m
  rnds 4 ⟨w.a, w.b, xo w.c 255, w.d⟩
def send (v : V4) (m : Int) : Int := xo (xo (xo (sfin v m).a (sfin v m).b) (sfin v m).c) (sfin v m).d
def lastN (p : List UInt8) (n : Int) : Int := ((lsN p : Nat) : Int) + n % 256 * 72057594037927936
theorem last_or {p : List UInt8} (hp : p.length ≤ 7) {n : Int} (hn : 0 ≤ n ∧ n < 9223372036854775808) : bits .or .u64 (lsN p : Nat) (IntKind.u64.wrap (IntKind.u64.wrap n * 2 ^ 56)) = lastN p n := by
  have h1 := lsN_lt p
  have h2 : 256 ^ p.length ≤ 256 ^ 7 := Nat.pow_le_pow_right (by decide) hp
  have h3 : (256 : Nat) ^ 7 = 72057594037927936 := by decide
  have e1 : IntKind.u64.wrap n = n := u64_keep n hn.1 (by omega)
  have e2 : IntKind.u64.wrap (n * 2 ^ 56) = n % 256 * 72057594037927936 := by rw [u64_mod]; omega
  rw [e1, e2, bits_or_comm, u64_or_add 56 _ _ (by omega) (by omega) (by omega) (Int.natCast_nonneg _) (by omega) (by omega)]
  unfold lastN; omega
theorem last_pad {p : List UInt8} (hp : p.length ≤ 7) (x : UInt8) {n : Int} (hx : (x.toNat : Int) = n % 256) : ((lsN ((p ++ List.replicate 7 0).take 7 ++ [x]) : Nat) : Int) = lastN p n := by
  have e : (p ++ List.replicate 7 0).take 7 = p ++ List.replicate (7 - p.length) 0 := by
    rw [List.take_append, List.take_of_length_le hp, List.take_replicate]; congr 2; omega
  have hl : (p ++ List.replicate (7 - p.length) (0 : UInt8)).length = 7 := by simp; omega
  rw [e, lsN_snoc, hl, lsN_app, lsN_zeros]
  unfold lastN
  omega
end Go.Proofs.Ytegejpieedckiaa
namespace Go.Proofs.Ytegejpieedckiaa
set_option linter.unusedVariables false
set_option linter.unusedSimpArgs false
abbrev dV (v : V4) : DV := .agg [.v (.int .u64 v.a), .v (.int .u64 v.b), .v (.int .u64 v.c), .v (.int .u64 v.d)]
abbrev V4.enc (v : V4) (p : ByteArray) (n : Int) : List DV := [.v (.int .u64 v.a), .v (.int .u64 v.b), .v (.int .u64 v.c), .v (.int .u64 v.d), .v (.string p), .v (.int .i64 n)]
theorem k63 (k : Nat) (h : k < 64) : bits .and .u64 (IntKind.u64.wrap (k : Int)) 63 = (k : Int) := by
  have : ∀ m : Fin 64, bits .and .u64 (IntKind.u64.wrap (m.val : Int)) 63 = (m.val : Int) := by decide +kernel
  exact this ⟨k, h⟩
theorem min64 {k : Nat} (h : k < 64) : min k IntKind.u64.bits = k := Nat.min_eq_left (by show k ≤ 64; omega)
theorem pow_int (k : Nat) : (2 : Int) ^ k = ((2 ^ k : Nat) : Int) := by simp
theorem rotL_spec (k : Nat) (ki : Int) (hki : ki = (k : Nat)) (hk : 0 < k ∧ k < 64) (x : Int) (hx : u64R x) : Spec Try.prog 109 [.v (.int .u64 x), .v (.int .i64 ki)] (.v (.int .u64 (rotl k x))) := by
  subst hki
  have h1 := k63 k hk.2
  have h2 : IntKind.u64.wrap (64 - (k : Int)) = ((64 - k : Nat) : Int) := by rw [u64_keep _ (by omega) (by omega)]; omega
  have h3 := min64 hk.2
  have h4 : min (64 - k) IntKind.u64.bits = 64 - k := min64 (by omega)
  have h5 : x.fdiv (2 ^ (64 - k)) = x / 2 ^ (64 - k) := Int.fdiv_eq_ediv_of_nonneg _ (by rw [pow_int]; exact Int.natCast_nonneg _)
  have h6 := rotl_or k hk.1 hk.2 x hx
  refine hspec_fn Try.func109 rfl ok_bits_RotateLeft64 okr_bits_RotateLeft64 rfl (by kernel_rfl) ?_
  intro Γ hW0 hN0 hL0
  have hW := hW0 rfl
  clear hW0 hN0 hL0
  unfold x_bits_RotateLeft64 r_bits_RotateLeft64
  refine auC ?_
  repeat' (first
    | (refine auS ?_)
    | (simp only [h1, h2, Int.toNat_natCast, h3, h4, h5, h6])
    | (refine auD ?_)
    | (with_reducible refine runR_b (fun h => ?_) (fun h => ?_) <;> first | exact auH | simp only [h, runR_t, runR_f])
    | (with_reducible refine condK_bl ?_ ?_)
    | (with_reducible refine condK_b (fun h => ?_) (fun h => ?_) <;> first | exact auH | skip)
    | fail)
  (all_goals first | exact auP | skip)
  all_goals refine auF ?_
  all_goals (try first | refine auR ?_ | exact auR0)
  all_goals (try simp only [hsM] at *)
theorem turned_spec (k : Nat) (ki : Int) (hki : ki = (k : Nat)) (hk : 0 < k ∧ k < 64) (x : Int) (hx : u64R x) : Spec Try.prog 108 [.v (.int .u64 x), .v (.int .i64 ki)] (.v (.int .u64 (rotl k x))) := by
  subst hki
  have h2 : IntKind.i64.wrap (64 - (k : Int)) = ((64 - k : Nat) : Int) := by rw [IntWalk.i64_in _ ⟨by omega, by omega⟩]; omega
  have h3 := min64 hk.2
  have h4 : min (64 - k) IntKind.u64.bits = 64 - k := min64 (by omega)
  have hp : ∀ j : Nat, j < 64 → IntKind.u64.wrap (1 * 2 ^ j) = 2 ^ j := fun j hj => by
    have : 2 ^ j < 2 ^ 64 := Nat.pow_lt_pow_right (by decide) hj
    rw [Int.one_mul, pow_int]
    exact u64_keep _ (Int.natCast_nonneg _) (by exact_mod_cast this)
  have h5 := hp k hk.2
  have h6 := hp (64 - k) (by omega)
  have h7 : (2 : Int) ^ (64 - k) ≠ 0 := by rw [pow_int]; exact Int.natCast_ne_zero.2 (Nat.ne_of_gt (Nat.two_pow_pos _))
  have h8 : IntKind.u64.wrap (x.tdiv (2 ^ (64 - k))) = x / 2 ^ (64 - k) := by
    rw [Int.tdiv_eq_ediv_of_nonneg hx.1]
    have h9 : x / 2 ^ (64 - k) ≤ x := Int.ediv_le_self _ hx.1
    have h10 : 0 ≤ x / 2 ^ (64 - k) := Int.ediv_nonneg hx.1 (by rw [pow_int]; exact Int.natCast_nonneg _)
    have := hx.2
    exact u64_keep _ h10 (by omega)
  have h9 : IntKind.u64.wrap (IntKind.u64.wrap (x * 2 ^ k) + x / 2 ^ (64 - k)) = rotl k x := rfl
  refine hspec_fn Try.func108 rfl ok_custref_Turned okr_custref_Turned rfl (by kernel_rfl) ?_
  intro Γ hW0 hN0 hL0
  have hW := hW0 rfl
  clear hW0 hN0 hL0
  unfold x_custref_Turned r_custref_Turned
  refine auC ?_
  repeat' (first
    | (refine auS ?_)
    | (first | (refine runR_n h7 ?_) | (simp only [h2, Int.toNat_natCast, h3, h4, h5, h6, h8, h9]))
    | (refine auD ?_)
    | (with_reducible refine runR_b (fun h => ?_) (fun h => ?_) <;> first | exact auH | simp only [h, runR_t, runR_f])
    | (with_reducible refine condK_bl ?_ ?_)
    | (with_reducible refine condK_b (fun h => ?_) (fun h => ?_) <;> first | exact auH | skip)
    | fail)
  (all_goals first | exact auP | skip)
  all_goals refine auF ?_
  all_goals (try first | refine auR ?_ | exact auR0)
  all_goals (try simp only [hsM] at *)
set_option maxHeartbeats 4000000 in
theorem sround_spec (v : V4) (hv : v.ok) : Spec Try.prog 100 [dV v] (dV (rnd v)) := by
  obtain ⟨ha, hb, hc, hd⟩ := hv
  refine hspec_fn Try.func100 rfl ok_custref_SipRound okr_custref_SipRound rfl (by kernel_rfl) ?_
  intro Γ hW0 hN0 hL0
  have hW := hW0 rfl
  clear hW0 hN0 hL0
  unfold x_custref_SipRound r_custref_SipRound
  refine auC ?_
  repeat' (first
    | (refine auS ?_)
    | (first | (with_reducible refine runR_call (turned_spec 13 13 rfl (by decide) _ (by first | assumption | exact rotl_rng _ _ | exact xo_rng _ _ | exact ad_rng _ _)) ?_) | (with_reducible refine runR_call (turned_spec 32 32 rfl (by decide) _ (by first | assumption | exact rotl_rng _ _ | exact xo_rng _ _ | exact ad_rng _ _)) ?_) | (with_reducible refine runR_call (turned_spec 16 16 rfl (by decide) _ (by first | assumption | exact rotl_rng _ _ | exact xo_rng _ _ | exact ad_rng _ _)) ?_) | (with_reducible refine runR_call (turned_spec 21 21 rfl (by decide) _ (by first | assumption | exact rotl_rng _ _ | exact xo_rng _ _ | exact ad_rng _ _)) ?_) | (with_reducible refine runR_call (turned_spec 17 17 rfl (by decide) _ (by first | assumption | exact rotl_rng _ _ | exact xo_rng _ _ | exact ad_rng _ _)) ?_))
    | (refine auD ?_)
    | (with_reducible refine runR_b (fun h => ?_) (fun h => ?_) <;> first | exact auH | simp only [h, runR_t, runR_f])
    | (with_reducible refine condK_bl ?_ ?_)
    | (with_reducible refine condK_b (fun h => ?_) (fun h => ?_) <;> first | exact auH | skip)
    | fail)
  (all_goals first | exact auP | skip)
  all_goals refine auF ?_
  all_goals (try first | refine auR ?_ | exact auR0)
  all_goals (try simp only [hsM] at *)
  all_goals rfl
set_option maxHeartbeats 4000000 in
theorem stake_spec (v : V4) (hv : v.ok) (m : Int) : Spec Try.prog 98 [dV v, .v (.int .u64 m)] (dV (stake v m)) := by
  obtain ⟨ha, hb, hc, hd⟩ := hv
  have h1 := sround_spec ⟨v.a, v.b, v.c, xo v.d m⟩ ⟨ha, hb, hc, xo_rng _ _⟩
  have h2 := sround_spec (rnd ⟨v.a, v.b, v.c, xo v.d m⟩) (rnd_ok _)
  refine hspec_fn Try.func98 rfl ok_custref_SipTake okr_custref_SipTake rfl (by kernel_rfl) ?_
  intro Γ hW0 hN0 hL0
  have hW := hW0 rfl
  clear hW0 hN0 hL0
  unfold x_custref_SipTake r_custref_SipTake
  refine auC ?_
  repeat' (first
    | (refine auS ?_)
    | (first | (with_reducible refine runR_call h1 ?_) | (with_reducible refine runR_call h2 ?_))
    | (refine auD ?_)
    | (with_reducible refine runR_b (fun h => ?_) (fun h => ?_) <;> first | exact auH | simp only [h, runR_t, runR_f])
    | (with_reducible refine condK_bl ?_ ?_)
    | (with_reducible refine condK_b (fun h => ?_) (fun h => ?_) <;> first | exact auH | skip)
    | fail)
  (all_goals first | exact auP | skip)
  all_goals refine auF ?_
  all_goals (try first | refine auR ?_ | exact auR0)
  all_goals (try simp only [hsM] at *)
  all_goals rfl
set_option maxHeartbeats 4000000 in
theorem rounds_spec (v : V4) (hv : v.ok) (m : Nat) (mi : Int) (hm : mi = (m : Nat)) (hml : m < 100) (p : ByteArray) (q : Int) (n : Nat) : HSpec Try.prog 107 [.ptr 0 n 6 0 0, .v (.int .i64 mi)] [some ⟨n, 6, [v.enc p q]⟩] (fun d H => d = .tup [] ∧ H = [some ⟨n, 6, [(rnds m v).enc p q]⟩]) := by
  subst hm
  refine hspec_fn Try.func107 rfl ok_sip_rounds okr_sip_rounds rfl (by kernel_rfl) ?_
  intro Γ hW0 hN0 hL0
  clear hW0
  unfold x_sip_rounds r_sip_rounds
  refine auC ?_
  have hn : n < Γ.g0 := hN0 0 _ rfl
  repeat' (first
    | (refine auS ?_)
    | fail
    | (refine auD ?_)
    | (with_reducible refine runR_b (fun h => ?_) (fun h => ?_) <;> first | exact auH | simp only [h, runR_t, runR_f])
    | (with_reducible refine condK_bl ?_ ?_)
    | (with_reducible refine condK_b (fun h => ?_) (fun h => ?_) <;> first | exact auH | skip)
    | fail)
  refine go_loopH (α := Nat) (fun i => [(⟨.d0, .d0, .d4⟩, .v (.int .u64 (rnds i v).a)), (⟨.d0, .d0, .d5⟩, .v (.int .u64 (rnds i v).b)), (⟨.d0, .d0, .d6⟩, .v (.int .u64 (rnds i v).c)), (⟨.d0, .d0, .d7⟩, .v (.int .u64 (rnds i v).d)), (⟨.d0, .d3, .d1⟩, .v (.int .i64 (i : Nat)))]) (fun _ => []) (fun _ => Γ.g0) (fun i => m - i) (fun i => i ≤ m) 0 (Nat.zero_le _) ?_ ?_
  · skip
    refine le_mk ?_ ?_ (Nat.le_refl _)
    all_goals first | refine auE ?_ | exact auE0
    all_goals (repeat' (first | exact trivial | exact rfl | apply And.intro))
  intro i hi
  refine auL ?_
  obtain ⟨ha, hb, hc, hd⟩ := rnds_ok hv i
  by_cases hlt : i < m
  · skip
    repeat' (first
      | (refine auS ?_)
      | (first | (with_reducible refine runR_call (rotL_spec 13 13 rfl (by decide) _ (by first | assumption | exact rotl_rng _ _ | exact xo_rng _ _ | exact ad_rng _ _)) ?_) | (with_reducible refine runR_call (rotL_spec 32 32 rfl (by decide) _ (by first | assumption | exact rotl_rng _ _ | exact xo_rng _ _ | exact ad_rng _ _)) ?_) | (with_reducible refine runR_call (rotL_spec 16 16 rfl (by decide) _ (by first | assumption | exact rotl_rng _ _ | exact xo_rng _ _ | exact ad_rng _ _)) ?_) | (with_reducible refine runR_call (rotL_spec 21 21 rfl (by decide) _ (by first | assumption | exact rotl_rng _ _ | exact xo_rng _ _ | exact ad_rng _ _)) ?_) | (with_reducible refine runR_call (rotL_spec 17 17 rfl (by decide) _ (by first | assumption | exact rotl_rng _ _ | exact xo_rng _ _ | exact ad_rng _ _)) ?_))
      | (refine auD ?_)
      | (with_reducible refine runR_b (fun h => ?_) (fun h => ?_) <;> first | exact auH | simp only [h, runR_t, runR_f])
      | (with_reducible refine condK_bl ?_ ?_)
      | (with_reducible refine condK_b (fun h => ?_) (fun h => ?_) <;> first | exact auH | skip)
      | fail)
    (all_goals first | exact auP | skip)
    refine nx_loop ⟨i + 1, hlt, by omega, ?_⟩
    refine le_mk ?_ ?_ (Nat.le_refl _)
    all_goals first | refine auE ?_ | exact auE0
    all_goals (repeat' (first | exact trivial | exact rfl | apply And.intro))
    all_goals exact dint ((IntWalk.i64_in _ (by omega)).trans (by omega))
  · obtain rfl : i = m := by omega
    repeat' (first
      | (refine auS ?_)
      | fail
      | (refine auD ?_)
      | (with_reducible refine runR_b (fun h => ?_) (fun h => ?_) <;> first | exact auH | simp only [h, runR_t, runR_f])
      | (with_reducible refine condK_bl ?_ ?_)
      | (with_reducible refine condK_b (fun h => ?_) (fun h => ?_) <;> first | exact auH | skip)
      | fail)
    (all_goals first | exact auP | skip)
    refine ret_h1 trivial ?_ rfl rfl hn ?_ rfl
    · simp [resDs, resV, nfD, nfL]
    · simp [nfLL, nfL, nfD]
theorem take_spec (v : V4) (hv : v.ok) (m : Int) (p : ByteArray) (q : Int) (n : Nat) : HSpec Try.prog 105 [.ptr 0 n 6 0 0, .v (.int .u64 m)] [some ⟨n, 6, [v.enc p q]⟩] (fun d H => d = .tup [] ∧ H = [some ⟨n, 6, [(stake v m).enc p q]⟩]) := by
  obtain ⟨ha, hb, hc, hd⟩ := hv
  have h1 := rounds_spec ⟨v.a, v.b, v.c, xo v.d m⟩ ⟨ha, hb, hc, xo_rng _ _⟩ 2 2 rfl (by decide) p q n
  refine hspec_fn Try.func105 rfl ok_sip_take okr_sip_take rfl (by kernel_rfl) ?_
  intro Γ hW0 hN0 hL0
  clear hW0
  unfold x_sip_take r_sip_take
  refine auC ?_
  have hn : n < Γ.g0 := hN0 0 _ rfl
  repeat' (first
    | (refine auS ?_)
    | ((with_reducible refine runR_callH 0 ?_ h1 (fun _ _ _ h => h) ?_); (exact rfl))
    | (refine auD ?_)
    | (with_reducible refine runR_b (fun h => ?_) (fun h => ?_) <;> first | exact auH | simp only [h, runR_t, runR_f])
    | (with_reducible refine condK_bl ?_ ?_)
    | (with_reducible refine condK_b (fun h => ?_) (fun h => ?_) <;> first | exact auH | skip)
    | fail)
  (all_goals first | exact auP | skip)
  refine ret_h1 trivial ?_ rfl rfl hn ?_ rfl
  · simp [resDs, resV, nfD, nfL]
  · simp [nfLL, nfL, nfD]
end Go.Proofs.Ytegejpieedckiaa
namespace Go.Proofs.Ytegejpieedckiaa
set_option linter.unusedVariables false
set_option linter.unusedSimpArgs false
abbrev V4.sp (v : V4) (p : List UInt8) (n : Int) : DV := .agg (v.enc (mkS p) n)
theorem number_spec (l : List UInt8) (hl : l.length ≤ 8) : Spec Try.prog 106 [.v (.string (mkS l))] (.v (.int .u64 (lsN l : Nat))) := by
  refine hspec_fn Try.func106 rfl ok_sip_number okr_sip_number rfl (by kernel_rfl) ?_
  intro Γ hW0 hN0 hL0
  have hW := hW0 rfl
  clear hW0 hN0 hL0
  unfold x_sip_number r_sip_number
  refine auC ?_
  repeat' (first
    | (refine auS ?_)
    | (simp only [mkS_size])
    | (refine auD ?_)
    | (with_reducible refine runR_b (fun h => ?_) (fun h => ?_) <;> first | exact auH | simp only [h, runR_t, runR_f])
    | (with_reducible refine condK_bl ?_ ?_)
    | (with_reducible refine condK_b (fun h => ?_) (fun h => ?_) <;> first | exact auH | skip)
    | fail)
  refine go_loopH (α := Nat) (fun i => [(⟨.d0, .d0, .d3⟩, .v (.int .u64 (lsN (l.take i) : Nat))), (⟨.d0, .d0, .d7⟩, .v (.int .i64 (i : Nat)))]) (fun _ => []) (fun _ => Γ.g0) (fun i => l.length - i) (fun i => i ≤ l.length) 0 (Nat.zero_le _) ?_ ?_
  · skip
    refine le_mk ?_ ?_ (Nat.le_refl _)
    all_goals first | refine auE ?_ | exact auE0
    all_goals (repeat' (first | exact trivial | exact rfl | apply And.intro))
  intro i hi
  dsimp only at hi ⊢
  refine auL ?_
  by_cases hlt : i < l.length
  · have h1 : IntKind.i64.wrap (8 * (i : Int)) = ((8 * i : Nat) : Int) := by rw [IntWalk.i64_in _ (by omega)]; omega
    have h2 : min (8 * i) IntKind.u64.bits = 8 * i := min64 (by omega)
    have hb := bN_lt l i
    have h3 : IntKind.u64.wrap (bN l i : Nat) = (bN l i : Nat) := u64_keep _ (by omega) (by omega)
    have h4 := byte_step hlt hl
    repeat' (first
      | (refine auS ?_)
      | (simp only [mkS_size, mkS_at, h1, h2, h3, h4, Int.toNat_natCast])
      | (refine auD ?_)
      | (with_reducible refine runR_b (fun h => ?_) (fun h => ?_) <;> first | exact auH | simp only [h, runR_t, runR_f])
      | (with_reducible refine condK_bl ?_ ?_)
      | (with_reducible refine condK_b (fun h => ?_) (fun h => ?_) <;> first | exact auH | skip)
      | fail)
    (all_goals first | exact auP | skip)
    refine nx_loop ⟨i + 1, hlt, by omega, ?_⟩
    refine le_mk ?_ ?_ (Nat.le_refl _)
    all_goals first | refine auE ?_ | exact auE0
    all_goals (repeat' (first | exact trivial | exact rfl | apply And.intro))
    all_goals exact dint ((IntWalk.i64_in _ (by omega)).trans (by omega))
  · obtain rfl : i = l.length := by omega
    repeat' (first
      | (refine auS ?_)
      | fail
      | (refine auD ?_)
      | (with_reducible refine runR_b (fun h => ?_) (fun h => ?_) <;> first | exact auH | simp only [h, runR_t, runR_f])
      | (with_reducible refine condK_bl ?_ ?_)
      | (with_reducible refine condK_b (fun h => ?_) (fun h => ?_) <;> first | exact auH | skip)
      | fail)
    (all_goals first | exact auP | skip)
    all_goals refine auF ?_
    all_goals (try first | refine auR ?_ | exact auR0)
    all_goals (try simp only [hsM] at *)
    all_goals rw [List.take_length]
theorem eight_step {l : List UInt8} {j : Nat} (hl : l.length = 8) (hj : j < 8) : IntKind.u64.wrap (IntKind.u64.wrap (256 * (lsN (l.drop (8 - j)) : Nat)) + (bN l (7 - j) : Nat)) = (lsN (l.drop (8 - (j + 1))) : Nat) := by
  have hi : 7 - j < l.length := by omega
  have e : l.drop (8 - (j + 1)) = l[7 - j] :: l.drop (8 - j) := by
    rw [show 8 - (j + 1) = 7 - j by omega, List.drop_eq_getElem_cons hi, show 7 - j + 1 = 8 - j by omega]
  have h1 := lsN_lt (l.drop (8 - (j + 1)))
  have h2 : 256 ^ (l.drop (8 - (j + 1))).length ≤ 256 ^ 8 := Nat.pow_le_pow_right (by decide) (by simp; omega)
  have h3 : (256 : Nat) ^ 8 = 18446744073709551616 := by decide
  have hb : bN l (7 - j) = (l[7 - j]).toNat := bN_some (List.getElem?_eq_getElem hi)
  have h0 := Nat.lt_of_lt_of_le h1 h2
  rw [h3, e] at h0
  rw [e]
  simp only [lsN] at h0 ⊢
  rw [hb, u64_keep (256 * _) (by omega) (by omega), u64_keep _ (by omega) (by omega)]
  omega
theorem eight_spec (l : List UInt8) (hl : l.length = 8) : Spec Try.prog 99 [.v (.string (mkS l))] (.v (.int .u64 (lsN l : Nat))) := by
  refine hspec_fn Try.func99 rfl ok_custref_eight okr_custref_eight rfl (by kernel_rfl) ?_
  intro Γ hW0 hN0 hL0
  have hW := hW0 rfl
  clear hW0 hN0 hL0
  unfold x_custref_eight r_custref_eight
  refine auC ?_
  repeat' (first
    | (refine auS ?_)
    | (simp only [mkS_size])
    | (refine auD ?_)
    | (with_reducible refine runR_b (fun h => ?_) (fun h => ?_) <;> first | exact auH | simp only [h, runR_t, runR_f])
    | (with_reducible refine condK_bl ?_ ?_)
    | (with_reducible refine condK_b (fun h => ?_) (fun h => ?_) <;> first | exact auH | skip)
    | fail)
  refine go_loopH (α := Nat) (fun j => [(⟨.d0, .d0, .d3⟩, .v (.int .u64 (lsN (l.drop (8 - j)) : Nat))), (⟨.d0, .d0, .d4⟩, .v (.int .i64 (7 - (j : Int))))]) (fun _ => []) (fun _ => Γ.g0) (fun j => 8 - j) (fun j => j ≤ 8) 0 (Nat.zero_le _) ?_ ?_
  · skip
    refine le_mk ?_ ?_ (Nat.le_refl _)
    all_goals first | refine auE ?_ | exact auE0
    all_goals (repeat' (first | exact trivial | exact rfl | apply And.intro))
    all_goals rw [List.drop_eq_nil_of_le (by omega)]; rfl
  intro j hj
  dsimp only at hj ⊢
  refine auL ?_
  by_cases hlt : j < 8
  · have h1 : (7 - (j : Int)).toNat = 7 - j := by omega
    have hb := bN_lt l (7 - j)
    have h3 : IntKind.u64.wrap (bN l (7 - j) : Nat) = (bN l (7 - j) : Nat) := u64_keep _ (by omega) (by omega)
    have h4 := eight_step hl hlt
    repeat' (first
      | (refine auS ?_)
      | (simp only [mkS_size, mkS_at, h1, h3, h4, Int.toNat_natCast])
      | (refine auD ?_)
      | (with_reducible refine runR_b (fun h => ?_) (fun h => ?_) <;> first | exact auH | simp only [h, runR_t, runR_f])
      | (with_reducible refine condK_bl ?_ ?_)
      | (with_reducible refine condK_b (fun h => ?_) (fun h => ?_) <;> first | exact auH | skip)
      | fail)
    (all_goals first | exact auP | skip)
    refine nx_loop ⟨j + 1, hlt, by omega, ?_⟩
    refine le_mk ?_ ?_ (Nat.le_refl _)
    all_goals first | refine auE ?_ | exact auE0
    all_goals (repeat' (first | exact trivial | exact rfl | apply And.intro))
    all_goals exact dint ((IntWalk.i64_in _ (by omega)).trans (by omega))
  · obtain rfl : j = 8 := by omega
    repeat' (first
      | (refine auS ?_)
      | fail
      | (refine auD ?_)
      | (with_reducible refine runR_b (fun h => ?_) (fun h => ?_) <;> first | exact auH | simp only [h, runR_t, runR_f])
      | (with_reducible refine condK_bl ?_ ?_)
      | (with_reducible refine condK_b (fun h => ?_) (fun h => ?_) <;> first | exact auH | skip)
      | fail)
    (all_goals first | exact auP | skip)
    all_goals refine auF ?_
    all_goals (try first | refine auR ?_ | exact auR0)
    all_goals (try simp only [hsM] at *)
    all_goals rfl
def sipErr (p : List UInt8) (n : Int) : Int := if n < 0 ∨ ¬ (p.length : Int) = n % 8 then 4 else 0
theorem scheck_spec (v : V4) (p : List UInt8) (n : Int) : Spec Try.prog 104 [v.sp p n] (.v (.int .i64 (sipErr p n))) := by
  have ht : 0 ≤ n → n.tmod 8 = n % 8 := fun h => Int.tmod_eq_emod_of_nonneg h
  refine hspec_fn Try.func104 rfl ok_sip_check okr_sip_check rfl (by kernel_rfl) ?_
  intro Γ hW0 hN0 hL0
  have hW := hW0 rfl
  clear hW0 hN0 hL0
  unfold x_sip_check r_sip_check
  refine auC ?_
  repeat' (first
    | (refine auS ?_)
    | (simp only [mkS_size])
    | (refine auD ?_)
    | (with_reducible refine runR_b (fun h => ?_) (fun h => ?_) <;> first | exact auH | simp only [h, runR_t, runR_f])
    | (with_reducible refine condK_bl ?_ ?_)
    | (with_reducible refine condK_b (fun h => ?_) (fun h => ?_) <;> first | exact auH | skip)
    | fail)
  (all_goals first | exact auP | skip)
  all_goals refine auF ?_
  all_goals (try first | refine auR ?_ | exact auR0)
  all_goals (try simp only [hsM] at *)
  all_goals (refine dint ?_; unfold sipErr; split <;> simp_all <;> omega)
theorem sright_spec (v : V4) (p : List UInt8) (n : Int) : Spec Try.prog 97 [v.sp p n] (.v (.int .i64 (sipErr p n))) := by
  have ht : 0 ≤ n → n.tmod 8 = n % 8 := fun h => Int.tmod_eq_emod_of_nonneg h
  refine hspec_fn Try.func97 rfl ok_custref_SipRight okr_custref_SipRight rfl (by kernel_rfl) ?_
  intro Γ hW0 hN0 hL0
  have hW := hW0 rfl
  clear hW0 hN0 hL0
  unfold x_custref_SipRight r_custref_SipRight
  refine auC ?_
  repeat' (first
    | (refine auS ?_)
    | (simp only [mkS_size])
    | (refine auD ?_)
    | (with_reducible refine runR_b (fun h => ?_) (fun h => ?_) <;> first | exact auH | simp only [h, runR_t, runR_f])
    | (with_reducible refine condK_bl ?_ ?_)
    | (with_reducible refine condK_b (fun h => ?_) (fun h => ?_) <;> first | exact auH | skip)
    | fail)
  (all_goals first | exact auP | skip)
  all_goals refine auF ?_
  all_goals (try first | refine auR ?_ | exact auR0)
  all_goals (try simp only [hsM] at *)
  all_goals (refine dint ?_; unfold sipErr; split <;> simp_all <;> omega)
end Go.Proofs.Ytegejpieedckiaa
namespace Go.Proofs.Ytegejpieedckiaa
set_option linter.unusedVariables false
set_option linter.unusedSimpArgs false
theorem mkS_nil : (ByteArray.mk #[] : ByteArray) = mkS [] := rfl
theorem sipErr_ok {p : List UInt8} {n : Int} (h : sipErr p n = 0) : 0 ≤ n ∧ (p.length : Int) = n % 8 ∧ p.length ≤ 7 := by
  unfold sipErr at h
  split at h
  · cases h
  · rename_i h2
    have : 0 ≤ n ∧ (p.length : Int) = n % 8 := by
      constructor
      · apply Int.not_lt.1; exact fun q => h2 (.inl q)
      · apply Decidable.not_not.1; exact fun q => h2 (.inr q)
    omega
theorem more_bad (v : V4) (p : List UInt8) (n : Int) (s : List UInt8) (h : ¬ sipErr p n = 0) : Spec Try.prog 94 [v.sp p n, .v (.string (mkS s))] (.tup [v.sp p n, .v (.int .i64 (sipErr p n))]) := by
  have hc := scheck_spec v p n
  refine hspec_fn Try.func94 rfl ok_sip_More okr_sip_More rfl (by kernel_rfl) ?_
  intro Γ hW0 hN0 hL0
  have hW := hW0 rfl
  clear hW0 hN0 hL0
  unfold x_sip_More r_sip_More
  refine auC ?_
  repeat' (first
    | (refine auS ?_)
    | (with_reducible refine runR_call hc ?_)
    | (refine auD ?_)
    | (with_reducible refine runR_b (fun h => ?_) (fun h => ?_) <;> first | exact auH | simp only [h, runR_t, runR_f])
    | (with_reducible refine condK_bl ?_ ?_)
    | (with_reducible refine condK_b (fun h => ?_) (fun h => ?_) <;> first | exact auH | skip)
    | fail)
  (all_goals first | exact auP | skip)
  all_goals refine auF ?_
  all_goals (try first | refine auR ?_ | exact auR0)
  all_goals (try simp only [hsM] at *)
theorem smore_bad (v : V4) (p : List UInt8) (n : Int) (s : List UInt8) (h : ¬ sipErr p n = 0) : Spec Try.prog 85 [v.sp p n, .v (.string (mkS s))] (.tup [v.sp p n, .v (.int .i64 (sipErr p n))]) := by
  have hc := sright_spec v p n
  refine hspec_fn Try.func85 rfl ok_custref_SipMore okr_custref_SipMore rfl (by kernel_rfl) ?_
  intro Γ hW0 hN0 hL0
  have hW := hW0 rfl
  clear hW0 hN0 hL0
  unfold x_custref_SipMore r_custref_SipMore
  refine auC ?_
  repeat' (first
    | (refine auS ?_)
    | (with_reducible refine runR_call hc ?_)
    | (refine auD ?_)
    | (with_reducible refine runR_b (fun h => ?_) (fun h => ?_) <;> first | exact auH | simp only [h, runR_t, runR_f])
    | (with_reducible refine condK_bl ?_ ?_)
    | (with_reducible refine condK_b (fun h => ?_) (fun h => ?_) <;> first | exact auH | skip)
    | fail)
  (all_goals first | exact auP | skip)
  all_goals refine auF ?_
  all_goals (try first | refine auR ?_ | exact auR0)
  all_goals (try simp only [hsM] at *)
set_option maxHeartbeats 1000000 in
theorem more_ok (v : V4) (hv : v.ok) (p : List UInt8) (n : Int) (s : List UInt8) (h : sipErr p n = 0) (hn : n ≤ 4611686018427387904) (hs : s.length ≤ 140737488351232) : Spec Try.prog 94 [v.sp p n, .v (.string (mkS s))] (.tup [(absorb v (p ++ s)).1.sp (absorb v (p ++ s)).2 (n + s.length), .v (.int .i64 0)]) := by
  have hc := scheck_spec v p n
  rw [h] at hc
  obtain ⟨h0, h1, h7⟩ := sipErr_ok h
  have hw : IntKind.i64.wrap (n + (s.length : Nat)) = n + (s.length : Nat) := IntWalk.i64_in _ (by omega)
  refine hspec_fn Try.func94 rfl ok_sip_More okr_sip_More rfl (by kernel_rfl) ?_
  intro Γ hW0 hN0 hL0
  have hW := hW0 rfl
  clear hW0 hN0 hL0
  unfold x_sip_More r_sip_More
  refine auC ?_
  repeat' (first
    | (refine auS ?_)
    | (first | (simp only [mkS_size, mkS_app, hw]) | (with_reducible refine runR_call hc ?_))
    | (refine auD ?_)
    | (with_reducible refine runR_b (fun h => ?_) (fun h => ?_) <;> first | exact auH | simp only [h, runR_t, runR_f])
    | (with_reducible refine condK_bl ?_ ?_)
    | (with_reducible refine condK_b (fun h => ?_) (fun h => ?_) <;> first | exact auH | skip)
    | (refine runR_n (by omega) ?_))
  (all_goals first | exact auP | skip)
  refine go_loopH (α := V4 × List UInt8) (fun x => [(⟨.d0, .d0, .d7⟩, .v (.string (mkS x.2)))]) (fun x => [(0, some ⟨Γ.g0, 6, [x.1.enc (mkS p) (n + (s.length : Nat))]⟩)]) (fun _ => Γ.g0 + 2) (fun x => x.2.length) (fun x => x.1.ok ∧ absorb v (p ++ s) = absorb x.1 x.2 ∧ x.2.length ≤ 140737488352232) (v, p ++ s) ⟨hv, rfl, by simp; omega⟩ ?_ ?_
  · skip
    refine le_mk ?_ ?_ (Nat.le_refl _)
    all_goals first | refine auE ?_ | exact auE0
    all_goals (repeat' (first | exact trivial | exact rfl | apply And.intro))
  rintro ⟨x, l⟩ ⟨hx, hab, hll⟩
  dsimp only at hx hab hll ⊢
  refine auL ?_
  by_cases hlt : 8 ≤ l.length
  · have hnu := number_spec (l.take 8) (by simp; omega)
    have htk := fun n1 => take_spec x hx (lsN (l.take 8) : Nat) (mkS p) (n + (s.length : Nat)) n1
    have e1 : (mkS l).extract (0 : Int).toNat (8 : Int).toNat = mkS (l.take 8) := by rw [mkS_ext]; rfl
    have e2 : (mkS l).extract (8 : Int).toNat ((l.length : Nat) : Int).toNat = mkS (l.drop 8) := by rw [mkS_ext, Int.toNat_natCast, List.take_of_length_le (by simp)]; rfl
    have e3 : (mkS l).extract 0 8 = mkS (l.take 8) := e1
    have e4 : (mkS l).extract 8 l.length = mkS (l.drop 8) := by rw [← e2]; rfl
    repeat' (first
      | (refine auS ?_)
      | (first | (simp only [mkS_size, e1, e2, e3, e4, Int.toNat_natCast]) | (with_reducible refine runR_call hnu ?_) | ((with_reducible refine runR_callH 0 ?_ (htk _) (fun _ _ _ h => h) ?_); (exact rfl)))
      | (refine auD ?_)
      | (with_reducible refine runR_b (fun h => ?_) (fun h => ?_) <;> first | exact auH | simp only [h, runR_t, runR_f])
      | (with_reducible refine condK_bl ?_ ?_)
      | (with_reducible refine condK_b (fun h => ?_) (fun h => ?_) <;> first | exact auH | skip)
      | fail)
    (all_goals first | exact auP | skip)
    refine nx_loop ⟨(stake x (lsN (l.take 8) : Nat), l.drop 8), ⟨stake_ok hx _, by rw [hab, absorb_big hlt], by simp; omega⟩, by simp; omega, ?_⟩
    refine le_mk ?_ ?_ (Nat.le_refl _)
    all_goals first | refine auE ?_ | exact auE0
    all_goals (repeat' (first | exact trivial | exact rfl | apply And.intro))
  · have hab2 : absorb v (p ++ s) = (x, l) := by rw [hab, absorb_small hlt]
    rw [hab2]
    repeat' (first
      | (refine auS ?_)
      | (simp only [mkS_size])
      | (refine auD ?_)
      | (with_reducible refine runR_b (fun h => ?_) (fun h => ?_) <;> first | exact auH | simp only [h, runR_t, runR_f])
      | (with_reducible refine condK_bl ?_ ?_)
      | (with_reducible refine condK_b (fun h => ?_) (fun h => ?_) <;> first | exact auH | skip)
      | fail)
    (all_goals first | exact auP | skip)
    all_goals refine auF ?_
    all_goals (try first | refine auR ?_ | exact auR0)
    all_goals (try simp only [hsM] at *)
set_option maxHeartbeats 1000000 in
theorem smore_ok (v : V4) (hv : v.ok) (p : List UInt8) (n : Int) (s : List UInt8) (h : sipErr p n = 0) (hn : n ≤ 4611686018427387904) (hs : s.length ≤ 140737488351232) : Spec Try.prog 85 [v.sp p n, .v (.string (mkS s))] (.tup [(absorb v (p ++ s)).1.sp (absorb v (p ++ s)).2 (n + s.length), .v (.int .i64 0)]) := by
  have hc := sright_spec v p n
  rw [h] at hc
  obtain ⟨h0, h1, h7⟩ := sipErr_ok h
  refine hspec_fn Try.func85 rfl ok_custref_SipMore okr_custref_SipMore rfl (by kernel_rfl) ?_
  intro Γ hW0 hN0 hL0
  have hW := hW0 rfl
  clear hW0 hN0 hL0
  unfold x_custref_SipMore r_custref_SipMore
  refine auC ?_
  repeat' (first
    | (refine auS ?_)
    | (first | (simp only [mkS_size]) | (with_reducible refine runR_call hc ?_))
    | (refine auD ?_)
    | (with_reducible refine runR_b (fun h => ?_) (fun h => ?_) <;> first | exact auH | simp only [h, runR_t, runR_f])
    | (with_reducible refine condK_bl ?_ ?_)
    | (with_reducible refine condK_b (fun h => ?_) (fun h => ?_) <;> first | exact auH | skip)
    | fail)
  (all_goals first | exact auP | skip)
  refine go_loopH (α := Nat) (fun i => [(⟨.d0, .d2, .d0⟩, .v (.int .i64 (i : Nat)))]) (fun i => [(0, some ⟨Γ.g0, 6, [(absorb v (p ++ s.take i)).1.enc (mkS (absorb v (p ++ s.take i)).2) (n + (i : Nat))]⟩)]) (fun _ => Γ.g0 + 2) (fun i => s.length - i) (fun i => i ≤ s.length) 0 (Nat.zero_le _) ?_ ?_
  · have e0 : absorb v (p ++ s.take 0) = (v, p) := by rw [List.take_zero, List.append_nil, absorb_small (by omega)]
    refine le_mk ?_ ?_ (Nat.le_refl _)
    all_goals first | refine auE ?_ | exact auE0
    all_goals (repeat' (first | exact trivial | exact rfl | apply And.intro))
    all_goals (rw [e0]; simp)
  intro i hi
  dsimp only at hi ⊢
  refine auL ?_
  by_cases hlt : i < s.length
  · obtain ⟨b, hb⟩ : ∃ b, s[i]? = some b := ⟨_, List.getElem?_eq_getElem hlt⟩
    have hsn := absorb_snoc b (p ++ s.take i).length v (p ++ s.take i) (Nat.le_refl _)
    have hrest := absorb_rest (p ++ s.take i).length v (p ++ s.take i) (Nat.le_refl _)
    have hok := absorb_ok (p ++ s.take i).length v (p ++ s.take i) (Nat.le_refl _) hv
    rw [List.append_assoc, ← take_snoc hb] at hsn
    generalize absorb v (p ++ s.take i) = A at *
    obtain ⟨w, r⟩ := A
    dsimp only at hsn hrest hok ⊢
    have hw : IntKind.i64.wrap ((i : Int) + 1) = ((i + 1 : Nat) : Int) := by rw [IntWalk.i64_in _ (by omega)]; omega
    have hw2 : IntKind.i64.wrap (n + (i : Nat) + 1) = n + ((i + 1 : Nat) : Int) := by rw [IntWalk.i64_in _ (by omega)]; omega
    have e1 : (mkS s).extract i (i + 1) = mkS [b] := by rw [mkS_ext, List.drop_eq_getElem_cons hlt, show i + 1 - i = 1 by omega, show s[i] = b from Option.some.inj ((List.getElem?_eq_getElem hlt).symm.trans hb)]; rfl
    have hlr : (r ++ [b]).length = r.length + 1 := by simp
    by_cases h8 : r.length + 1 = 8
    · rw [if_pos h8] at hsn
      have h8' : ((r.length + 1 : Nat) : Int) = 8 := by omega
      have hei := eight_spec (r ++ [b]) (by simp; omega)
      have hst := stake_spec w hok (lsN (r ++ [b]) : Nat)
      repeat' (first
        | (refine auS ?_)
        | (first | (simp only [mkS_size, mkS_app, e1, hw, hw2, hlr, h8', Int.toNat_natCast]) | (with_reducible refine runR_call hei ?_) | (with_reducible refine runR_call hst ?_))
        | (refine auD ?_)
        | (with_reducible refine runR_b (fun h => ?_) (fun h => ?_) <;> first | exact auH | simp only [h, runR_t, runR_f])
        | (with_reducible refine condK_bl ?_ ?_)
        | (with_reducible refine condK_b (fun h => ?_) (fun h => ?_) <;> first | exact auH | skip)
        | (refine runR_n (by rw [List.length_singleton]; omega) ?_))
      (all_goals first | exact auP | skip)
      refine nx_loop ⟨i + 1, hlt, by omega, ?_⟩
      refine le_mk ?_ ?_ (Nat.le_refl _)
      all_goals first | refine auE ?_ | exact auE0
      all_goals (repeat' (first | exact trivial | exact rfl | apply And.intro))
      all_goals (first | (rw [hsn]; done) | (rw [hsn]; rfl))
    · rw [if_neg h8] at hsn
      have h8' : ¬ ((r.length + 1 : Nat) : Int) = 8 := by omega
      repeat' (first
        | (refine auS ?_)
        | (first | (simp only [mkS_size, mkS_app, e1, hw, hw2, hlr, Int.toNat_natCast]))
        | (refine auD ?_)
        | (with_reducible refine runR_b (fun h => ?_) (fun h => ?_) <;> first | exact auH | simp only [h, runR_t, runR_f])
        | (with_reducible refine condK_bl ?_ ?_)
        | (with_reducible refine condK_b (fun h => ?_) (fun h => ?_) <;> first | exact auH | skip)
        | (refine runR_n (by rw [List.length_singleton]; omega) ?_))
      (all_goals first | exact auP | skip)
      refine nx_loop ⟨i + 1, hlt, by omega, ?_⟩
      refine le_mk ?_ ?_ (Nat.le_refl _)
      all_goals first | refine auE ?_ | exact auE0
      all_goals (repeat' (first | exact trivial | exact rfl | apply And.intro))
      all_goals (first | (rw [hsn]; done) | (rw [hsn]; rfl))
  · obtain rfl : i = s.length := by omega
    rw [List.take_length]
    repeat' (first
      | (refine auS ?_)
      | fail
      | (refine auD ?_)
      | (with_reducible refine runR_b (fun h => ?_) (fun h => ?_) <;> first | exact auH | simp only [h, runR_t, runR_f])
      | (with_reducible refine condK_bl ?_ ?_)
      | (with_reducible refine condK_b (fun h => ?_) (fun h => ?_) <;> first | exact auH | skip)
      | fail)
    (all_goals first | exact auP | skip)
    all_goals refine auF ?_
    all_goals (try first | refine auR ?_ | exact auR0)
    all_goals (try simp only [hsM] at *)
end Go.Proofs.Ytegejpieedckiaa
namespace Go.Proofs.Ytegejpieedckiaa
set_option linter.unusedVariables false
set_option linter.unusedSimpArgs false
def endR (v : V4) (p : List UInt8) (n : Int) : Int × Int := if sipErr p n = 0 then (send v (lastN p n), 0) else (0, sipErr p n)
def moreR (v : V4) (p : List UInt8) (n : Int) (s : List UInt8) : V4 × List UInt8 × Int × Int := if sipErr p n = 0 then ((absorb v (p ++ s)).1, (absorb v (p ++ s)).2, n + s.length, 0) else (v, p, n, sipErr p n)
abbrev dM (r : V4 × List UInt8 × Int × Int) : DV := .tup [r.1.sp r.2.1 r.2.2.1, .v (.int .i64 r.2.2.2)]
theorem more_spec (v : V4) (hv : v.ok) (p : List UInt8) (n : Int) (s : List UInt8) (hn : n ≤ 4611686018427387904) (hs : s.length ≤ 140737488351232) : Spec Try.prog 94 [v.sp p n, .v (.string (mkS s))] (dM (moreR v p n s)) := by
  unfold moreR
  by_cases h : sipErr p n = 0
  · rw [if_pos h]; exact more_ok v hv p n s h hn hs
  · rw [if_neg h]; exact more_bad v p n s h
theorem smore_spec (v : V4) (hv : v.ok) (p : List UInt8) (n : Int) (s : List UInt8) (hn : n ≤ 4611686018427387904) (hs : s.length ≤ 140737488351232) : Spec Try.prog 85 [v.sp p n, .v (.string (mkS s))] (dM (moreR v p n s)) := by
  unfold moreR
  by_cases h : sipErr p n = 0
  · rw [if_pos h]; exact smore_ok v hv p n s h hn hs
  · rw [if_neg h]; exact smore_bad v p n s h
abbrev dE (r : Int × Int) : DV := .tup [.v (.int .u64 r.1), .v (.int .i64 r.2)]
theorem w64_of {n : Int} (h : 0 ≤ n) (h2 : n < 9223372036854775808) : IntKind.u64.wrap n = n := u64_keep n h (by omega)
set_option maxHeartbeats 1000000 in
theorem end_spec (v : V4) (hv : v.ok) (p : List UInt8) (n : Int) (hn : n < 9223372036854775808) : Spec Try.prog 96 [v.sp p n] (dE (endR v p n)) := by
  have hc := scheck_spec v p n
  unfold endR
  by_cases h : sipErr p n = 0
  · rw [if_pos h]
    rw [h] at hc
    obtain ⟨h0, h1, h7⟩ := sipErr_ok h
    have hnu := number_spec p (by omega)
    have hlo := last_or h7 ⟨h0, hn⟩
    have hm : min 56 IntKind.u64.bits = 56 := rfl
    have htk := fun n1 => take_spec v hv (lastN p n) (mkS p) n n1
    have hso := stake_ok hv (lastN p n)
    have hrd := fun n1 => rounds_spec ⟨(stake v (lastN p n)).a, (stake v (lastN p n)).b, xo (stake v (lastN p n)).c 255, (stake v (lastN p n)).d⟩ ⟨hso.1, hso.2.1, xo_rng _ _, hso.2.2.2⟩ 4 4 rfl (by decide) (mkS p) n n1
    refine hspec_fn Try.func96 rfl ok_sip_End okr_sip_End rfl (by kernel_rfl) ?_
    intro Γ hW0 hN0 hL0
    have hW := hW0 rfl
    clear hW0 hN0 hL0
    unfold x_sip_End r_sip_End
    refine auC ?_
    repeat' (first
      | (refine auS ?_)
      | (first | (simp only [hm, hlo]) | (with_reducible refine runR_call hc ?_) | (with_reducible refine runR_call hnu ?_) | ((with_reducible refine runR_callH 0 ?_ (htk _) (fun _ _ _ h => h) ?_); (exact rfl)) | ((with_reducible refine runR_callH 0 ?_ (hrd _) (fun _ _ _ h => h) ?_); (exact rfl)))
      | (refine auD ?_)
      | (with_reducible refine runR_b (fun h => ?_) (fun h => ?_) <;> first | exact auH | simp only [h, runR_t, runR_f])
      | (with_reducible refine condK_bl ?_ ?_)
      | (with_reducible refine condK_b (fun h => ?_) (fun h => ?_) <;> first | exact auH | skip)
      | fail)
    (all_goals first | exact auP | skip)
    all_goals refine auF ?_
    all_goals (try first | refine auR ?_ | exact auR0)
    all_goals (try simp only [hsM] at *)
    all_goals rfl
  · rw [if_neg h]
    refine hspec_fn Try.func96 rfl ok_sip_End okr_sip_End rfl (by kernel_rfl) ?_
    intro Γ hW0 hN0 hL0
    have hW := hW0 rfl
    clear hW0 hN0 hL0
    unfold x_sip_End r_sip_End
    refine auC ?_
    repeat' (first
      | (refine auS ?_)
      | (with_reducible refine runR_call hc ?_)
      | (refine auD ?_)
      | (with_reducible refine runR_b (fun h => ?_) (fun h => ?_) <;> first | exact auH | simp only [h, runR_t, runR_f])
      | (with_reducible refine condK_bl ?_ ?_)
      | (with_reducible refine condK_b (fun h => ?_) (fun h => ?_) <;> first | exact auH | skip)
      | fail)
    (all_goals first | exact auP | skip)
    all_goals refine auF ?_
    all_goals (try first | refine auR ?_ | exact auR0)
    all_goals (try simp only [hsM] at *)
theorem zeros7 : (ByteArray.mk #[0, 0, 0, 0, 0, 0, 0] : ByteArray) = mkS (List.replicate 7 0) := rfl
set_option maxHeartbeats 1000000 in
theorem srend_spec (v : V4) (hv : v.ok) (p : List UInt8) (n : Int) (hn : n < 9223372036854775808) : Spec Try.prog 87 [v.sp p n] (dE (endR v p n)) := by
  have hc := sright_spec v p n
  unfold endR
  by_cases h : sipErr p n = 0
  · rw [if_pos h]
    rw [h] at hc
    obtain ⟨h0, h1, h7⟩ := sipErr_ok h
    have ht : n.tmod 256 = n % 256 := Int.tmod_eq_emod_of_nonneg h0
    have hx : ((u8 (n % 256)).toNat : Int) = n % 256 := by rw [u8_nat]; omega
    have hpad := last_pad h7 (u8 (n % 256)) hx
    have hel : ((p ++ List.replicate 7 0).take 7 ++ [u8 (n % 256)]).length = 8 := by simp
    have hei := eight_spec _ hel
    rw [hpad] at hei
    have e1 : (mkS (p ++ List.replicate 7 0)).extract 0 7 = mkS ((p ++ List.replicate 7 0).take 7) := by rw [mkS_ext]; rfl
    have hb := fun k n1 => bytes1 (n % 256) true k n1
    have hst := stake_spec v hv (lastN p n)
    have hso := stake_ok hv (lastN p n)
    have hr1 := sround_spec ⟨(stake v (lastN p n)).a, (stake v (lastN p n)).b, xo (stake v (lastN p n)).c 255, (stake v (lastN p n)).d⟩ ⟨hso.1, hso.2.1, xo_rng _ _, hso.2.2.2⟩
    have hr2 := sround_spec _ (rnd_ok ⟨(stake v (lastN p n)).a, (stake v (lastN p n)).b, xo (stake v (lastN p n)).c 255, (stake v (lastN p n)).d⟩)
    have hr3 := sround_spec _ (rnd_ok (rnd ⟨(stake v (lastN p n)).a, (stake v (lastN p n)).b, xo (stake v (lastN p n)).c 255, (stake v (lastN p n)).d⟩))
    have hr4 := sround_spec _ (rnd_ok (rnd (rnd ⟨(stake v (lastN p n)).a, (stake v (lastN p n)).b, xo (stake v (lastN p n)).c 255, (stake v (lastN p n)).d⟩)))
    refine hspec_fn Try.func87 rfl ok_custref_SipEnd okr_custref_SipEnd rfl (by kernel_rfl) ?_
    intro Γ hW0 hN0 hL0
    have hW := hW0 rfl
    clear hW0 hN0 hL0
    unfold x_custref_SipEnd r_custref_SipEnd
    refine auC ?_
    repeat' (first
      | (refine auS ?_)
      | (first | (simp only [ht, zeros7, mkS_app, mkS_size, e1]) | (with_reducible refine runR_call hc ?_) | (with_reducible refine runR_call hei ?_) | (with_reducible refine runR_call hst ?_) | (with_reducible refine runR_call hr1 ?_) | (with_reducible refine runR_call hr2 ?_) | (with_reducible refine runR_call hr3 ?_) | (with_reducible refine runR_call hr4 ?_) | (with_reducible refine runR_callS rfl (hb _ _) ?_))
      | (refine auD ?_)
      | (with_reducible refine runR_b (fun h => ?_) (fun h => ?_) <;> first | exact auH | simp only [h, runR_t, runR_f])
      | (with_reducible refine condK_bl ?_ ?_)
      | (with_reducible refine condK_b (fun h => ?_) (fun h => ?_) <;> first | exact auH | skip)
      | (refine runR_n (by simp; omega) ?_))
    (all_goals first | exact auP | skip)
    all_goals refine auF ?_
    all_goals (try first | refine auR ?_ | exact auR0)
    all_goals (try simp only [hsM] at *)
    all_goals rfl
  · rw [if_neg h]
    refine hspec_fn Try.func87 rfl ok_custref_SipEnd okr_custref_SipEnd rfl (by kernel_rfl) ?_
    intro Γ hW0 hN0 hL0
    have hW := hW0 rfl
    clear hW0 hN0 hL0
    unfold x_custref_SipEnd r_custref_SipEnd
    refine auC ?_
    repeat' (first
      | (refine auS ?_)
      | (with_reducible refine runR_call hc ?_)
      | (refine auD ?_)
      | (with_reducible refine runR_b (fun h => ?_) (fun h => ?_) <;> first | exact auH | simp only [h, runR_t, runR_f])
      | (with_reducible refine condK_bl ?_ ?_)
      | (with_reducible refine condK_b (fun h => ?_) (fun h => ?_) <;> first | exact auH | skip)
      | fail)
    (all_goals first | exact auP | skip)
    all_goals refine auF ?_
    all_goals (try first | refine auR ?_ | exact auR0)
    all_goals (try simp only [hsM] at *)
abbrev dK (a b : Int) : DV := .agg [.v (.int .u64 a), .v (.int .u64 b)]
def beg (a b : Int) : V4 := ⟨xo a 8317987319222330741, xo b 7237128888997146477, xo a 7816392313619706465, xo b 8387220255154660723⟩
theorem beg_ok (a b : Int) : (beg a b).ok := ⟨xo_rng _ _, xo_rng _ _, xo_rng _ _, xo_rng _ _⟩
theorem begin_spec (a b : Int) : Spec Try.prog 95 [dK a b] ((beg a b).sp [] 0) := by
  refine hspec_fn Try.func95 rfl ok_sip_Begin okr_sip_Begin rfl (by kernel_rfl) ?_
  intro Γ hW0 hN0 hL0
  have hW := hW0 rfl
  clear hW0 hN0 hL0
  unfold x_sip_Begin r_sip_Begin
  refine auC ?_
  repeat' (first
    | (refine auS ?_)
    | fail
    | (refine auD ?_)
    | (with_reducible refine runR_b (fun h => ?_) (fun h => ?_) <;> first | exact auH | simp only [h, runR_t, runR_f])
    | (with_reducible refine condK_bl ?_ ?_)
    | (with_reducible refine condK_b (fun h => ?_) (fun h => ?_) <;> first | exact auH | skip)
    | fail)
  (all_goals first | exact auP | skip)
  all_goals refine auF ?_
  all_goals (try first | refine auR ?_ | exact auR0)
  all_goals (try simp only [hsM] at *)
  all_goals rfl
def iv : Nat → Int
  | 0 => 0
  | 1 => 1
  | 2 => 2
  | 3 => 3
  | _ => 4
def bv (a b : Int) : Nat → List DV
  | 0 => [.v (.int .u64 0), .v (.int .u64 0), .v (.int .u64 0), .v (.int .u64 0), .v (.string (ByteArray.mk #[])), .v (.int .i64 0)]
  | 1 => [.v (.int .u64 (beg a b).a), .v (.int .u64 0), .v (.int .u64 0), .v (.int .u64 0), .v (.string (ByteArray.mk #[])), .v (.int .i64 0)]
  | 2 => [.v (.int .u64 (beg a b).a), .v (.int .u64 (beg a b).b), .v (.int .u64 0), .v (.int .u64 0), .v (.string (ByteArray.mk #[])), .v (.int .i64 0)]
  | 3 => [.v (.int .u64 (beg a b).a), .v (.int .u64 (beg a b).b), .v (.int .u64 (beg a b).c), .v (.int .u64 0), .v (.string (ByteArray.mk #[])), .v (.int .i64 0)]
  | _ => [.v (.int .u64 (beg a b).a), .v (.int .u64 (beg a b).b), .v (.int .u64 (beg a b).c), .v (.int .u64 (beg a b).d), .v (.string (ByteArray.mk #[])), .v (.int .i64 0)]
def words : ByteArray := { data := #[117, 101, 115, 112, 101, 109, 111, 115, 109, 111, 100, 110, 97, 114, 111, 100, 97, 114, 101, 110, 101, 103, 121, 108, 115, 101, 116, 121, 98, 100, 101, 116] }
theorem w_size : words.size = 32 := rfl
theorem w0 : words.extract 0 8 = mkS [117, 101, 115, 112, 101, 109, 111, 115] := rfl
theorem w1 : words.extract 8 16 = mkS [109, 111, 100, 110, 97, 114, 111, 100] := rfl
theorem w2 : words.extract 16 24 = mkS [97, 114, 101, 110, 101, 103, 121, 108] := rfl
theorem w3 : words.extract 24 32 = mkS [115, 101, 116, 121, 98, 100, 101, 116] := rfl
theorem tm0 : (0 : Int).tmod 2 = 0 := rfl
theorem tm1 : (1 : Int).tmod 2 = 1 := rfl
theorem tm2 : (2 : Int).tmod 2 = 0 := rfl
theorem tm3 : (3 : Int).tmod 2 = 1 := rfl
theorem wr8 : IntKind.i64.wrap (8 * 0) = 0 ∧ IntKind.i64.wrap (8 * 1) = 8 ∧ IntKind.i64.wrap (8 * 2) = 16 ∧ IntKind.i64.wrap (8 * 3) = 24 ∧ IntKind.i64.wrap (0 + 8) = 8 ∧ IntKind.i64.wrap (8 + 8) = 16 ∧ IntKind.i64.wrap (16 + 8) = 24 ∧ IntKind.i64.wrap (24 + 8) = 32 ∧ IntKind.i64.wrap (0 + 1) = 1 ∧ IntKind.i64.wrap (1 + 1) = 2 ∧ IntKind.i64.wrap (2 + 1) = 3 ∧ IntKind.i64.wrap (3 + 1) = 4 := by decide +kernel
set_option maxHeartbeats 1000000 in
theorem sbegin_spec (a b : Int) : Spec Try.prog 86 [dK a b] ((beg a b).sp [] 0) := by
  obtain ⟨q1, q2, q3, q4, q5, q6, q7, q8, q9, q10, q11, q12⟩ := wr8
  have e0 := eight_spec [117, 101, 115, 112, 101, 109, 111, 115] rfl
  have e1 := eight_spec [109, 111, 100, 110, 97, 114, 111, 100] rfl
  have e2 := eight_spec [97, 114, 101, 110, 101, 103, 121, 108] rfl
  have e3 := eight_spec [115, 101, 116, 121, 98, 100, 101, 116] rfl
  rw [show ((lsN [117, 101, 115, 112, 101, 109, 111, 115] : Nat) : Int) = 8317987319222330741 from rfl] at e0
  rw [show ((lsN [109, 111, 100, 110, 97, 114, 111, 100] : Nat) : Int) = 7237128888997146477 from rfl] at e1
  rw [show ((lsN [97, 114, 101, 110, 101, 103, 121, 108] : Nat) : Int) = 7816392313619706465 from rfl] at e2
  rw [show ((lsN [115, 101, 116, 121, 98, 100, 101, 116] : Nat) : Int) = 8387220255154660723 from rfl] at e3
  have hwd : ({ data := #[117, 101, 115, 112, 101, 109, 111, 115, 109, 111, 100, 110, 97, 114, 111, 100, 97, 114, 101, 110, 101, 103, 121, 108, 115, 101, 116, 121, 98, 100, 101, 116] } : ByteArray) = words := rfl
  refine hspec_fn Try.func86 rfl ok_custref_SipBegin okr_custref_SipBegin rfl (by kernel_rfl) ?_
  intro Γ hW0 hN0 hL0
  have hW := hW0 rfl
  clear hW0 hN0 hL0
  unfold x_custref_SipBegin r_custref_SipBegin
  refine auC ?_
  repeat' (first
    | (refine auS ?_)
    | (simp only [hwd])
    | (refine auD ?_)
    | (with_reducible refine runR_b (fun h => ?_) (fun h => ?_) <;> first | exact auH | simp only [h, runR_t, runR_f])
    | (with_reducible refine condK_bl ?_ ?_)
    | (with_reducible refine condK_b (fun h => ?_) (fun h => ?_) <;> first | exact auH | skip)
    | fail)
  refine go_loopH (α := Nat) (fun i => [(⟨.d0, .d0, .d6⟩, .v (.int .i64 (iv i)))]) (fun i => [(2, some ⟨Γ.g0 + 2, 6, [bv a b i]⟩)]) (fun _ => Γ.g0 + 3) (fun i => 4 - i) (fun i => i ≤ 4) 0 (Nat.zero_le _) ?_ ?_
  · skip
    refine le_mk ?_ ?_ (Nat.le_refl _)
    all_goals first | refine auE ?_ | exact auE0
    all_goals (repeat' (first | exact trivial | exact rfl | apply And.intro))
  intro i hi
  dsimp only at hi ⊢
  refine auL ?_
  have hc : i = 0 ∨ i = 1 ∨ i = 2 ∨ i = 3 ∨ i = 4 := by omega
  rcases hc with rfl | rfl | rfl | rfl | rfl
  · skip
    dsimp only [iv, bv]
    repeat' (first
      | (refine auS ?_)
      | (first | (simp only [tm0, tm1, tm2, tm3, q1, q2, q3, q4, q5, q6, q7, q8, w0, w1, w2, w3, w_size]) | (with_reducible refine runR_call e0 ?_) | (with_reducible refine runR_call e1 ?_) | (with_reducible refine runR_call e2 ?_) | (with_reducible refine runR_call e3 ?_))
      | (refine auD ?_)
      | (with_reducible refine runR_b (fun h => ?_) (fun h => ?_) <;> first | exact auH | simp only [h, runR_t, runR_f])
      | (with_reducible refine condK_bl ?_ ?_)
      | (with_reducible refine condK_b (fun h => ?_) (fun h => ?_) <;> first | exact auH | skip)
      | fail)
    (all_goals first | exact auP | skip)
    refine nx_loop ⟨1, by omega, by omega, ?_⟩
    refine le_mk ?_ ?_ (Nat.le_refl _)
    all_goals first | refine auE ?_ | exact auE0
    all_goals (repeat' (first | exact trivial | exact rfl | apply And.intro))
    all_goals (first | (rw [q9]; rfl) | rfl)
  · skip
    dsimp only [iv, bv]
    repeat' (first
      | (refine auS ?_)
      | (first | (simp only [tm0, tm1, tm2, tm3, q1, q2, q3, q4, q5, q6, q7, q8, w0, w1, w2, w3, w_size]) | (with_reducible refine runR_call e0 ?_) | (with_reducible refine runR_call e1 ?_) | (with_reducible refine runR_call e2 ?_) | (with_reducible refine runR_call e3 ?_))
      | (refine auD ?_)
      | (with_reducible refine runR_b (fun h => ?_) (fun h => ?_) <;> first | exact auH | simp only [h, runR_t, runR_f])
      | (with_reducible refine condK_bl ?_ ?_)
      | (with_reducible refine condK_b (fun h => ?_) (fun h => ?_) <;> first | exact auH | skip)
      | fail)
    (all_goals first | exact auP | skip)
    refine nx_loop ⟨2, by omega, by omega, ?_⟩
    refine le_mk ?_ ?_ (Nat.le_refl _)
    all_goals first | refine auE ?_ | exact auE0
    all_goals (repeat' (first | exact trivial | exact rfl | apply And.intro))
    all_goals (first | (rw [q10]; rfl) | rfl)
  · skip
    dsimp only [iv, bv]
    repeat' (first
      | (refine auS ?_)
      | (first | (simp only [tm0, tm1, tm2, tm3, q1, q2, q3, q4, q5, q6, q7, q8, w0, w1, w2, w3, w_size]) | (with_reducible refine runR_call e0 ?_) | (with_reducible refine runR_call e1 ?_) | (with_reducible refine runR_call e2 ?_) | (with_reducible refine runR_call e3 ?_))
      | (refine auD ?_)
      | (with_reducible refine runR_b (fun h => ?_) (fun h => ?_) <;> first | exact auH | simp only [h, runR_t, runR_f])
      | (with_reducible refine condK_bl ?_ ?_)
      | (with_reducible refine condK_b (fun h => ?_) (fun h => ?_) <;> first | exact auH | skip)
      | fail)
    (all_goals first | exact auP | skip)
    refine nx_loop ⟨3, by omega, by omega, ?_⟩
    refine le_mk ?_ ?_ (Nat.le_refl _)
    all_goals first | refine auE ?_ | exact auE0
    all_goals (repeat' (first | exact trivial | exact rfl | apply And.intro))
    all_goals (first | (rw [q11]; rfl) | rfl)
  · skip
    dsimp only [iv, bv]
    repeat' (first
      | (refine auS ?_)
      | (first | (simp only [tm0, tm1, tm2, tm3, q1, q2, q3, q4, q5, q6, q7, q8, w0, w1, w2, w3, w_size]) | (with_reducible refine runR_call e0 ?_) | (with_reducible refine runR_call e1 ?_) | (with_reducible refine runR_call e2 ?_) | (with_reducible refine runR_call e3 ?_))
      | (refine auD ?_)
      | (with_reducible refine runR_b (fun h => ?_) (fun h => ?_) <;> first | exact auH | simp only [h, runR_t, runR_f])
      | (with_reducible refine condK_bl ?_ ?_)
      | (with_reducible refine condK_b (fun h => ?_) (fun h => ?_) <;> first | exact auH | skip)
      | fail)
    (all_goals first | exact auP | skip)
    refine nx_loop ⟨4, by omega, by omega, ?_⟩
    refine le_mk ?_ ?_ (Nat.le_refl _)
    all_goals first | refine auE ?_ | exact auE0
    all_goals (repeat' (first | exact trivial | exact rfl | apply And.intro))
    all_goals (first | (rw [q12]; rfl) | rfl)
  · skip
    dsimp only [iv, bv]
    repeat' (first
      | (refine auS ?_)
      | (first | (simp only [tm0, tm1, tm2, tm3, q1, q2, q3, q4, q5, q6, q7, q8, w0, w1, w2, w3, w_size]) | (with_reducible refine runR_call e0 ?_) | (with_reducible refine runR_call e1 ?_) | (with_reducible refine runR_call e2 ?_) | (with_reducible refine runR_call e3 ?_))
      | (refine auD ?_)
      | (with_reducible refine runR_b (fun h => ?_) (fun h => ?_) <;> first | exact auH | simp only [h, runR_t, runR_f])
      | (with_reducible refine condK_bl ?_ ?_)
      | (with_reducible refine condK_b (fun h => ?_) (fun h => ?_) <;> first | exact auH | skip)
      | fail)
    (all_goals first | exact auP | skip)
    all_goals refine auF ?_
    all_goals (try first | refine auR ?_ | exact auR0)
    all_goals (try simp only [hsM] at *)
    all_goals rfl
end Go.Proofs.Ytegejpieedckiaa
namespace Go.Proofs.Ytegejpieedckiaa
set_option linter.unusedVariables false
set_option linter.unusedSimpArgs false
/-! BITS -/
theorem or_i64 (i : Nat) (x y : Int) (hx : 0 ≤ x) (hx1 : x * 2 ^ i < 2 ^ 62) (hy : 0 ≤ y) (hy1 : y < 2 ^ i) (hy2 : y < 2 ^ 62) : bits .or .i64 (IntKind.i64.wrap (x * 2 ^ i)) y = x * 2 ^ i + y := by
  have h0 : 0 ≤ x * 2 ^ i := Int.mul_nonneg hx (Int.le_of_lt (Int.pow_pos (by decide)))
  rw [i64_keep62 _ h0 hx1, bits_join .i64 62 (by decide) i64_keep62 i _ _ h0 (Int.mul_emod_left _ _) hx1 hy hy1 hy2]
theorem or_u32 (x y : Int) (hx : 0 ≤ x) (hx1 : x * 16777216 < 4294967296) (hy : 0 ≤ y) (hy1 : y < 16777216) : bits .or .u32 (x * 16777216) y = x * 16777216 + y :=
  bits_join .u32 32 (by decide) u32_keep 24 _ _ (by omega) (by show x * 16777216 % 16777216 = 0; omega) (by omega) hy (by omega) (by omega)
theorem bv_and (w : Nat) (x : BitVec w) (m k : Nat) (hm : m = 2 ^ k - 1) (hk : m < 2 ^ w) : (x &&& BitVec.ofNat w m).toNat = x.toNat % 2 ^ k := by
  rw [BitVec.toNat_and, BitVec.toNat_ofNat, Nat.mod_eq_of_lt hk, hm]
  exact Nat.and_two_pow_sub_one_eq_mod x.toNat k
theorem and_u64 (n : Int) (h : u64R n) : bits .and .u64 n 16777215 = n % 16777216 := by
  have e : BitVec.ofInt 64 16777215 = BitVec.ofNat 64 16777215 := by decide
  show IntKind.u64.wrap ((BitVec.ofInt 64 n &&& BitVec.ofInt 64 16777215).toNat : Int) = _
  rw [e, bv_and 64 _ 16777215 24 (by decide) (by decide), BitVec.toNat_ofInt]
  have h2 : ((n % ((2 ^ 64 : Nat) : Int)).toNat : Int) = n % 18446744073709551616 := by
    rw [Int.toNat_of_nonneg (Int.emod_nonneg _ (by decide))]; rfl
  rw [Int.natCast_emod, h2]
  obtain ⟨h3, h4⟩ := h
  rw [u64_keep _ (by omega) (by omega)]
  omega
theorem and_u32 (n : Int) (h : 0 ≤ n ∧ n < 4294967296) : bits .and .u32 n 7 = n % 8 := by
  have e : BitVec.ofInt 32 7 = BitVec.ofNat 32 7 := by decide
  show IntKind.u32.wrap ((BitVec.ofInt 32 n &&& BitVec.ofInt 32 7).toNat : Int) = _
  rw [e, bv_and 32 _ 7 3 (by decide) (by decide), BitVec.toNat_ofInt]
  have h2 : ((n % ((2 ^ 32 : Nat) : Int)).toNat : Int) = n % 4294967296 := by
    rw [Int.toNat_of_nonneg (Int.emod_nonneg _ (by decide))]; rfl
  rw [Int.natCast_emod, h2, u32_keep _ (by omega) (by omega)]
  omega
theorem and_i64 (n : Int) : bits .and .i64 n 31 = n % 32 := by
  have e : BitVec.ofInt 64 31 = BitVec.ofNat 64 31 := by decide
  show IntKind.i64.wrap ((BitVec.ofInt 64 n &&& BitVec.ofInt 64 31).toNat : Int) = _
  rw [e, bv_and 64 _ 31 5 (by decide) (by decide), BitVec.toNat_ofInt]
  have h2 : ((n % ((2 ^ 64 : Nat) : Int)).toNat : Int) = n % 18446744073709551616 := by
    rw [Int.toNat_of_nonneg (Int.emod_nonneg _ (by decide))]; rfl
  rw [Int.natCast_emod, h2, IntWalk.i64_in _ (by omega)]
  omega
/-! THE PROGRAM'S OWN WORDS -/
theorem klong_spec (a : Int) (h0 : 0 ≤ a) (h1 : a < 4294967296) : Spec Try.prog 82 [.v (.int .u32 a)] (.v (.string (mkS (lg a)))) := by
  have m24 : min 24 IntKind.u32.bits = 24 := rfl
  have m16 : min 16 IntKind.u32.bits = 16 := rfl
  have m8 : min 8 IntKind.u32.bits = 8 := rfl
  have d24 : a.fdiv (2 ^ 24) = a / 16777216 := Int.fdiv_eq_ediv_of_nonneg _ (by decide)
  have d16 : a.fdiv (2 ^ 16) = a / 65536 := Int.fdiv_eq_ediv_of_nonneg _ (by decide)
  have d8 : a.fdiv (2 ^ 8) = a / 256 := Int.fdiv_eq_ediv_of_nonneg _ (by decide)
  have hs : strOf [[.v (.int .u8 (IntKind.u8.wrap (a / 16777216)))], [.v (.int .u8 (IntKind.u8.wrap (a / 65536)))], [.v (.int .u8 (IntKind.u8.wrap (a / 256)))], [.v (.int .u8 (IntKind.u8.wrap a))]] = mkS (lg a) := by
    rw [strOf4, u8_wrap, u8_wrap, u8_wrap, u8_wrap]
    unfold lg wd
    rw [u8_eq (show a / 65536 / 256 % 256 = a / 16777216 % 256 by omega)]
    rfl
  refine hspec_fn Try.func82 rfl ok_cookie_long okr_cookie_long rfl (by kernel_rfl) ?_
  intro Γ hW0 hN0 hL0
  have hW := hW0 rfl
  clear hW0 hN0 hL0
  unfold x_cookie_long r_cookie_long
  refine auC ?_
  repeat' (first
    | (refine auS ?_)
    | (simp only [m24, m16, m8, d24, d16, d8, hs])
    | (refine auD ?_)
    | (with_reducible refine runR_b (fun h => ?_) (fun h => ?_) <;> first | exact auH | simp only [h, runR_t, runR_f])
    | (with_reducible refine condK_bl ?_ ?_)
    | (with_reducible refine condK_b (fun h => ?_) (fun h => ?_) <;> first | exact auH | skip)
    | fail)
  (all_goals first | exact auP | skip)
  all_goals refine auF ?_
  all_goals (try first | refine auR ?_ | exact auR0)
  all_goals (try simp only [hsM] at *)
theorem kport_spec (n : Int) : Spec Try.prog 81 [.v (.int .i64 n)] (.v (.bool (decide (0 ≤ n ∧ n ≤ 65535)))) := by
  refine hspec_fn Try.func81 rfl ok_cookie_port okr_cookie_port rfl (by kernel_rfl) ?_
  intro Γ hW0 hN0 hL0
  have hW := hW0 rfl
  clear hW0 hN0 hL0
  unfold x_cookie_port r_cookie_port
  refine auC ?_
  repeat' (first
    | (refine auS ?_)
    | fail
    | (refine auD ?_)
    | (with_reducible refine runR_b (fun h => ?_) (fun h => ?_) <;> first | exact auH | simp only [h, runR_t, runR_f])
    | (with_reducible refine condK_bl ?_ ?_)
    | (with_reducible refine condK_b (fun h => ?_) (fun h => ?_) <;> first | exact auH | skip)
    | fail)
  (all_goals first | exact auP | skip)
  all_goals refine auF ?_
  all_goals (try first | refine auR ?_ | exact auR0)
  all_goals (try simp only [hsM] at *)
  all_goals (refine dbool ?_; first | (simp_all; done) | (simp_all; omega))
abbrev dRoad (a b p q : Int) : DV := .agg [.v (.int .u32 a), .v (.int .u32 b), .v (.int .i64 p), .v (.int .i64 q)]
def roadB (p q : Int) : Bool := decide (0 ≤ p ∧ p ≤ 65535) && decide (0 ≤ q ∧ q ≤ 65535)
theorem road_spec (a b p q : Int) : Spec Try.prog 39 [dRoad a b p q] (.v (.bool (roadB p q))) := by
  unfold roadB
  refine hspec_fn Try.func39 rfl ok_custref_RoadRight okr_custref_RoadRight rfl (by kernel_rfl) ?_
  intro Γ hW0 hN0 hL0
  have hW := hW0 rfl
  clear hW0 hN0 hL0
  unfold x_custref_RoadRight r_custref_RoadRight
  refine auC ?_
  repeat' (first
    | (refine auS ?_)
    | (with_reducible refine runR_call (between_spec _ _ _) ?_)
    | (refine auD ?_)
    | (with_reducible refine runR_b (fun h => ?_) (fun h => ?_) <;> first | exact auH | simp only [h, runR_t, runR_f])
    | (with_reducible refine condK_bl ?_ ?_)
    | (with_reducible refine condK_b (fun h => ?_) (fun h => ?_) <;> first | exact auH | skip)
    | fail)
  (all_goals first | exact auP | skip)
  all_goals refine auF ?_
  all_goals (try first | refine auR ?_ | exact auR0)
  all_goals (try simp only [hsM] at *)
  all_goals (refine dbool ?_; first | (simp_all; done) | (simp_all; omega))
/-! SIZES -/
def sz8 : Nat → Int
  | 0 => 216
  | 1 => 536
  | 2 => 1220
  | 3 => 1300
  | 4 => 1360
  | 5 => 1440
  | 6 => 1460
  | _ => 8960
theorem szD_at (i : Nat) (h : i < 8) : dget (ddrop [.v (.int .i64 216), .v (.int .i64 536), .v (.int .i64 1220), .v (.int .i64 1300), .v (.int .i64 1360), .v (.int .i64 1440), .v (.int .i64 1460), .v (.int .i64 8960)] i) 0 = .v (.int .i64 (sz8 i)) := by
  match i, h with
  | 0, _ => rfl
  | 1, _ => rfl
  | 2, _ => rfl
  | 3, _ => rfl
  | 4, _ => rfl
  | 5, _ => rfl
  | 6, _ => rfl
  | 7, _ => rfl
theorem szR_at (i : Nat) (h : i < 8) : xget [[.v (.int .i64 216)], [.v (.int .i64 536)], [.v (.int .i64 1220)], [.v (.int .i64 1300)], [.v (.int .i64 1360)], [.v (.int .i64 1440)], [.v (.int .i64 1460)], [.v (.int .i64 8960)]] i = [.v (.int .i64 (sz8 i))] := by
  match i, h with
  | 0, _ => rfl
  | 1, _ => rfl
  | 2, _ => rfl
  | 3, _ => rfl
  | 4, _ => rfl
  | 5, _ => rfl
  | 6, _ => rfl
  | 7, _ => rfl
theorem sizes_spec : Spec Try.prog 84 [] (.agg [.v (.int .i64 216), .v (.int .i64 536), .v (.int .i64 1220), .v (.int .i64 1300), .v (.int .i64 1360), .v (.int .i64 1440), .v (.int .i64 1460), .v (.int .i64 8960)]) := by
  refine hspec_fn Try.func84 rfl ok_cookie_Sizes okr_cookie_Sizes rfl (by kernel_rfl) ?_
  intro Γ hW0 hN0 hL0
  have hW := hW0 rfl
  clear hW0 hN0 hL0
  unfold x_cookie_Sizes r_cookie_Sizes
  refine auC ?_
  repeat' (first
    | (refine auS ?_)
    | fail
    | (refine auD ?_)
    | (with_reducible refine runR_b (fun h => ?_) (fun h => ?_) <;> first | exact auH | simp only [h, runR_t, runR_f])
    | (with_reducible refine condK_bl ?_ ?_)
    | (with_reducible refine condK_b (fun h => ?_) (fun h => ?_) <;> first | exact auH | skip)
    | fail)
  all_goals refine auF ?_
  all_goals (try first | refine auR ?_ | exact auR0)
  all_goals (try simp only [hsM] at *)
  all_goals rfl
theorem ksizes_spec : Spec Try.prog 33 [] (.snap 1 [[.v (.int .i64 216)], [.v (.int .i64 536)], [.v (.int .i64 1220)], [.v (.int .i64 1300)], [.v (.int .i64 1360)], [.v (.int .i64 1440)], [.v (.int .i64 1460)], [.v (.int .i64 8960)]] true) := by
  refine hspec_fn Try.func33 rfl ok_custref_CookieSizes okr_custref_CookieSizes rfl (by kernel_rfl) ?_
  intro Γ hW0 hN0 hL0
  have hW := hW0 rfl
  clear hW0 hN0 hL0
  unfold x_custref_CookieSizes r_custref_CookieSizes
  refine auC ?_
  repeat' (first
    | (refine auS ?_)
    | fail
    | (refine auD ?_)
    | (with_reducible refine runR_b (fun h => ?_) (fun h => ?_) <;> first | exact auH | simp only [h, runR_t, runR_f])
    | (with_reducible refine condK_bl ?_ ?_)
    | (with_reducible refine condK_b (fun h => ?_) (fun h => ?_) <;> first | exact auH | skip)
    | fail)
  refine retq_le (leG_freeze hW ⟨.d0, .d0, .d0⟩ rfl rfl ⟨rfl, rfl, by exact Nat.le_refl _⟩) ?_
  dsimp only [xtake, xdrop]
  all_goals refine auF ?_
  all_goals (try first | refine auR ?_ | exact auR0)
  all_goals (try simp only [hsM] at *)
  all_goals rfl
def atI (n : Int) : Nat → Int
  | 0 => 0
  | i + 1 => if sz8 i ≤ n then (i : Nat) else atI n i
theorem atI_yes {n : Int} {i : Nat} (h : sz8 i ≤ n) : atI n (i + 1) = (i : Nat) := if_pos h
theorem atI_no {n : Int} {i : Nat} (h : ¬ sz8 i ≤ n) : atI n (i + 1) = atI n i := if_neg h
theorem index_spec (n : Int) : Spec Try.prog 58 [.v (.int .i64 n)] (.v (.int .i64 (atI n 8))) := by
  have hz := sizes_spec
  refine hspec_fn Try.func58 rfl ok_cookie_Index okr_cookie_Index rfl (by kernel_rfl) ?_
  intro Γ hW0 hN0 hL0
  have hW := hW0 rfl
  clear hW0 hN0 hL0
  unfold x_cookie_Index r_cookie_Index
  refine auC ?_
  repeat' (first
    | (refine auS ?_)
    | (with_reducible refine runR_call hz ?_)
    | (refine auD ?_)
    | (with_reducible refine runR_b (fun h => ?_) (fun h => ?_) <;> first | exact auH | simp only [h, runR_t, runR_f])
    | (with_reducible refine condK_bl ?_ ?_)
    | (with_reducible refine condK_b (fun h => ?_) (fun h => ?_) <;> first | exact auH | skip)
    | fail)
  refine go_loopH (α := Nat) (fun i => [(⟨.d0, .d0, .d3⟩, .v (.int .i64 (atI n i))), (⟨.d0, .d0, .d7⟩, .v (.int .i64 (i : Nat)))]) (fun _ => []) (fun _ => Γ.g0) (fun i => 8 - i) (fun i => i ≤ 8) 0 (by decide) ?_ ?_
  · skip
    refine le_mk ?_ ?_ (Nat.le_refl _)
    all_goals first | refine auE ?_ | exact auE0
    all_goals (repeat' (first | exact trivial | exact rfl | apply And.intro))
  intro i hi
  dsimp only at hi ⊢
  refine auL ?_
  by_cases hlt : i < 8
  · have ex := szD_at i hlt
    by_cases hn : sz8 i ≤ n
    · have ha := atI_yes hn
      generalize sz8 i = z at *
      repeat' (first
        | (refine auS ?_)
        | (simp only [Int.toNat_natCast, Nat.mul_one, ex])
        | (refine auD ?_)
        | (with_reducible refine runR_b (fun h => ?_) (fun h => ?_) <;> first | exact auH | simp only [h, runR_t, runR_f])
        | (with_reducible refine condK_bl ?_ ?_)
        | (with_reducible refine condK_b (fun h => ?_) (fun h => ?_) <;> first | exact auH | skip)
        | fail)
      (all_goals first | exact auP | skip)
      all_goals first
        | (exfalso; simp_all; done)
        | skip
      refine nx_loop ⟨i + 1, hlt, by omega, ?_⟩
      rw [ha]
      refine le_mk ?_ ?_ (Nat.le_refl _)
      all_goals first | refine auE ?_ | exact auE0
      all_goals (repeat' (first | exact trivial | exact rfl | apply And.intro))
      all_goals exact dint ((IntWalk.i64_in _ (by omega)).trans (by omega))
    · have ha := atI_no hn
      generalize sz8 i = z at *
      repeat' (first
        | (refine auS ?_)
        | (simp only [Int.toNat_natCast, Nat.mul_one, ex])
        | (refine auD ?_)
        | (with_reducible refine runR_b (fun h => ?_) (fun h => ?_) <;> first | exact auH | simp only [h, runR_t, runR_f])
        | (with_reducible refine condK_bl ?_ ?_)
        | (with_reducible refine condK_b (fun h => ?_) (fun h => ?_) <;> first | exact auH | skip)
        | fail)
      (all_goals first | exact auP | skip)
      all_goals first
        | (exfalso; simp_all; done)
        | skip
      refine nx_loop ⟨i + 1, hlt, by omega, ?_⟩
      rw [ha]
      refine le_mk ?_ ?_ (Nat.le_refl _)
      all_goals first | refine auE ?_ | exact auE0
      all_goals (repeat' (first | exact trivial | exact rfl | apply And.intro))
      all_goals exact dint ((IntWalk.i64_in _ (by omega)).trans (by omega))
  · obtain rfl : i = 8 := by omega
    repeat' (first
      | (refine auS ?_)
      | fail
      | (refine auD ?_)
      | (with_reducible refine runR_b (fun h => ?_) (fun h => ?_) <;> first | exact auH | simp only [h, runR_t, runR_f])
      | (with_reducible refine condK_bl ?_ ?_)
      | (with_reducible refine condK_b (fun h => ?_) (fun h => ?_) <;> first | exact auH | skip)
      | fail)
    (all_goals first | exact auP | skip)
    all_goals first
      | (exfalso; simp_all; done)
      | skip
    all_goals refine auF ?_
    all_goals (try first | refine auR ?_ | exact auR0)
    all_goals (try simp only [hsM] at *)
end Go.Proofs.Ytegejpieedckiaa
namespace Go.Proofs.Ytegejpieedckiaa
set_option linter.unusedVariables false
set_option linter.unusedSimpArgs false
theorem absorb_c (v : V4) (hv : v.ok) (l : List UInt8) : (absorb v l).1.ok := absorb_ok l.length v l (Nat.le_refl _) hv
def sipV (a b : Int) (s : List UInt8) : Int := (endR (moreR (beg a b) [] 0 s).1 (moreR (beg a b) [] 0 s).2.1 (moreR (beg a b) [] 0 s).2.2.1).1
theorem sipV_rng (a b : Int) (s : List UInt8) : u64R (sipV a b s) := by
  unfold sipV endR
  split
  · exact xo_rng _ _
  · exact ⟨(by decide : (0:Int) ≤ 0), (by decide : (0:Int) < 18446744073709551616)⟩
theorem kof_spec (a b : Int) (s : List UInt8) (hs : s.length ≤ 140737488351232) : Spec Try.prog 83 [dK a b, .v (.string (mkS s))] (.v (.int .u64 (sipV a b s))) := by
  have h1 := begin_spec a b
  have h2 := more_spec (beg a b) (beg_ok a b) [] 0 s (by decide) hs
  have e0 : sipErr [] 0 = 0 := rfl
  have hok : (moreR (beg a b) [] 0 s).1.ok := by unfold moreR; rw [if_pos e0]; exact absorb_c _ (beg_ok a b) _
  have hn : (moreR (beg a b) [] 0 s).2.2.1 < 9223372036854775808 := by unfold moreR; rw [if_pos e0]; show (0 : Int) + s.length < _; omega
  have h3 := end_spec _ hok (moreR (beg a b) [] 0 s).2.1 _ hn
  unfold sipV
  refine hspec_fn Try.func83 rfl ok_sip_Of okr_sip_Of rfl (by kernel_rfl) ?_
  intro Γ hW0 hN0 hL0
  have hW := hW0 rfl
  clear hW0 hN0 hL0
  unfold x_sip_Of r_sip_Of
  refine auC ?_
  repeat' (first
    | (refine auS ?_)
    | (first | (with_reducible refine runR_call h1 ?_) | (with_reducible refine runR_call h2 ?_) | (with_reducible refine runR_call h3 ?_))
    | (refine auD ?_)
    | (with_reducible refine runR_b (fun h => ?_) (fun h => ?_) <;> first | exact auH | simp only [h, runR_t, runR_f])
    | (with_reducible refine condK_bl ?_ ?_)
    | (with_reducible refine condK_b (fun h => ?_) (fun h => ?_) <;> first | exact auH | skip)
    | fail)
  (all_goals first | exact auP | skip)
  all_goals refine auF ?_
  all_goals (try first | refine auR ?_ | exact auR0)
  all_goals (try simp only [hsM] at *)
theorem ksof_spec (a b : Int) (s : List UInt8) (hs : s.length ≤ 140737488351232) : Spec Try.prog 65 [dK a b, .v (.string (mkS s))] (.v (.int .u64 (sipV a b s))) := by
  have h1 := sbegin_spec a b
  have h2 := smore_spec (beg a b) (beg_ok a b) [] 0 s (by decide) hs
  have e0 : sipErr [] 0 = 0 := rfl
  have hok : (moreR (beg a b) [] 0 s).1.ok := by unfold moreR; rw [if_pos e0]; exact absorb_c _ (beg_ok a b) _
  have hn : (moreR (beg a b) [] 0 s).2.2.1 < 9223372036854775808 := by unfold moreR; rw [if_pos e0]; show (0 : Int) + s.length < _; omega
  have h3 := srend_spec _ hok (moreR (beg a b) [] 0 s).2.1 _ hn
  unfold sipV
  refine hspec_fn Try.func65 rfl ok_custref_SipOf okr_custref_SipOf rfl (by kernel_rfl) ?_
  intro Γ hW0 hN0 hL0
  have hW := hW0 rfl
  clear hW0 hN0 hL0
  unfold x_custref_SipOf r_custref_SipOf
  refine auC ?_
  repeat' (first
    | (refine auS ?_)
    | (first | (with_reducible refine runR_call h1 ?_) | (with_reducible refine runR_call h2 ?_) | (with_reducible refine runR_call h3 ?_))
    | (refine auD ?_)
    | (with_reducible refine runR_b (fun h => ?_) (fun h => ?_) <;> first | exact auH | simp only [h, runR_t, runR_f])
    | (with_reducible refine condK_bl ?_ ?_)
    | (with_reducible refine condK_b (fun h => ?_) (fun h => ?_) <;> first | exact auH | skip)
    | fail)
  (all_goals first | exact auP | skip)
  all_goals refine auF ?_
  all_goals (try first | refine auR ?_ | exact auR0)
  all_goals (try simp only [hsM] at *)
def ckT (f t p q s c i : Int) : List UInt8 := lg f ++ lg t ++ wd p ++ wd q ++ lg s ++ [u8 c, u8 i]
def ckOk (p q c i : Int) : Prop := ((0 ≤ p ∧ p ≤ 65535) ∧ (0 ≤ q ∧ q ≤ 65535)) ∧ (0 ≤ c ∧ c ≤ 31) ∧ (0 ≤ i ∧ i ≤ 7)
instance (p q c i : Int) : Decidable (ckOk p q c i) := by unfold ckOk; infer_instance
def ckR (a b f t p q s c i : Int) : Int × Int := if ckOk p q c i then ((c * 8 + i) * 16777216 + sipV a b (ckT f t p q s c i) % 16777216, 0) else (0, 1)
abbrev dCk (r : Int × Int) : DV := .tup [.v (.int .u32 r.1), .v (.int .i64 r.2)]
theorem lg_two (p q : Int) (hq : 0 ≤ q ∧ q ≤ 65535) : lg (p * 65536 + q) = wd p ++ wd q := by
  unfold lg
  rw [wd_eq (show (p * 65536 + q) / 65536 % 65536 = p % 65536 by omega), wd_eq (show (p * 65536 + q) % 65536 = q % 65536 by omega)]
set_option maxHeartbeats 4000000 in
theorem make_spec (a b f t p q s c i : Int) (hf : 0 ≤ f ∧ f < 4294967296) (ht : 0 ≤ t ∧ t < 4294967296) (hs : 0 ≤ s ∧ s < 4294967296) : Spec Try.prog 57 [dK a b, dRoad f t p q, .v (.int .u32 s), .v (.int .i64 c), .v (.int .i64 i)] (dCk (ckR a b f t p q s c i)) := by
  by_cases hok : ckOk p q c i
  · have hr : ckR a b f t p q s c i = ((c * 8 + i) * 16777216 + sipV a b (ckT f t p q s c i) % 16777216, 0) := if_pos hok
    rw [hr]
    clear hr
    obtain ⟨⟨hp, hq⟩, hc, hi⟩ := hok
    have l1 := klong_spec f hf.1 hf.2
    have l2 := klong_spec t ht.1 ht.2
    have l3 := klong_spec (p * 65536 + q) (by omega) (by omega)
    have l4 := klong_spec s hs.1 hs.2
    have hT : lg f ++ lg t ++ lg (p * 65536 + q) ++ lg s ++ [u8 c, u8 i] = ckT f t p q s c i := by rw [lg_two p q hq]; unfold ckT; simp only [List.append_assoc]
    have hs := kof_spec a b (lg f ++ lg t ++ lg (p * 65536 + q) ++ lg s ++ [u8 c, u8 i]) (by simp only [List.length_append, List.length_cons, List.length_nil, lg_len, wd_len]; omega)
    rw [← hT]
    have hv := sipV_rng a b (lg f ++ lg t ++ lg (p * 65536 + q) ++ lg s ++ [u8 c, u8 i])
    generalize sipV a b (lg f ++ lg t ++ lg (p * 65536 + q) ++ lg s ++ [u8 c, u8 i]) = v at *
    have hst : strOf [[.v (.int .u8 (IntKind.u8.wrap c))], [.v (.int .u8 (IntKind.u8.wrap i))]] = mkS [u8 c, u8 i] := by rw [strOf2, u8_wrap, u8_wrap]
    have m16 : min 16 IntKind.i64.bits = 16 := rfl
    have m24 : min 24 IntKind.i64.bits = 24 := rfl
    have m27 : min 27 IntKind.i64.bits = 27 := rfl
    have o1 : bits .or .i64 (IntKind.i64.wrap (p * 2 ^ 16)) q = p * 65536 + q := by rw [or_i64 16 p q hp.1 (by omega) hq.1 (by omega) (by omega)]; omega
    have o2 : IntKind.u32.wrap (p * 65536 + q) = p * 65536 + q := u32_keep _ (by omega) (by omega)
    have o3 : bits .or .i64 (IntKind.i64.wrap (c * 2 ^ 27)) (IntKind.i64.wrap (i * 2 ^ 24)) = (c * 8 + i) * 16777216 := by
      rw [i64_keep62 (i * 2 ^ 24) (by omega) (by omega), or_i64 27 c _ hc.1 (by omega) (by omega) (by omega) (by omega)]; omega
    have o4 : IntKind.u32.wrap ((c * 8 + i) * 16777216) = (c * 8 + i) * 16777216 := u32_keep _ (by omega) (by omega)
    have o5 := and_u64 v hv
    have o6 : IntKind.u32.wrap (v % 16777216) = v % 16777216 := u32_keep _ (by omega) (by omega)
    have o7 := or_u32 (c * 8 + i) (v % 16777216) (by omega) (by omega) (by omega) (by omega)
    refine hspec_fn Try.func57 rfl ok_cookie_Make okr_cookie_Make rfl (by kernel_rfl) ?_
    intro Γ hW0 hN0 hL0
    have hW := hW0 rfl
    clear hW0 hN0 hL0
    unfold x_cookie_Make r_cookie_Make
    refine auC ?_
    repeat' (first
      | (refine auS ?_)
      | (first | (simp only [mkS_app]) | (simp only [m16, o1, o2]) | (simp only [m27, m24, o3, o4, o5, o6, o7]) | (simp only [hst]) | (with_reducible refine runR_call (kport_spec _) ?_) | (with_reducible refine runR_call l1 ?_) | (with_reducible refine runR_call l2 ?_) | (with_reducible refine runR_call l3 ?_) | (with_reducible refine runR_call l4 ?_) | (with_reducible refine runR_call hs ?_))
      | (refine auD ?_)
      | (with_reducible refine runR_b (fun h => ?_) (fun h => ?_) <;> first | exact auH | simp only [h, runR_t, runR_f])
      | (with_reducible refine condK_bl ?_ ?_)
      | (with_reducible refine condK_b (fun h => ?_) (fun h => ?_) <;> first | exact auH | skip)
      | (refine runR_n (by simp only [mkS_size, List.length_append, List.length_cons, List.length_nil, lg_len, wd_len]; omega) ?_))
    (all_goals first | exact auP | skip)
    all_goals first
      | (exfalso; simp_all; done)
      | skip
    all_goals refine auF ?_
    all_goals (try first | refine auR ?_ | exact auR0)
    all_goals (try simp only [hsM] at *)
    all_goals rfl
  · have hr : ckR a b f t p q s c i = (0, 1) := if_neg hok
    rw [hr]
    unfold ckOk at hok
    clear hr
    refine hspec_fn Try.func57 rfl ok_cookie_Make okr_cookie_Make rfl (by kernel_rfl) ?_
    intro Γ hW0 hN0 hL0
    have hW := hW0 rfl
    clear hW0 hN0 hL0
    unfold x_cookie_Make r_cookie_Make
    refine auC ?_
    repeat' (first
      | (refine auS ?_)
      | (with_reducible refine runR_call (kport_spec _) ?_)
      | (refine auD ?_)
      | (with_reducible refine runR_b (fun h => ?_) (fun h => ?_) <;> first | exact auH | simp only [h, runR_t, runR_f])
      | (with_reducible refine condK_bl ?_ ?_)
      | (with_reducible refine condK_b (fun h => ?_) (fun h => ?_) <;> first | exact auH | skip)
      | fail)
    (all_goals first | exact auP | skip)
    all_goals first
      | (exfalso; simp_all; done)
      | (exfalso; simp_all; omega)
      | skip
    all_goals refine auF ?_
    all_goals (try first | refine auR ?_ | exact auR0)
    all_goals (try simp only [hsM] at *)
    all_goals rfl
set_option maxHeartbeats 4000000 in
theorem cookieOf_spec (a b f t p q s c i : Int) (hf : 0 ≤ f ∧ f < 4294967296) (ht : 0 ≤ t ∧ t < 4294967296) (hs : 0 ≤ s ∧ s < 4294967296) : Spec Try.prog 34 [dK a b, dRoad f t p q, .v (.int .u32 s), .v (.int .i64 c), .v (.int .i64 i)] (dCk (ckR a b f t p q s c i)) := by
  have hro := road_spec f t p q
  by_cases hok : ckOk p q c i
  · have hr : ckR a b f t p q s c i = ((c * 8 + i) * 16777216 + sipV a b (ckT f t p q s c i) % 16777216, 0) := if_pos hok
    rw [hr]
    clear hr
    obtain ⟨⟨hp, hq⟩, hc, hi⟩ := hok
    have hrt : roadB p q = true := by unfold roadB; simp [hp, hq]
    rw [hrt] at hro
    have l1 := long_spec f hf.1 hf.2
    have l2 := long_spec t ht.1 ht.2
    have l3 := word_spec p hp.1
    have l4 := word_spec q hq.1
    have l5 := long_spec s hs.1 hs.2
    have hs := ksof_spec a b (ckT f t p q s c i) (by unfold ckT; simp only [List.length_append, List.length_cons, List.length_nil, lg_len, wd_len]; omega)
    have hv := sipV_rng a b (ckT f t p q s c i)
    generalize sipV a b (ckT f t p q s c i) = v at *
    unfold ckT at hs
    have o1 : v.tmod 16777216 = v % 16777216 := Int.tmod_eq_emod_of_nonneg hv.1
    have o2 : IntKind.i64.wrap (c * 8) = c * 8 := IntWalk.i64_in _ (by omega)
    have o3 : IntKind.i64.wrap (c * 8 + i) = c * 8 + i := IntWalk.i64_in _ (by omega)
    have o4 : IntKind.i64.wrap ((c * 8 + i) * 16777216) = (c * 8 + i) * 16777216 := IntWalk.i64_in _ (by omega)
    have o5 : IntKind.i64.wrap (v % 16777216) = v % 16777216 := IntWalk.i64_in _ (by omega)
    have o6 : IntKind.u32.wrap (IntKind.i64.wrap ((c * 8 + i) * 16777216 + v % 16777216)) = (c * 8 + i) * 16777216 + v % 16777216 := by rw [IntWalk.i64_in _ (by omega), u32_keep _ (by omega) (by omega)]
    refine hspec_fn Try.func34 rfl ok_custref_CookieOf okr_custref_CookieOf rfl (by kernel_rfl) ?_
    intro Γ hW0 hN0 hL0
    have hW := hW0 rfl
    clear hW0 hN0 hL0
    unfold x_custref_CookieOf r_custref_CookieOf
    refine auC ?_
    repeat' (first
      | (refine auS ?_)
      | (first | (simp only [mkS_app]) | (simp only [o1, o2, o3, o4, o5, o6]) | (with_reducible refine runR_call hro ?_) | (with_reducible refine runR_call (between_spec _ _ _) ?_) | (with_reducible refine runR_callS rfl (bytes2 c i _ _ _) ?_) | (with_reducible refine runR_call l1 ?_) | (with_reducible refine runR_call l2 ?_) | (with_reducible refine runR_call l3 ?_) | (with_reducible refine runR_call l4 ?_) | (with_reducible refine runR_call l5 ?_) | (with_reducible refine runR_call hs ?_))
      | (refine auD ?_)
      | (with_reducible refine runR_b (fun h => ?_) (fun h => ?_) <;> first | exact auH | simp only [h, runR_t, runR_f])
      | (with_reducible refine condK_bl ?_ ?_)
      | (with_reducible refine condK_b (fun h => ?_) (fun h => ?_) <;> first | exact auH | skip)
      | (refine runR_n (by simp only [mkS_size, List.length_append, List.length_cons, List.length_nil, lg_len, wd_len]; omega) ?_))
    (all_goals first | exact auP | skip)
    all_goals first
      | (exfalso; simp_all; done)
      | skip
    all_goals refine auF ?_
    all_goals (try first | refine auR ?_ | exact auR0)
    all_goals (try simp only [hsM] at *)
    all_goals rfl
  · have hr : ckR a b f t p q s c i = (0, 1) := if_neg hok
    rw [hr]
    unfold ckOk at hok
    unfold roadB at hro
    clear hr
    refine hspec_fn Try.func34 rfl ok_custref_CookieOf okr_custref_CookieOf rfl (by kernel_rfl) ?_
    intro Γ hW0 hN0 hL0
    have hW := hW0 rfl
    clear hW0 hN0 hL0
    unfold x_custref_CookieOf r_custref_CookieOf
    refine auC ?_
    repeat' (first
      | (refine auS ?_)
      | (first | (with_reducible refine runR_call hro ?_) | (with_reducible refine runR_call (between_spec _ _ _) ?_))
      | (refine auD ?_)
      | (with_reducible refine runR_b (fun h => ?_) (fun h => ?_) <;> first | exact auH | simp only [h, runR_t, runR_f])
      | (with_reducible refine condK_bl ?_ ?_)
      | (with_reducible refine condK_b (fun h => ?_) (fun h => ?_) <;> first | exact auH | skip)
      | fail)
    (all_goals first | exact auP | skip)
    all_goals first
      | (exfalso; simp_all; done)
      | (exfalso; simp_all; omega)
      | skip
    all_goals refine auF ?_
    all_goals (try first | refine auR ?_ | exact auR0)
    all_goals (try simp only [hsM] at *)
    all_goals rfl
end Go.Proofs.Ytegejpieedckiaa
namespace Go.Proofs.Ytegejpieedckiaa
set_option linter.unusedVariables false
set_option linter.unusedSimpArgs false
abbrev kC (k : Int) : Int := k / 134217728
abbrev kI (k : Int) : Int := k / 16777216 % 8
def opR (a b f t p q s k n : Int) : Int × Int :=
  if ¬ (((0 ≤ p ∧ p ≤ 65535) ∧ (0 ≤ q ∧ q ≤ 65535)) ∧ (0 ≤ n ∧ n ≤ 31)) then (0, 1)
  else if ¬ (n - kC k) % 32 ≤ 1 then (0, 9)
  else if ¬ (ckR a b f t p q s (kC k) (kI k)).1 = k then (0, 5)
  else (sz8 (kI k).toNat, 0)
abbrev dOp (r : Int × Int) : DV := .tup [.v (.int .i64 r.1), .v (.int .i64 r.2)]
theorem ck_ok {p q k : Int} (h : (0 ≤ p ∧ p ≤ 65535) ∧ (0 ≤ q ∧ q ≤ 65535)) (hk : 0 ≤ k ∧ k < 4294967296) : ckOk p q (kC k) (kI k) := by
  have hkc : kC k = k / 134217728 := rfl
  have hki : kI k = k / 16777216 % 8 := rfl
  exact ⟨h, by omega, by omega⟩
theorem ckR_ok {a b f t p q s c i : Int} (h : ckOk p q c i) : (ckR a b f t p q s c i).2 = 0 := by unfold ckR; rw [if_pos h]
theorem ckR_no {a b f t p q s c i : Int} (h : ¬ ckOk p q c i) : ckR a b f t p q s c i = (0, 1) := if_neg h
set_option maxHeartbeats 4000000 in
theorem open_spec (a b f t p q s k n : Int) (hf : 0 ≤ f ∧ f < 4294967296) (ht : 0 ≤ t ∧ t < 4294967296) (hs : 0 ≤ s ∧ s < 4294967296) (hk : 0 ≤ k ∧ k < 4294967296) : Spec Try.prog 60 [dK a b, dRoad f t p q, .v (.int .u32 s), .v (.int .u32 k), .v (.int .i64 n)] (dOp (opR a b f t p q s k n)) := by
  have hm := make_spec a b f t p q s (kC k) (kI k) hf ht hs
  have hro := road_spec f t p q
  have hkc : kC k = k / 134217728 := rfl
  have hki : kI k = k / 16777216 % 8 := rfl
  have m24 : min 24 IntKind.u32.bits = 24 := rfl
  have m27 : min 27 IntKind.u32.bits = 27 := rfl
  have d24 : k.fdiv (2 ^ 24) = k / 16777216 := Int.fdiv_eq_ediv_of_nonneg _ (by decide)
  have d27 : k.fdiv (2 ^ 27) = kC k := Int.fdiv_eq_ediv_of_nonneg _ (by decide)
  have a7 : bits .and .u32 (k / 16777216) 7 = kI k := and_u32 _ (by omega)
  have w1 : IntKind.i64.wrap (kC k) = kC k := IntWalk.i64_in _ (by omega)
  have w2 : IntKind.i64.wrap (kI k) = kI k := IntWalk.i64_in _ (by omega)
  have w0 : IntKind.i64.wrap k = k := IntWalk.i64_in _ (by omega)
  have t1 : IntKind.i64.wrap (k.tdiv 16777216) = k / 16777216 := by rw [Int.tdiv_eq_ediv_of_nonneg hk.1, IntWalk.i64_in _ (by omega)]
  have t2 : IntKind.i64.wrap ((k / 16777216).tdiv 8) = kC k := by rw [Int.tdiv_eq_ediv_of_nonneg (by omega), IntWalk.i64_in _ (by omega)]; omega
  have t3 : (k / 16777216).tmod 8 = kI k := Int.tmod_eq_emod_of_nonneg (by omega)
  by_cases hn : 0 ≤ n ∧ n ≤ 31
  · have a31 : bits .and .i64 (IntKind.i64.wrap (n - kC k)) 31 = (n - kC k) % 32 := by rw [and_i64, IntWalk.i64_in _ (by omega)]
    have w3 : (IntKind.i64.wrap (n + 31)).tmod 32 = (n + 31) % 32 := by rw [IntWalk.i64_in _ (by omega), Int.tmod_eq_emod_of_nonneg (by omega)]
    by_cases hp : (0 ≤ p ∧ p ≤ 65535) ∧ (0 ≤ q ∧ q ≤ 65535)
    · have hrt : roadB p q = true := by unfold roadB; simp [hp]
      rw [hrt] at hro
      have e2 : (ckR a b f t p q s (kC k) (kI k)).2 = 0 := ckR_ok (ck_ok hp hk)
      have hi : kI k = ((kI k).toNat : Int) := by omega
      have hi8 : (kI k).toNat < 8 := by omega
      have hc : 0 ≤ kC k ∧ kC k ≤ 31 := by omega
      have hst : (n - kC k) % 32 ≤ 1 ↔ (kC k = n ∨ kC k = (n + 31) % 32) := by omega
      unfold opR
      rw [if_neg (not_not_intro ⟨hp, hn⟩)]
      clear hp hrt
      have hq : ∀ x : Int × Int, x.2 = 0 → x = (x.1, 0) := fun x h => by rw [← h]
      rw [hq _ e2] at hm
      clear hq e2
      generalize (ckR a b f t p q s (kC k) (kI k)).1 = v at *
      generalize kC k = c at *
      generalize kI k = i at *
      generalize i.toNat = j at *
      subst hi
      have ez := szD_at j hi8
      have ex := szR_at j hi8
      generalize sz8 j = z at *
      by_cases h1 : (n - c) % 32 ≤ 1
      · rw [if_neg (not_not_intro h1)]
        have h1' := hst.1 h1
        clear hst
        by_cases h2 : v = k
        · rw [if_neg (not_not_intro h2)]
          refine hspec_fn Try.func60 rfl ok_cookie_Open okr_cookie_Open rfl (by kernel_rfl) ?_
          intro Γ hW0 hN0 hL0
          have hW := hW0 rfl
          clear hW0 hN0 hL0
          unfold x_cookie_Open r_cookie_Open
          refine auC ?_
          repeat' (first
            | (refine auS ?_)
            | (first | (simp only [m27, m24, d27, d24, a7, w1, w2, w3, a31]) | (simp only [Int.toNat_natCast, Nat.mul_one, ez]) | (with_reducible refine runR_call hm ?_) | (with_reducible refine runR_call sizes_spec ?_))
            | (refine auD ?_)
            | (with_reducible refine runR_b (fun h => ?_) (fun h => ?_) <;> first | exact auH | simp only [h, runR_t, runR_f])
            | (with_reducible refine condK_bl ?_ ?_)
            | (with_reducible refine condK_b (fun h => ?_) (fun h => ?_) <;> first | exact auH | skip)
            | fail)
          (all_goals first | exact auP | skip)
          all_goals first
            | (exfalso; simp_all; done)
            | skip
          all_goals refine auF ?_
          all_goals (try first | refine auR ?_ | exact auR0)
          all_goals (try simp only [hsM] at *)
          all_goals rfl
        · rw [if_pos h2]
          refine hspec_fn Try.func60 rfl ok_cookie_Open okr_cookie_Open rfl (by kernel_rfl) ?_
          intro Γ hW0 hN0 hL0
          have hW := hW0 rfl
          clear hW0 hN0 hL0
          unfold x_cookie_Open r_cookie_Open
          refine auC ?_
          repeat' (first
            | (refine auS ?_)
            | (first | (simp only [m27, m24, d27, d24, a7, w1, w2, w3, a31]) | (simp only [Int.toNat_natCast, Nat.mul_one, ez]) | (with_reducible refine runR_call hm ?_) | (with_reducible refine runR_call sizes_spec ?_))
            | (refine auD ?_)
            | (with_reducible refine runR_b (fun h => ?_) (fun h => ?_) <;> first | exact auH | simp only [h, runR_t, runR_f])
            | (with_reducible refine condK_bl ?_ ?_)
            | (with_reducible refine condK_b (fun h => ?_) (fun h => ?_) <;> first | exact auH | skip)
            | fail)
          (all_goals first | exact auP | skip)
          all_goals first
            | (exfalso; simp_all; done)
            | skip
          all_goals refine auF ?_
          all_goals (try first | refine auR ?_ | exact auR0)
          all_goals (try simp only [hsM] at *)
          all_goals rfl
      · rw [if_pos h1]
        have h1' : ¬ c = n ∧ ¬ c = (n + 31) % 32 := ⟨fun h => h1 (hst.2 (.inl h)), fun h => h1 (hst.2 (.inr h))⟩
        clear hst
        refine hspec_fn Try.func60 rfl ok_cookie_Open okr_cookie_Open rfl (by kernel_rfl) ?_
        intro Γ hW0 hN0 hL0
        have hW := hW0 rfl
        clear hW0 hN0 hL0
        unfold x_cookie_Open r_cookie_Open
        refine auC ?_
        repeat' (first
          | (refine auS ?_)
          | (first | (simp only [m27, m24, d27, d24, a7, w1, w2, w3, a31]) | (simp only [Int.toNat_natCast, Nat.mul_one, ez]) | (with_reducible refine runR_call hm ?_) | (with_reducible refine runR_call sizes_spec ?_))
          | (refine auD ?_)
          | (with_reducible refine runR_b (fun h => ?_) (fun h => ?_) <;> first | exact auH | simp only [h, runR_t, runR_f])
          | (with_reducible refine condK_bl ?_ ?_)
          | (with_reducible refine condK_b (fun h => ?_) (fun h => ?_) <;> first | exact auH | skip)
          | fail)
        (all_goals first | exact auP | skip)
        all_goals first
          | (exfalso; simp_all; done)
          | skip
        all_goals refine auF ?_
        all_goals (try first | refine auR ?_ | exact auR0)
        all_goals (try simp only [hsM] at *)
        all_goals rfl
    · have hrt : roadB p q = false := by unfold roadB; rw [← Bool.not_eq_true, Bool.and_eq_true, decide_eq_true_eq, decide_eq_true_eq]; exact hp
      rw [hrt] at hro
      have hno : ¬ ckOk p q (kC k) (kI k) := fun h => hp h.1
      rw [ckR_no hno] at hm
      unfold opR
      rw [if_pos (fun h => hp h.1)]
      refine hspec_fn Try.func60 rfl ok_cookie_Open okr_cookie_Open rfl (by kernel_rfl) ?_
      intro Γ hW0 hN0 hL0
      have hW := hW0 rfl
      clear hW0 hN0 hL0
      unfold x_cookie_Open r_cookie_Open
      refine auC ?_
      repeat' (first
        | (refine auS ?_)
        | (first | (simp only [m27, m24, d27, d24, a7, w1, w2, w3, a31]) | (simp only [Int.toNat_natCast, Nat.mul_one, ez]) | (with_reducible refine runR_call hm ?_) | (with_reducible refine runR_call sizes_spec ?_))
        | (refine auD ?_)
        | (with_reducible refine runR_b (fun h => ?_) (fun h => ?_) <;> first | exact auH | simp only [h, runR_t, runR_f])
        | (with_reducible refine condK_bl ?_ ?_)
        | (with_reducible refine condK_b (fun h => ?_) (fun h => ?_) <;> first | exact auH | skip)
        | fail)
      (all_goals first | exact auP | skip)
      all_goals first
        | (exfalso; simp_all; done)
        | skip
      all_goals refine auF ?_
      all_goals (try first | refine auR ?_ | exact auR0)
      all_goals (try simp only [hsM] at *)
      all_goals rfl
  · unfold opR
    rw [if_pos (fun h => hn h.2)]
    refine hspec_fn Try.func60 rfl ok_cookie_Open okr_cookie_Open rfl (by kernel_rfl) ?_
    intro Γ hW0 hN0 hL0
    have hW := hW0 rfl
    clear hW0 hN0 hL0
    unfold x_cookie_Open r_cookie_Open
    refine auC ?_
    repeat' (first
      | (refine auS ?_)
      | (first | (simp only [m27, m24, d27, d24, a7, w1, w2, w3, a31]) | (simp only [Int.toNat_natCast, Nat.mul_one, ez]) | (with_reducible refine runR_call hm ?_) | (with_reducible refine runR_call sizes_spec ?_))
      | (refine auD ?_)
      | (with_reducible refine runR_b (fun h => ?_) (fun h => ?_) <;> first | exact auH | simp only [h, runR_t, runR_f])
      | (with_reducible refine condK_bl ?_ ?_)
      | (with_reducible refine condK_b (fun h => ?_) (fun h => ?_) <;> first | exact auH | skip)
      | fail)
    (all_goals first | exact auP | skip)
    all_goals first
      | (exfalso; simp_all; done)
      | skip
    all_goals refine auF ?_
    all_goals (try first | refine auR ?_ | exact auR0)
    all_goals (try simp only [hsM] at *)
    all_goals rfl
set_option maxHeartbeats 4000000 in
theorem opened_spec (a b f t p q s k n : Int) (hf : 0 ≤ f ∧ f < 4294967296) (ht : 0 ≤ t ∧ t < 4294967296) (hs : 0 ≤ s ∧ s < 4294967296) (hk : 0 ≤ k ∧ k < 4294967296) : Spec Try.prog 36 [dK a b, dRoad f t p q, .v (.int .u32 s), .v (.int .u32 k), .v (.int .i64 n)] (dOp (opR a b f t p q s k n)) := by
  have hm := cookieOf_spec a b f t p q s (kC k) (kI k) hf ht hs
  have hro := road_spec f t p q
  have hkc : kC k = k / 134217728 := rfl
  have hki : kI k = k / 16777216 % 8 := rfl
  have m24 : min 24 IntKind.u32.bits = 24 := rfl
  have m27 : min 27 IntKind.u32.bits = 27 := rfl
  have d24 : k.fdiv (2 ^ 24) = k / 16777216 := Int.fdiv_eq_ediv_of_nonneg _ (by decide)
  have d27 : k.fdiv (2 ^ 27) = kC k := Int.fdiv_eq_ediv_of_nonneg _ (by decide)
  have a7 : bits .and .u32 (k / 16777216) 7 = kI k := and_u32 _ (by omega)
  have w1 : IntKind.i64.wrap (kC k) = kC k := IntWalk.i64_in _ (by omega)
  have w2 : IntKind.i64.wrap (kI k) = kI k := IntWalk.i64_in _ (by omega)
  have w0 : IntKind.i64.wrap k = k := IntWalk.i64_in _ (by omega)
  have t1 : IntKind.i64.wrap (k.tdiv 16777216) = k / 16777216 := by rw [Int.tdiv_eq_ediv_of_nonneg hk.1, IntWalk.i64_in _ (by omega)]
  have t2 : IntKind.i64.wrap ((k / 16777216).tdiv 8) = kC k := by rw [Int.tdiv_eq_ediv_of_nonneg (by omega), IntWalk.i64_in _ (by omega)]; omega
  have t3 : (k / 16777216).tmod 8 = kI k := Int.tmod_eq_emod_of_nonneg (by omega)
  by_cases hn : 0 ≤ n ∧ n ≤ 31
  · have a31 : bits .and .i64 (IntKind.i64.wrap (n - kC k)) 31 = (n - kC k) % 32 := by rw [and_i64, IntWalk.i64_in _ (by omega)]
    have w3 : (IntKind.i64.wrap (n + 31)).tmod 32 = (n + 31) % 32 := by rw [IntWalk.i64_in _ (by omega), Int.tmod_eq_emod_of_nonneg (by omega)]
    by_cases hp : (0 ≤ p ∧ p ≤ 65535) ∧ (0 ≤ q ∧ q ≤ 65535)
    · have hrt : roadB p q = true := by unfold roadB; simp [hp]
      rw [hrt] at hro
      have e2 : (ckR a b f t p q s (kC k) (kI k)).2 = 0 := ckR_ok (ck_ok hp hk)
      have hi : kI k = ((kI k).toNat : Int) := by omega
      have hi8 : (kI k).toNat < 8 := by omega
      have hc : 0 ≤ kC k ∧ kC k ≤ 31 := by omega
      have hst : (n - kC k) % 32 ≤ 1 ↔ (kC k = n ∨ kC k = (n + 31) % 32) := by omega
      unfold opR
      rw [if_neg (not_not_intro ⟨hp, hn⟩)]
      clear hp hrt
      have hq : ∀ x : Int × Int, x.2 = 0 → x = (x.1, 0) := fun x h => by rw [← h]
      rw [hq _ e2] at hm
      clear hq e2
      generalize (ckR a b f t p q s (kC k) (kI k)).1 = v at *
      generalize kC k = c at *
      generalize kI k = i at *
      generalize i.toNat = j at *
      subst hi
      have ez := szD_at j hi8
      have ex := szR_at j hi8
      generalize sz8 j = z at *
      by_cases h1 : (n - c) % 32 ≤ 1
      · rw [if_neg (not_not_intro h1)]
        have h1' := hst.1 h1
        clear hst
        by_cases h2 : v = k
        · rw [if_neg (not_not_intro h2)]
          refine hspec_fn Try.func36 rfl ok_custref_Opened okr_custref_Opened rfl (by kernel_rfl) ?_
          intro Γ hW0 hN0 hL0
          have hW := hW0 rfl
          clear hW0 hN0 hL0
          unfold x_custref_Opened r_custref_Opened
          refine auC ?_
          repeat' (first
            | (refine auS ?_)
            | (first | (simp only [w0, t1, t2, t3, w3]) | (simp only [Int.toNat_natCast, ex]) | (with_reducible refine runR_call hro ?_) | (with_reducible refine runR_call (between_spec _ _ _) ?_) | (with_reducible refine runR_call hm ?_) | (with_reducible refine runR_call ksizes_spec ?_))
            | (refine auD ?_)
            | (with_reducible refine runR_b (fun h => ?_) (fun h => ?_) <;> first | exact auH | simp only [h, runR_t, runR_f])
            | (with_reducible refine condK_bl ?_ ?_)
            | (with_reducible refine condK_b (fun h => ?_) (fun h => ?_) <;> first | exact auH | skip)
            | fail)
          (all_goals first | exact auP | skip)
          all_goals first
            | (exfalso; simp_all; done)
            | skip
          all_goals refine auF ?_
          all_goals (try first | refine auR ?_ | exact auR0)
          all_goals (try simp only [hsM] at *)
          all_goals rfl
        · rw [if_pos h2]
          refine hspec_fn Try.func36 rfl ok_custref_Opened okr_custref_Opened rfl (by kernel_rfl) ?_
          intro Γ hW0 hN0 hL0
          have hW := hW0 rfl
          clear hW0 hN0 hL0
          unfold x_custref_Opened r_custref_Opened
          refine auC ?_
          repeat' (first
            | (refine auS ?_)
            | (first | (simp only [w0, t1, t2, t3, w3]) | (simp only [Int.toNat_natCast, ex]) | (with_reducible refine runR_call hro ?_) | (with_reducible refine runR_call (between_spec _ _ _) ?_) | (with_reducible refine runR_call hm ?_) | (with_reducible refine runR_call ksizes_spec ?_))
            | (refine auD ?_)
            | (with_reducible refine runR_b (fun h => ?_) (fun h => ?_) <;> first | exact auH | simp only [h, runR_t, runR_f])
            | (with_reducible refine condK_bl ?_ ?_)
            | (with_reducible refine condK_b (fun h => ?_) (fun h => ?_) <;> first | exact auH | skip)
            | fail)
          (all_goals first | exact auP | skip)
          all_goals first
            | (exfalso; simp_all; done)
            | skip
          all_goals refine auF ?_
          all_goals (try first | refine auR ?_ | exact auR0)
          all_goals (try simp only [hsM] at *)
          all_goals rfl
      · rw [if_pos h1]
        have h1' : ¬ c = n ∧ ¬ c = (n + 31) % 32 := ⟨fun h => h1 (hst.2 (.inl h)), fun h => h1 (hst.2 (.inr h))⟩
        clear hst
        refine hspec_fn Try.func36 rfl ok_custref_Opened okr_custref_Opened rfl (by kernel_rfl) ?_
        intro Γ hW0 hN0 hL0
        have hW := hW0 rfl
        clear hW0 hN0 hL0
        unfold x_custref_Opened r_custref_Opened
        refine auC ?_
        repeat' (first
          | (refine auS ?_)
          | (first | (simp only [w0, t1, t2, t3, w3]) | (simp only [Int.toNat_natCast, ex]) | (with_reducible refine runR_call hro ?_) | (with_reducible refine runR_call (between_spec _ _ _) ?_) | (with_reducible refine runR_call hm ?_) | (with_reducible refine runR_call ksizes_spec ?_))
          | (refine auD ?_)
          | (with_reducible refine runR_b (fun h => ?_) (fun h => ?_) <;> first | exact auH | simp only [h, runR_t, runR_f])
          | (with_reducible refine condK_bl ?_ ?_)
          | (with_reducible refine condK_b (fun h => ?_) (fun h => ?_) <;> first | exact auH | skip)
          | fail)
        (all_goals first | exact auP | skip)
        all_goals first
          | (exfalso; simp_all; done)
          | skip
        all_goals refine auF ?_
        all_goals (try first | refine auR ?_ | exact auR0)
        all_goals (try simp only [hsM] at *)
        all_goals rfl
    · have hrt : roadB p q = false := by unfold roadB; rw [← Bool.not_eq_true, Bool.and_eq_true, decide_eq_true_eq, decide_eq_true_eq]; exact hp
      rw [hrt] at hro
      have hno : ¬ ckOk p q (kC k) (kI k) := fun h => hp h.1
      rw [ckR_no hno] at hm
      unfold opR
      rw [if_pos (fun h => hp h.1)]
      refine hspec_fn Try.func36 rfl ok_custref_Opened okr_custref_Opened rfl (by kernel_rfl) ?_
      intro Γ hW0 hN0 hL0
      have hW := hW0 rfl
      clear hW0 hN0 hL0
      unfold x_custref_Opened r_custref_Opened
      refine auC ?_
      repeat' (first
        | (refine auS ?_)
        | (first | (simp only [w0, t1, t2, t3, w3]) | (simp only [Int.toNat_natCast, ex]) | (with_reducible refine runR_call hro ?_) | (with_reducible refine runR_call (between_spec _ _ _) ?_) | (with_reducible refine runR_call hm ?_) | (with_reducible refine runR_call ksizes_spec ?_))
        | (refine auD ?_)
        | (with_reducible refine runR_b (fun h => ?_) (fun h => ?_) <;> first | exact auH | simp only [h, runR_t, runR_f])
        | (with_reducible refine condK_bl ?_ ?_)
        | (with_reducible refine condK_b (fun h => ?_) (fun h => ?_) <;> first | exact auH | skip)
        | fail)
      (all_goals first | exact auP | skip)
      all_goals first
        | (exfalso; simp_all; done)
        | skip
      all_goals refine auF ?_
      all_goals (try first | refine auR ?_ | exact auR0)
      all_goals (try simp only [hsM] at *)
      all_goals rfl
  · unfold opR
    rw [if_pos (fun h => hn h.2)]
    refine hspec_fn Try.func36 rfl ok_custref_Opened okr_custref_Opened rfl (by kernel_rfl) ?_
    intro Γ hW0 hN0 hL0
    have hW := hW0 rfl
    clear hW0 hN0 hL0
    unfold x_custref_Opened r_custref_Opened
    refine auC ?_
    repeat' (first
      | (refine auS ?_)
      | (first | (simp only [w0, t1, t2, t3, w3]) | (simp only [Int.toNat_natCast, ex]) | (with_reducible refine runR_call hro ?_) | (with_reducible refine runR_call (between_spec _ _ _) ?_) | (with_reducible refine runR_call hm ?_) | (with_reducible refine runR_call ksizes_spec ?_))
      | (refine auD ?_)
      | (with_reducible refine runR_b (fun h => ?_) (fun h => ?_) <;> first | exact auH | simp only [h, runR_t, runR_f])
      | (with_reducible refine condK_bl ?_ ?_)
      | (with_reducible refine condK_b (fun h => ?_) (fun h => ?_) <;> first | exact auH | skip)
      | fail)
    (all_goals first | exact auP | skip)
    all_goals first
      | (exfalso; simp_all; done)
      | skip
    all_goals refine auF ?_
    all_goals (try first | refine auR ?_ | exact auR0)
    all_goals (try simp only [hsM] at *)
    all_goals rfl
end Go.Proofs.Ytegejpieedckiaa
