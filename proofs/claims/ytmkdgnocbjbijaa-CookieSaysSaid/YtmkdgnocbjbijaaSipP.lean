/-
  A number of a text by a key: the functions on data.
-/
import Derived.Test.YtmkdgnocbjbijaaStr
namespace Go.Proofs.Ytmkdgnocbjbijaa
set_option linter.unusedVariables false
set_option linter.unusedSimpArgs false
/-- Four numbers. -/
structure V4 where
  (a b c d : Int)
def u64R (n : Int) : Prop := 0 ≤ n ∧ n < 18446744073709551616
def V4.ok (v : V4) : Prop := u64R v.a ∧ u64R v.b ∧ u64R v.c ∧ u64R v.d
def rotl (k : Nat) (n : Int) : Int := IntKind.u64.wrap (IntKind.u64.wrap (n * 2 ^ k) + n / 2 ^ (64 - k))
theorem rotl_or (k : Nat) (hk : 0 < k) (hk2 : k < 64) (n : Int) (h : u64R n) : bits .or .u64 (IntKind.u64.wrap (n * 2 ^ k)) (n / 2 ^ (64 - k)) = rotl k n := by
  obtain ⟨N, rfl⟩ := Int.eq_ofNat_of_zero_le h.1
  have hN : N < 2 ^ 64 := by have := h.2; omega
  have e1 : ((N : Nat) : Int) / 2 ^ (64 - k) = ((N / 2 ^ (64 - k) : Nat) : Int) := by simp
  have e2 : IntKind.u64.wrap ((N : Nat) * 2 ^ k : Int) = ((N * 2 ^ k % 2 ^ 64 : Nat) : Int) := by rw [u64_mod]; simp
  have hsp : 2 ^ 64 = 2 ^ (64 - k) * 2 ^ k := by rw [← Nat.pow_add]; congr 1; omega
  have h3 : N * 2 ^ k % 2 ^ 64 = N % 2 ^ (64 - k) * 2 ^ k := by rw [hsp, Nat.mul_mod_mul_right]
  have h4 : N / 2 ^ (64 - k) < 2 ^ k := by
    rw [Nat.div_lt_iff_lt_mul (Nat.two_pow_pos _), Nat.mul_comm, ← hsp]; exact hN
  have h5 : N % 2 ^ (64 - k) * 2 ^ k + N / 2 ^ (64 - k) < 2 ^ 64 := by
    have : N % 2 ^ (64 - k) + 1 ≤ 2 ^ (64 - k) := Nat.mod_lt _ (Nat.two_pow_pos _)
    have h6 := Nat.mul_le_mul_right (2 ^ k) this
    rw [← hsp, Nat.add_mul] at h6
    omega
  have h7 : (2 : Nat) ^ k ≤ 2 ^ 64 := Nat.pow_le_pow_right (by decide) (by omega)
  unfold rotl
  rw [e1, e2, h3]
  rw [u64_or_add k _ _ (Int.natCast_nonneg _) ?_ (by exact_mod_cast (by omega : N % 2 ^ (64 - k) * 2 ^ k < 2 ^ 64)) (Int.natCast_nonneg _) (by exact_mod_cast h4) (by exact_mod_cast (by omega : N / 2 ^ (64 - k) < 2 ^ 64))]
  · rw [← Int.natCast_add, u64_keep _ (Int.natCast_nonneg _) (by exact_mod_cast h5)]
  · have : (2 : Int) ^ k = ((2 ^ k : Nat) : Int) := by simp
    rw [this, ← Int.natCast_emod, Nat.mul_mod_left]; rfl
theorem rotl_rng (k : Nat) (n : Int) : u64R (rotl k n) := u64_rng _
abbrev xo (a b : Int) : Int := bits .xor .u64 a b
theorem xo_rng (a b : Int) : u64R (xo a b) := bits_rng .xor a b
abbrev ad (a b : Int) : Int := IntKind.u64.wrap (a + b)
theorem ad_rng (a b : Int) : u64R (ad a b) := u64_rng _
/-- A round. -/
def rnd (v : V4) : V4 :=
  let a1 := ad v.a v.b
  let b1 := xo (rotl 13 v.b) a1
  let a2 := rotl 32 a1
  let c1 := ad v.c v.d
  let d1 := xo (rotl 16 v.d) c1
  let a3 := ad a2 d1
  let d2 := xo (rotl 21 d1) a3
  let c2 := ad c1 b1
  let b2 := xo (rotl 17 b1) c2
  let c3 := rotl 32 c2
  ⟨a3, b2, c3, d2⟩
theorem rnd_ok (v : V4) : (rnd v).ok := ⟨ad_rng _ _, xo_rng _ _, rotl_rng _ _, xo_rng _ _⟩
def rnds : Nat → V4 → V4
  | 0, v => v
  | n + 1, v => rnd (rnds n v)
theorem rnds_ok {v : V4} (h : v.ok) : ∀ n, (rnds n v).ok
  | 0 => h
  | n + 1 => rnd_ok _
def stake (v : V4) (m : Int) : V4 :=
  let w := rnds 2 ⟨v.a, v.b, v.c, xo v.d m⟩
  ⟨xo w.a m, w.b, w.c, w.d⟩
theorem stake_ok {v : V4} (h : v.ok) (m : Int) : (stake v m).ok := by
  have := rnds_ok (v := ⟨v.a, v.b, v.c, xo v.d m⟩) ⟨h.1, h.2.1, h.2.2.1, xo_rng _ _⟩ 2
  exact ⟨xo_rng _ _, this.2.1, this.2.2.1, this.2.2.2⟩
/-- All whole eights of a text are taken; what is left. -/
def absorb (v : V4) (l : List UInt8) : V4 × List UInt8 :=
  if h : 8 ≤ l.length then absorb (stake v (lsN (l.take 8) : Nat)) (l.drop 8) else (v, l)
termination_by l.length
decreasing_by simp; omega
theorem absorb_big {v : V4} {l : List UInt8} (h : 8 ≤ l.length) : absorb v l = absorb (stake v (lsN (l.take 8) : Nat)) (l.drop 8) := by rw [absorb, dif_pos h]
theorem absorb_small {v : V4} {l : List UInt8} (h : ¬ 8 ≤ l.length) : absorb v l = (v, l) := by rw [absorb, dif_neg h]
theorem absorb_rest : ∀ (n : Nat) (v : V4) (l : List UInt8), l.length ≤ n → (absorb v l).2.length < 8
  | n, v, l, hn => by
    by_cases h : 8 ≤ l.length
    · rw [absorb_big h]
      cases n with
      | zero => omega
      | succ n => exact absorb_rest n _ _ (by simp; omega)
    · rw [absorb_small h]; show l.length < 8; omega
theorem absorb_ok : ∀ (n : Nat) (v : V4) (l : List UInt8), l.length ≤ n → v.ok → (absorb v l).1.ok
  | n, v, l, hn, hv => by
    by_cases h : 8 ≤ l.length
    · rw [absorb_big h]
      cases n with
      | zero => omega
      | succ n => exact absorb_ok n _ _ (by simp; omega) (stake_ok hv _)
    · rw [absorb_small h]; exact hv
theorem absorb_snoc (b : UInt8) : ∀ (n : Nat) (v : V4) (l : List UInt8), l.length ≤ n → absorb v (l ++ [b]) =
    if (absorb v l).2.length + 1 = 8 then (stake (absorb v l).1 (lsN ((absorb v l).2 ++ [b]) : Nat), []) else ((absorb v l).1, (absorb v l).2 ++ [b])
  | n, v, l, hn => by
    by_cases h : 8 ≤ l.length
    · have h2 : 8 ≤ (l ++ [b]).length := by simp; omega
      rw [absorb_big h2, absorb_big h, List.take_append_of_le_length h, List.drop_append_of_le_length h]
      cases n with
      | zero => omega
      | succ n => exact absorb_snoc b n _ _ (by simp; omega)
    · rw [absorb_small h]
      dsimp only
      by_cases h3 : l.length + 1 = 8
      · have h2 : 8 ≤ (l ++ [b]).length := by simp; omega
        rw [if_pos h3, absorb_big h2, List.take_of_length_le (by simp; omega), List.drop_eq_nil_of_le (by simp; omega), absorb_small (by simp)]
      · rw [if_neg h3, absorb_small (by simp; omega)]
def sfin (v : V4) (m : Int) : V4 :=
  let w := stake v m
  rnds 4 ⟨w.a, w.b, xo w.c 255, w.d⟩
def send (v : V4) (m : Int) : Int := xo (xo (xo (sfin v m).a (sfin v m).b) (sfin v m).c) (sfin v m).d
def lastN (p : List UInt8) (n : Int) : Int := ((lsN p : Nat) : Int) + n % 256 * 72057594037927936
theorem last_or {p : List UInt8} (hp : p.length ≤ 7) {n : Int} (hn : 0 ≤ n ∧ n < 9223372036854775808) : bits .or .u64 (lsN p : Nat) (IntKind.u64.wrap (IntKind.u64.wrap n * 2 ^ 56)) = lastN p n := by
  have h1 := lsN_lt p
  have h2 : 256 ^ p.length ≤ 256 ^ 7 := Nat.pow_le_pow_right (by decide) hp
  have h3 : (256 : Nat) ^ 7 = 72057594037927936 := by decide
  have e1 : IntKind.u64.wrap n = n := u64_keep n hn.1 (by omega)
  have e2 : IntKind.u64.wrap (n * 2 ^ 56) = n % 256 * 72057594037927936 := by rw [u64_mod]; omega
  rw [e1, e2, bits_or_comm, u64_or_add 56 _ _ (by omega) (by omega) (by omega) (Int.natCast_nonneg _) (by omega) (by omega)]
  unfold lastN; omega
theorem last_pad {p : List UInt8} (hp : p.length ≤ 7) (x : UInt8) {n : Int} (hx : (x.toNat : Int) = n % 256) : ((lsN ((p ++ List.replicate 7 0).take 7 ++ [x]) : Nat) : Int) = lastN p n := by
  have e : (p ++ List.replicate 7 0).take 7 = p ++ List.replicate (7 - p.length) 0 := by
    rw [List.take_append, List.take_of_length_le hp, List.take_replicate]; congr 2; omega
  have hl : (p ++ List.replicate (7 - p.length) (0 : UInt8)).length = 7 := by simp; omega
  rw [e, lsN_snoc, hl, lsN_app, lsN_zeros]
  unfold lastN
  omega
end Go.Proofs.Ytmkdgnocbjbijaa
