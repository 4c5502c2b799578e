/-
  Texts as lists of bytes; numbers of 64 bits; what callers need to lend a row.
-/
import Derived.Test.YtidogmmfakcfgaaGen
import Derived.Laws.BitsAll
namespace Go.Proofs.Ytidogmmfakcfgaa
set_option linter.unusedVariables false
set_option linter.unusedSimpArgs false
def mkS (l : List UInt8) : ByteArray := ⟨l.toArray⟩
theorem mkS_data (t : ByteArray) : mkS t.data.toList = t := by cases t; simp [mkS]
theorem mkS_size (l : List UInt8) : (mkS l).size = l.length := by simp [mkS, ByteArray.size]
theorem mkS_app (a b : List UInt8) : mkS a ++ mkS b = mkS (a ++ b) := by
  apply ByteArray.ext; rw [ByteArray.data_append]; simp [mkS]
theorem mkS_ext (l : List UInt8) (a b : Nat) : (mkS l).extract a b = mkS ((l.drop a).take (b - a)) := by
  apply ByteArray.ext; rw [ByteArray.data_extract]; simp [mkS]
theorem mkS_inj {a b : List UInt8} : mkS a = mkS b ↔ a = b := by
  constructor
  · intro h
    have : (mkS a).data.toList = (mkS b).data.toList := by rw [h]
    simpa [mkS] using this
  · rintro rfl; rfl
def bN (l : List UInt8) (i : Nat) : Nat := ((l[i]?).getD 0).toNat
theorem bN_lt (l : List UInt8) (i : Nat) : bN l i < 256 := UInt8.toNat_lt _
theorem mkS_at (l : List UInt8) (i : Nat) : byteI (mkS l) i = ((bN l i : Nat) : Int) := by
  unfold byteI bN
  congr 3
  by_cases h : i < l.length
  · have h2 : i < (mkS l).size := by rw [mkS_size]; exact h
    rw [getElem?_pos (mkS l) i h2, List.getElem?_eq_getElem h]
    rfl
  · have h2 : ¬ i < (mkS l).size := by rw [mkS_size]; exact h
    rw [getElem?_neg (mkS l) i h2, List.getElem?_eq_none (by omega)]
theorem u64_mod (n : Int) : IntKind.u64.wrap n = n % 18446744073709551616 := by simp [IntKind.wrap, IntKind.bits, IntKind.signed]
theorem u16_mod (n : Int) : IntKind.u16.wrap n = n % 65536 := by simp [IntKind.wrap, IntKind.bits, IntKind.signed]
theorem u64_rng (n : Int) : 0 ≤ IntKind.u64.wrap n ∧ IntKind.u64.wrap n < 18446744073709551616 := by rw [u64_mod]; omega
theorem bits_rng (op : BinOp) (a b : Int) : 0 ≤ bits op .u64 a b ∧ bits op .u64 a b < 18446744073709551616 := by unfold bits; exact u64_rng _
theorem u64_keep (n : Int) (h0 : 0 ≤ n) (h1 : n < 2 ^ 64) : IntKind.u64.wrap n = n := by rw [u64_mod]; omega
theorem bits_or_comm (k : IntKind) (a b : Int) : bits .or k a b = bits .or k b a := by simp only [bits]; rw [BitVec.or_comm]
theorem u64_or_add (i : Nat) (x y : Int) (hx₀ : 0 ≤ x) (hx : x % 2 ^ i = 0) (hx₁ : x < 2 ^ 64) (hy₀ : 0 ≤ y) (hy : y < 2 ^ i) (hy₁ : y < 2 ^ 64) : bits .or .u64 x y = x + y :=
  bits_join .u64 64 (by decide) u64_keep i x y hx₀ hx hx₁ hy₀ hy hy₁
def lsN : List UInt8 → Nat
  | [] => 0
  | b :: r => b.toNat + 256 * lsN r
theorem lsN_snoc (b : UInt8) : ∀ l : List UInt8, lsN (l ++ [b]) = lsN l + 256 ^ l.length * b.toNat
  | [] => by simp [lsN]
  | c :: r => by
    simp only [List.cons_append, lsN, lsN_snoc b r, List.length_cons, Nat.pow_succ]
    generalize 256 ^ r.length = q
    rw [Nat.mul_add, Nat.mul_right_comm q 256, Nat.mul_comm (q * b.toNat) 256]; omega
theorem lsN_lt : ∀ l : List UInt8, lsN l < 256 ^ l.length
  | [] => by simp [lsN]
  | c :: r => by
    have := lsN_lt r
    have hc := c.toNat_lt
    simp only [lsN, List.length_cons, Nat.pow_succ]
    generalize 256 ^ r.length = q at *
    omega
theorem lsN_app (m : List UInt8) : ∀ l : List UInt8, lsN (l ++ m) = lsN l + 256 ^ l.length * lsN m
  | [] => by simp [lsN]
  | c :: r => by
    simp only [List.cons_append, lsN, lsN_app m r, List.length_cons, Nat.pow_succ]
    generalize 256 ^ r.length = q
    rw [Nat.mul_add, Nat.mul_right_comm q 256, Nat.mul_comm (q * lsN m) 256]; omega
theorem lsN_zeros : ∀ n : Nat, lsN (List.replicate n 0) = 0
  | 0 => rfl
  | n + 1 => by rw [List.replicate_succ, lsN, lsN_zeros n]; rfl
theorem take_snoc {α : Type} {l : List α} {i : Nat} {b : α} (h : l[i]? = some b) : l.take (i + 1) = l.take i ++ [b] := by rw [List.take_add_one, h]; rfl
theorem bN_some {l : List UInt8} {i : Nat} {b : UInt8} (h : l[i]? = some b) : bN l i = b.toNat := by unfold bN; rw [h]; rfl
theorem byte_step {l : List UInt8} {i : Nat} (hi : i < l.length) (h8 : l.length ≤ 8) : bits .or .u64 (lsN (l.take i) : Nat) (IntKind.u64.wrap ((bN l i : Nat) * 2 ^ (8 * i))) = ((lsN (l.take (i + 1)) : Nat) : Int) := by
  obtain ⟨b, hb⟩ : ∃ b, l[i]? = some b := ⟨_, List.getElem?_eq_getElem hi⟩
  have hl : (l.take i).length = i := by simp; omega
  have h1 := lsN_lt (l.take i)
  have h2 := lsN_lt (l.take i ++ [b])
  rw [lsN_snoc] at h2
  rw [List.length_append, hl, List.length_singleton] at h2
  rw [hl] at h1
  have hp : (256 : Nat) ^ (i + 1) ≤ 256 ^ 8 := Nat.pow_le_pow_right (by decide) (by omega)
  have hp2 : (256 : Nat) ^ 8 = 18446744073709551616 := by decide
  have hq : (2 : Int) ^ (8 * i) = ((256 ^ i : Nat) : Int) := by
    rw [show (256 : Nat) = 2 ^ 8 from rfl, ← Nat.pow_mul]; simp
  rw [take_snoc hb, lsN_snoc, hl, bN_some hb, hq, ← Int.natCast_mul, Nat.mul_comm b.toNat]
  have h3 : 256 ^ i * b.toNat < 18446744073709551616 := by omega
  rw [u64_keep _ (Int.natCast_nonneg _) (by exact_mod_cast h3), bits_or_comm]
  rw [u64_or_add (8 * i) _ _ (Int.natCast_nonneg _) ?_ (by exact_mod_cast h3) (Int.natCast_nonneg _) ?_ ?_]
  · omega
  · rw [hq]; rw [← Int.natCast_emod, Nat.mul_mod_right]; rfl
  · rw [hq]; exact_mod_cast h1
  · have : lsN (l.take i) < 18446744073709551616 := by omega
    exact_mod_cast this
theorem strOf_mk (xs : List (List DV)) : strOf xs = mkS (xs.map byteOf) := rfl
theorem strOf1 (a : Int) : strOf [[.v (.int .u8 a)]] = mkS [UInt8.ofNat a.toNat] := rfl
theorem strOf2 (a b : Int) : strOf [[.v (.int .u8 a)], [.v (.int .u8 b)]] = mkS [UInt8.ofNat a.toNat, UInt8.ofNat b.toNat] := rfl
theorem strOf4 (a b c d : Int) : strOf [[.v (.int .u8 a)], [.v (.int .u8 b)], [.v (.int .u8 c)], [.v (.int .u8 d)]] = mkS [UInt8.ofNat a.toNat, UInt8.ofNat b.toNat, UInt8.ofNat c.toNat, UInt8.ofNat d.toNat] := rfl
theorem runR_callS {P : Program} {F : List XOp → St → List Rec → Prop} {r : List XOp} {st : St} {dst : Option Sl} {tr : List Rec} {f : FuncId} {k n sz lo len : Nat} {full : Bool} {ds : List DV} {D : DV} {o1 : Option AObj} {xs : List (List DV)} (hk : lget st.H k = some ⟨n, sz, xs⟩) (h1 : HSpec P f (.sl k n sz lo len full :: ds) [some ⟨n, sz, xs⟩] (fun d H => d = D ∧ H = [o1])) (h2 : F r ⟨putE st.tm dst D, updL st.H [(k, o1)], st.gen⟩ (⟨[k], [k]⟩ :: tr)) : runR P F r st dst tr (.call f (.sl k n sz lo len full :: ds)) :=
  runR_callH k hk h1 (fun _ _ _ h => h) h2
end Go.Proofs.Ytidogmmfakcfgaa
