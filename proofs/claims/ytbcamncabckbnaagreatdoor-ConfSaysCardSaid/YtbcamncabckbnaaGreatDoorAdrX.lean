/-
  Numbers told and read: Itoa, ParseUint (the kit's contracts), the reference's Num.
-/
import Derived.Test.YtbcamncabckbnaaGreatDoorAdrP
import Derived.Test.YtbcamncabckbnaaGreatDoorGlobL
import Derived.Test.YtbcamncabckbnaaGreatDoorShB
import Derived.Test.YtbcamncabckbnaaGreatDoorShelf
import Derived.Test.YtbcamncabckbnaaGreatDoorSplT
import Derived.Test.YtbcamncabckbnaaGreatDoorNetX
namespace Go.Proofs.YtbcamncabckbnaaGreatDoor
set_option linter.unusedVariables false
set_option linter.unusedSimpArgs false
theorem below_grow (w : World) (k : Nat) (os : Array Obj) : RowKit.Below w.heap.size w (Sort.grow (w.drewN k) os) := by
  have h := below_drewN (RowKit.Below.refl w.heap.size w) k
  exact ⟨h.os, h.tape, h.output, by simp [Sort.grow], fun g hg => by
    show ((w.drewN k).heap ++ os)[g]? = _
    rw [heap_drewN, Array.getElem?_append_left hg]⟩
theorem itoa_spec (n : Nat) (hn : n < 1000000000000) : Spec Tryz.prog 15 [.v (.int .i64 (n : Nat))] (.v (.string (mkS (Lib.decDigits n)))) :=
  spec_of_calls (by kernel_rfl) fun K w vs g0 hI ha => by
    obtain ⟨v, rfl, hv⟩ := args1 ha
    cases hv
    obtain ⟨-, -, q3⟩ := hI.glob (g := 1) (cs := Lib.pow10Tab.map (Value.int .u64)) (by unfold gtab; simp)
    have htab : Lib.TabIs Tryz.prog w "internal/strconv.uint64pow10" .u64 Lib.pow10Tab := tabIs_of_globC (by kernel_rfl) (by decide) q3
    refine (Tryz.strconv_Itoa n (by omega) (by omega) w htab).mono fun e w' ⟨he, k, os, hw⟩ => ⟨_, ?_, ext_below (hw ▸ below_grow w k os), .v _⟩
    rw [he]
    have e1 : Lib.itoa (n : Int) = Lib.decDigits n := by
      unfold Lib.itoa
      rw [if_neg (by omega), Int.toNat_natCast]
    rw [e1]
    rfl
theorem ifc_at {K : Kr} {w : World} {Γ : Gm} {H : Nat → Option AObj} (hI : Inv Γ K H w) {g : Nat} (hg : (g, [Value.tuple #[]]) ∈ gtab) : ∃ ev, w.cell? ⟨g, 0, none⟩ = some ev ∧ (ev = .nilIface ∨ ∃ te pe, ev = .iface te pe) :=
  cellIs_ifc ((hI.glob hg).2.2.1 0 _ rfl) rfl
/-- What ParseUint hands back. -/
def pu8 (w : List UInt8) : DV := match Lib.parseUintB 8 w with
  | .ok n => .tup [.v (.int .u64 (n : Nat)), .v .nilIface]
  | .range => .tup [.v (.int .u64 255), .ifc]
  | _ => .tup [.v (.int .u64 0), .ifc]
theorem parse8_spec (l : List UInt8) (hl : l.length ≤ 1048576) : Spec Tryz.prog 81 [.v (.string (mkS l)), .v (.int .i64 10), .v (.int .i64 8)] (pu8 l) := by
  have hd : (mkS l).data.toList = l := by simp [mkS]
  have hz : (mkS l).size = l.length := mkS_size l
  refine spec_of_calls (by kernel_rfl) fun K w vs g0 hI ha => ?_
  obtain ⟨v1, v2, v3, rfl, r1, r2, r3⟩ := args3 ha
  cases r1
  cases r2
  cases r3
  unfold pu8
  have tup : ∀ {w' : World} (a : Value) (b : Value) (d : DV), VRel (K.cut w) w' d b → VRel (K.cut w) w' (.tup [.v a, d]) (.tuple #[a, b]) := fun a b d hd => .tup rfl fun i x c hx hc => by
    match i, hx, hc with
    | 0, hx, hc =>
      obtain rfl := Option.some.inj hx
      obtain rfl := Option.some.inj hc
      exact .v _
    | 1, hx, hc =>
      obtain rfl := Option.some.inj hx
      obtain rfl := Option.some.inj hc
      exact hd
    | i + 2, hx, hc => simp at hx
  cases hp : Lib.parseUintB 8 l with
  | ok n =>
    refine (Tryz.strconv_ParseUint_10_at8_ok (mkS l) (by omega) n (by rw [hd]; exact hp) w).mono fun e w' ⟨he, hw⟩ => ⟨_, he, ?_, tup _ _ _ (.v _)⟩
    rcases hw with rfl | rfl
    · exact Ext.refl _ _
    · exact bytesWorld_ext _ _ _
  | range =>
    obtain ⟨ev, h1, h2⟩ := ifc_at hI (g := 7) (by unfold gtab; simp)
    exact (Tryz.strconv_ParseUint_10_at8_range (mkS l) (by omega) (by rw [hd]; exact hp) ev w h1 h2).mono fun e w' ⟨N, he, _, _, hb⟩ => ⟨_, he, ext_below hb, tup _ _ _ (.ifc _ _)⟩
  | _ =>
    obtain ⟨ev, h1, h2⟩ := ifc_at hI (g := 6) (by unfold gtab; simp)
    exact (Tryz.strconv_ParseUint_10_at8_syntax (mkS l) (by omega) (by rw [hd]; exact hp) ev w h1 h2).mono fun e w' ⟨N, he, _, _, hb⟩ => ⟨_, he, ext_below hb, tup _ _ _ (.ifc _ _)⟩
theorem dec_len : ∀ n : Nat, (Lib.decDigits n).length ≤ n + 1 := fun n => by
  induction n using Nat.strongRecOn with
  | _ n ih =>
    rw [Lib.decDigits]
    split
    · simp
    · have := ih (n / 10) (by omega)
      simp
      omega
theorem dig_ext : ∀ n : Fin 10, (([48, 49, 50, 51, 52, 53, 54, 55, 56, 57] : List UInt8).drop n.val).take 1 = [UInt8.ofNat (48 + n.val)] := by decide +kernel
theorem num_small (n : Nat) (h : n < 10) : (ByteArray.mk #[48, 49, 50, 51, 52, 53, 54, 55, 56, 57]).extract n (n + 1) = mkS (Lib.decDigits n) := by
  show (mkS [48, 49, 50, 51, 52, 53, 54, 55, 56, 57]).extract n (n + 1) = _
  rw [mkS_ext, Lib.decDigits, dif_pos h, show n + 1 - n = 1 by omega]
  exact congrArg mkS (dig_ext ⟨n, h⟩)
theorem num_spec (k : Nat) : ∀ n : Nat, n ≤ k → n ≤ 1000000000 → Spec Tryz.prog 21 [.v (.int .i64 (n : Nat))] (.v (.string (mkS (Lib.decDigits n)))) := by
  induction k with
  | zero =>
    intro n hn _
    obtain rfl : n = 0 := by omega
    have e := num_small 0 (by decide)
    refine hspec_fn Tryz.func21 rfl ok_custref_Num okr_custref_Num rfl (by kernel_rfl) ?_
    intro Γ hW0 hN0 hL0
    have hW := hW0 rfl
    clear hW0 hN0 hL0
    unfold x_custref_Num r_custref_Num
    with_reducible refine auC ?_
    repeat' (first
      | (with_reducible refine auS ?_)
      | (first | (simp only [e]))
      | (with_reducible refine auD ?_)
      | ((with_reducible refine auB ?_ ?_); all_goals first | (intro h; first | exact auH | simp only [h, runR_t, runR_f] | skip) | skip)
      | fail)
    (all_goals first | exact auP | skip)
    all_goals with_reducible refine auF ?_
    all_goals (try first | with_reducible refine auR ?_ | exact auR0)
    all_goals (try simp only [hsM] at *)
    all_goals exact congrArg (fun x => DV.v (.string x)) e
  | succ k ih =>
    intro n hn hb
    by_cases h10 : n < 10
    · have e := num_small n h10
      have w1 : IntKind.i64.wrap ((n : Int) + 1) = ((n + 1 : Nat) : Int) := by rw [IntWalk.i64_in _ (by omega)]; omega
      have hsz : ((ByteArray.mk #[48, 49, 50, 51, 52, 53, 54, 55, 56, 57]).size : Int) = 10 := rfl
      refine hspec_fn Tryz.func21 rfl ok_custref_Num okr_custref_Num rfl (by kernel_rfl) ?_
      intro Γ hW0 hN0 hL0
      have hW := hW0 rfl
      clear hW0 hN0 hL0
      unfold x_custref_Num r_custref_Num
      with_reducible refine auC ?_
      repeat' (first
        | (with_reducible refine auS ?_)
        | (first | (simp only [w1, hsz, Int.toNat_natCast, e]))
        | (with_reducible refine auD ?_)
        | ((with_reducible refine auB ?_ ?_); all_goals first | (intro h; first | exact auH | simp only [h, runR_t, runR_f] | skip) | skip)
        | fail)
      (all_goals first | exact auP | skip)
      all_goals with_reducible refine auF ?_
      all_goals (try first | with_reducible refine auR ?_ | exact auR0)
      all_goals (try simp only [hsM] at *)
    · have h1 := ih (n / 10) (by omega) (by omega)
      have h2 := ih (n % 10) (by omega) (by omega)
      have w1 : IntKind.i64.wrap (((n : Nat) : Int).tdiv 10) = ((n / 10 : Nat) : Int) := by rw [IntWalk.i64_in _ (by rw [Int.tdiv_eq_ediv_of_nonneg (by omega)]; omega), Int.tdiv_eq_ediv_of_nonneg (by omega)]; omega
      have w2 : ((n : Nat) : Int).tmod 10 = ((n % 10 : Nat) : Int) := (Int.ofNat_tmod n 10).symm
      have l1 := dec_len (n / 10)
      have l2 := dec_len (n % 10)
      have e : mkS (Lib.decDigits (n / 10)) ++ mkS (Lib.decDigits (n % 10)) = mkS (Lib.decDigits n) := by
        rw [mkS_app]
        congr 1
        conv => rhs; rw [Lib.decDigits, dif_neg h10]
        rw [show Lib.decDigits (n % 10) = [UInt8.ofNat (48 + n % 10)] by rw [Lib.decDigits, dif_pos (by omega)]]
      refine hspec_fn Tryz.func21 rfl ok_custref_Num okr_custref_Num rfl (by kernel_rfl) ?_
      intro Γ hW0 hN0 hL0
      have hW := hW0 rfl
      clear hW0 hN0 hL0
      unfold x_custref_Num r_custref_Num
      with_reducible refine auC ?_
      repeat' (first
        | (with_reducible refine auS ?_)
        | (first | (simp only [w1, w2, e]) | (with_reducible refine runR_call h1 ?_) | (with_reducible refine runR_call h2 ?_))
        | (with_reducible refine auD ?_)
        | ((with_reducible refine auB ?_ ?_); all_goals first | (intro h; first | exact auH | simp only [h, runR_t, runR_f] | skip) | skip)
        | (refine runR_n (by simp only [mkS_size]; omega) ?_))
      (all_goals first | exact auP | skip)
      all_goals with_reducible refine auF ?_
      all_goals (try first | with_reducible refine auR ?_ | exact auR0)
      all_goals (try simp only [hsM] at *)
end Go.Proofs.YtbcamncabckbnaaGreatDoor
