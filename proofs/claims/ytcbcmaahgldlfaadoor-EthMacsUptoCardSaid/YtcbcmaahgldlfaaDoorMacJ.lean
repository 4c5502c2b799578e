/-
  Addresses shown by the reference: MacText.
-/
import Derived.Test.YtcbcmaahgldlfaaDoorMacT
import Derived.Test.YtcbcmaahgldlfaaDoorShB
import Derived.Test.YtcbcmaahgldlfaaDoorShelf
namespace Go.Proofs.YtcbcmaahgldlfaaDoor
set_option linter.unusedVariables false
set_option linter.unusedSimpArgs false
theorem join_spec (xs : List ByteArray) (sep : ByteArray) (c : Bool) (h0 : 0 < xs.length) (hN : xs.length ≤ 140737488355328) (hlen : (Lib.join (xs.map (·.data.toList)) sep.data.toList).length ≤ 140737488355328) :
    Spec Tryd.prog 12 [.snap 1 (xs.map fun x => [.v (.string x)]) c, .v (.string sep)] (.v (.string ⟨(Lib.join (xs.map (·.data.toList)) sep.data.toList).toArray⟩)) :=
  spec_of_calls (by kernel_rfl) fun K w vs g0 hI ⟨hs, ha⟩ => by
    have hsz : vs.size = 2 := hs
    obtain ⟨v1, v2, rfl⟩ : ∃ a b, vs = #[a, b] := by
      obtain ⟨l⟩ := vs
      match l, hsz with
      | [a, b], _ => exact ⟨a, b, rfl⟩
    have r1 := ha 0 _ v1 rfl rfl
    have r2 := ha 1 _ v2 rfl rfl
    cases r2
    obtain ⟨A, cap, rfl, hc, hcells⟩ := snap_inv r1
    obtain ⟨bk, o, rfl, hbk, hx⟩ := hcells h0
    exact (Tryd.strings_Join bk o cap xs sep w hx hbk hN hc hlen).mono fun e w' ⟨he, hb⟩ => ⟨_, he, ext_below hb, .v _⟩
def pcs (m : Nat → Int) : List ByteArray := [mkS [hxB (m 0 / 16), hxB (m 0 % 16)], mkS [hxB (m 1 / 16), hxB (m 1 % 16)], mkS [hxB (m 2 / 16), hxB (m 2 % 16)], mkS [hxB (m 3 / 16), hxB (m 3 % 16)], mkS [hxB (m 4 / 16), hxB (m 4 % 16)], mkS [hxB (m 5 / 16), hxB (m 5 % 16)]]

def joinM (m : Nat → Int) : ByteArray := ⟨(Lib.join ((pcs m).map (·.data.toList)) (ByteArray.mk #[58]).data.toList).toArray⟩
theorem hex_fin : ∀ n : Fin 16, ((hexL.drop n.val).take 1) = [hexL.getD n.val 0] := by decide +kernel
theorem hex_ext {n : Int} (h : 0 ≤ n ∧ n < 16) : (ByteArray.mk #[48, 49, 50, 51, 52, 53, 54, 55, 56, 57, 97, 98, 99, 100, 101, 102]).extract n.toNat (n + 1).toNat = mkS [hxB n] := by
  show (mkS hexL).extract _ _ = _
  rw [mkS_ext, show (n + 1).toNat - n.toNat = 1 by omega]
  exact congrArg mkS (hex_fin ⟨n.toNat, by omega⟩)
theorem w_quo {n : Int} (h : 0 ≤ n ∧ n < 256) : IntKind.u8.wrap (n.tdiv 16) = n / 16 := by
  rw [Int.tdiv_eq_ediv_of_nonneg h.1, u8_in _ (by omega)]
theorem w_rem {n : Int} (h : 0 ≤ n ∧ n < 256) : n.tmod 16 = n % 16 := Int.tmod_eq_emod_of_nonneg h.1
theorem w_one {n : Int} (h : 0 ≤ n ∧ n < 16) : IntKind.u8.wrap (n + 1) = n + 1 := u8_in _ (by omega)
theorem mkS2 (a b : UInt8) : mkS [a] ++ mkS [b] = mkS [a, b] := mkS_app _ _
theorem macText_spec (m : Nat → Int) (hm : m6ok m) : Spec Tryd.prog 8 [m6 m] (.v (.string (joinM m))) := by
  have h0 := hm 0
  have h1 := hm 1
  have h2 := hm 2
  have h3 := hm 3
  have h4 := hm 4
  have h5 := hm 5
  have hj := join_spec (pcs m) ⟨#[58]⟩ false (by show 0 < 6; omega) (by show 6 ≤ _; omega) (by show 17 ≤ _; omega)
  refine hspec_fn Tryd.func8 rfl ok_custref_MacText okr_custref_MacText rfl (by kernel_rfl) ?_
  intro Γ hW0 hN0 hL0
  have hW := hW0 rfl
  clear hW0 hN0 hL0
  unfold x_custref_MacText r_custref_MacText
  refine auC ?_
  dsimp only [m6]
  repeat' (first
    | (refine auS ?_)
    | fail
    | (refine auD ?_)
    | (with_reducible refine runR_b (fun h => ?_) (fun h => ?_) <;> first | exact auH | simp only [h, runR_t, runR_f])
    | (with_reducible refine condK_bl ?_ ?_)
    | (with_reducible refine condK_b (fun h => ?_) (fun h => ?_) <;> first | exact auH | skip)
    | fail)
  apply go_le
  · exact le_row ⟨.d0, .d0, .d3⟩ 2 1 rfl rfl
  refine auL ?_
  refine go_loopH (α := Nat × Nat × Nat) (fun x => [(⟨.d0, .d0, .d3⟩, .sl 2 x.2.1 1 0 x.1 false), (⟨.d0, .d0, .d7⟩, .v (.int .i64 (x.1 : Nat)))]) (fun x => [(1, none), (2, some ⟨x.2.1, 1, rowS ((pcs m).take x.1)⟩)]) (fun x => x.2.2) (fun x => 6 - x.1) (fun x => x.1 ≤ 6) (0, Γ.g0 + 1, Γ.g0 + 2) (Nat.zero_le _) ?_ ?_
  · skip
    refine le_mk ?_ ?_ (Nat.le_refl _)
    all_goals first | refine auE ?_ | exact auE0
    all_goals (repeat' (first | exact trivial | exact rfl | apply And.intro))
  rintro ⟨i, nm, gn⟩ hi
  dsimp only at hi ⊢
  refine auL ?_
  obtain rfl | hlt : i = 6 ∨ i < 6 := by omega
  · have hf : frz2L ⟨nm, 1, rowS ((pcs m).take 6)⟩ [.sl 2 nm 1 0 6 false, .v (.string ⟨#[58]⟩)] [.snap 1 ((pcs m).map fun x => [.v (.string x)]) false, .v (.string ⟨#[58]⟩)] := ⟨.inl ⟨rfl, rfl, by show 0 + 6 ≤ 6; omega, rfl⟩, rfl, rfl⟩
    repeat' (first
      | (refine auS ?_)
      | (refine runR_callF 2 rfl hj hf rfl ?_)
      | (refine auD ?_)
      | (with_reducible refine runR_b (fun h => ?_) (fun h => ?_) <;> first | exact auH | simp only [h, runR_t, runR_f])
      | (with_reducible refine condK_bl ?_ ?_)
      | (with_reducible refine condK_b (fun h => ?_) (fun h => ?_) <;> first | exact auH | skip)
      | fail)
    (all_goals first | exact auP | skip)
    all_goals refine auF ?_
    all_goals (try first | refine auR ?_ | exact auR0)
    all_goals (try simp only [hsM] at *)
    all_goals rfl
  · have : i = 0 ∨ i = 1 ∨ i = 2 ∨ i = 3 ∨ i = 4 ∨ i = 5 := by omega
    rcases this with rfl | rfl | rfl | rfl | rfl | rfl
    all_goals simp only [natL]
    all_goals dsimp only [pcs, List.take, rowS, List.map, Nat.reduceMul, Nat.reduceSub]
    repeat' (first
      | (refine auS ?_)
      | (first | (simp only [hex_size, mkS2, mkS_size]) | (simp (disch := omega) only [w_quo, w_rem, w_one, hex_ext]))
      | (refine auD ?_)
      | (with_reducible refine runR_b (fun h => ?_) (fun h => ?_) <;> first | exact auH | simp only [h, runR_t, runR_f])
      | (with_reducible refine condK_bl ?_ ?_)
      | (with_reducible refine condK_b (fun h => ?_) (fun h => ?_) <;> first | exact auH | skip)
      | (refine runR_n (by (simp only [mkS_size, List.length_cons, List.length_nil]; omega)) ?_))
    (all_goals first | exact auP | skip)
    · refine nx_loop ⟨(1, gn + 1, gn + 2), by omega, by omega, ?_⟩
      refine le_mk ?_ ?_ (Nat.le_refl _)
      all_goals first | refine auE ?_ | exact auE0
      all_goals (repeat' (first | exact trivial | exact rfl | apply And.intro))
    · refine nx_loop ⟨(2, gn + 1, gn + 2), by omega, by omega, ?_⟩
      refine le_mk ?_ ?_ (Nat.le_refl _)
      all_goals first | refine auE ?_ | exact auE0
      all_goals (repeat' (first | exact trivial | exact rfl | apply And.intro))
    · refine nx_loop ⟨(3, gn + 1, gn + 2), by omega, by omega, ?_⟩
      refine le_mk ?_ ?_ (Nat.le_refl _)
      all_goals first | refine auE ?_ | exact auE0
      all_goals (repeat' (first | exact trivial | exact rfl | apply And.intro))
    · refine nx_loop ⟨(4, gn + 1, gn + 2), by omega, by omega, ?_⟩
      refine le_mk ?_ ?_ (Nat.le_refl _)
      all_goals first | refine auE ?_ | exact auE0
      all_goals (repeat' (first | exact trivial | exact rfl | apply And.intro))
    · refine nx_loop ⟨(5, gn + 1, gn + 2), by omega, by omega, ?_⟩
      refine le_mk ?_ ?_ (Nat.le_refl _)
      all_goals first | refine auE ?_ | exact auE0
      all_goals (repeat' (first | exact trivial | exact rfl | apply And.intro))
    · refine nx_loop ⟨(6, gn + 1, gn + 2), by omega, by omega, ?_⟩
      refine le_mk ?_ ?_ (Nat.le_refl _)
      all_goals first | refine auE ?_ | exact auE0
      all_goals (repeat' (first | exact trivial | exact rfl | apply And.intro))
end Go.Proofs.YtcbcmaahgldlfaaDoor
