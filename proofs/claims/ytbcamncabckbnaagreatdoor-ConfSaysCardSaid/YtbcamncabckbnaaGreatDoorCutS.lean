/-
  strings.Cut at one byte, slices.Contains at strings, ParseUint at 64 bits.
-/
import Derived.Test.YtbcamncabckbnaaGreatDoorConfQ
import Derived.Test.YtbcamncabckbnaaGreatDoorAdrX
namespace Go.Proofs.YtbcamncabckbnaaGreatDoor
set_option linter.unusedVariables false
set_option linter.unusedSimpArgs false
theorem scut_spec (c : UInt8) (l : W8) (hl : l.length ≤ 1048576) : Spec Tryz.prog 49 [.v (.string (mkS l)), .v (.string (mkS [c]))] (.tup [.v (.string (mkS (cutB c l).1)), .v (.string (mkS (cutB c l).2.1)), .v (.bool (cutB c l).2.2)]) := by
  have hi := lindex_spec c l
  have hge := Lib.indexByte_ge l c
  have e1 : (mkS [c]).size = 1 := rfl
  have e2 : (ByteArray.mk #[] : ByteArray) = mkS [] := rfl
  by_cases hm : Lib.indexByte l c = -1
  · have hc := cutB_miss hm
    rw [hm] at hi
    rw [hc]
    refine hspec_fn Tryz.func49 rfl ok_stringslite_Cut okr_stringslite_Cut rfl (by kernel_rfl) ?_
    intro Γ hW0 hN0 hL0
    have hW := hW0 rfl
    clear hW0 hN0 hL0
    unfold x_stringslite_Cut r_stringslite_Cut
    with_reducible refine auC ?_
    repeat' (first
      | (with_reducible refine auS ?_)
      | (first | (with_reducible refine runR_call hi ?_))
      | (with_reducible refine auD ?_)
      | ((with_reducible refine auB ?_ ?_); all_goals first | (intro h; first | exact auH | simp only [h, runR_t, runR_f] | skip) | skip)
      | fail)
    (all_goals first | exact auP | skip)
    all_goals with_reducible refine auF ?_
    all_goals (try first | with_reducible refine auR ?_ | exact auR0)
    all_goals (try simp only [hsM] at *)
    all_goals rfl
  · obtain ⟨i, h0⟩ : ∃ i : Nat, Lib.indexByte l c = (i : Int) := ⟨(Lib.indexByte l c).toNat, by omega⟩
    obtain ⟨hc, hlt⟩ := cutB_hit h0
    rw [h0] at hi
    rw [hc]
    have w1 : IntKind.i64.wrap ((i : Int) + 1) = ((i + 1 : Nat) : Int) := by rw [IntWalk.i64_in _ (by omega)]; omega
    have w2 : IntKind.i64.wrap ((i : Int) + ((1 : Nat) : Int)) = ((i + 1 : Nat) : Int) := w1
    have ea : (mkS l).extract 0 i = mkS (l.take i) := by rw [mkS_ext]; simp
    have eb : (mkS l).extract (i + 1) l.length = mkS (l.drop (i + 1)) := by rw [mkS_ext, List.take_of_length_le (by simp)]
    have hz : (mkS l).size = l.length := mkS_size l
    refine hspec_fn Tryz.func49 rfl ok_stringslite_Cut okr_stringslite_Cut rfl (by kernel_rfl) ?_
    intro Γ hW0 hN0 hL0
    have hW := hW0 rfl
    clear hW0 hN0 hL0
    unfold x_stringslite_Cut r_stringslite_Cut
    with_reducible refine auC ?_
    repeat' (first
      | (with_reducible refine auS ?_)
      | (first | (simp only [e1, hz, w1, w2, ea, eb, Int.toNat_natCast]) | (with_reducible refine runR_call hi ?_))
      | (with_reducible refine auD ?_)
      | ((with_reducible refine auB ?_ ?_); all_goals first | (intro h; first | exact auH | simp only [h, runR_t, runR_f] | skip) | skip)
      | (first | (simp only [w1, w2, ea, eb, Int.toNat_natCast]) | fail))
    (all_goals first | exact auP | skip)
    all_goals with_reducible refine auF ?_
    all_goals (try first | with_reducible refine auR ?_ | exact auR0)
    all_goals (try simp only [hsM] at *)
    all_goals first
      | rfl
      | fail
theorem cut_spec (c : UInt8) (l : W8) (hl : l.length ≤ 1048576) : Spec Tryz.prog 27 [.v (.string (mkS l)), .v (.string (mkS [c]))] (.tup [.v (.string (mkS (cutB c l).1)), .v (.string (mkS (cutB c l).2.1)), .v (.bool (cutB c l).2.2)]) := by
  have h := scut_spec c l hl
  generalize (cutB c l).1 = A at *
  generalize (cutB c l).2.1 = B at *
  generalize (cutB c l).2.2 = C at *
  refine hspec_fn Tryz.func27 rfl ok_strings_Cut okr_strings_Cut rfl (by kernel_rfl) ?_
  intro Γ hW0 hN0 hL0
  have hW := hW0 rfl
  clear hW0 hN0 hL0
  unfold x_strings_Cut r_strings_Cut
  with_reducible refine auC ?_
  repeat' (first
    | (with_reducible refine auS ?_)
    | (first | (with_reducible refine runR_call h ?_))
    | (with_reducible refine auD ?_)
    | ((with_reducible refine auB ?_ ?_); all_goals first | (intro h; first | exact auH | simp only [h, runR_t, runR_f] | skip) | skip)
    | fail)
  (all_goals first | exact auP | skip)
  all_goals with_reducible refine auF ?_
  all_goals (try first | with_reducible refine auR ?_ | exact auR0)
  all_goals (try simp only [hsM] at *)
theorem xget_row {l : List W8} {k : Nat} {t : W8} (ht : l[k]? = some t) : xget (rowS (l.map mkS)) k = [.v (.string (mkS t))] := by
  rw [xget_get, rowS, List.map_map, List.getElem?_map, ht]
  rfl
theorem indexS_spec (H : List W8) (w : W8) (c : Bool) (hl : H.length ≤ maxLen) : Spec Tryz.prog 48 [.snap 1 (rowS (H.map mkS)) c, .v (.string (mkS w))] (.v (.int .i64 (firstI (fun y => decide (w = y)) H 0))) := by
  unfold maxLen at hl
  have hrl : (rowS (H.map mkS)).length = H.length := by simp [rowS]
  refine hspec_fn Tryz.func48 rfl ok_slices_Index_string okr_slices_Index_string rfl (by kernel_rfl) ?_
  intro Γ hW0 hN0 hL0
  have hW := hW0 rfl
  clear hW0 hN0 hL0
  unfold x_slices_Index_string r_slices_Index_string
  with_reducible refine auC ?_
  repeat' (first
    | (with_reducible refine auS ?_)
    | fail
    | (with_reducible refine auD ?_)
    | ((with_reducible refine auB ?_ ?_); all_goals first | (intro h; first | exact auH | simp only [h, runR_t, runR_f] | skip) | skip)
    | (simp only [hrl]))
  refine go_loopH (α := Nat) (fun k => [(⟨.d0, .d1, .d0⟩, .v (.int .i64 (k : Nat)))]) (fun _ => []) (fun _ => Γ.g0) (fun k => H.length - k) (fun k => k ≤ H.length ∧ firstI (fun y => decide (w = y)) H 0 = firstI (fun y => decide (w = y)) (H.drop k) k) 0 ⟨Nat.zero_le _, rfl⟩ ?_ ?_
  · skip
    refine le_mk ?_ ?_ (Nat.le_refl _)
    all_goals first | with_reducible refine auE ?_ | exact auE0
    all_goals (repeat' (first | exact trivial | exact rfl | apply And.intro))
  rintro k ⟨hk, hp⟩
  dsimp only at hk hp ⊢
  with_reducible refine auL ?_
  by_cases hlt : k < H.length
  · obtain ⟨t, ht⟩ : ∃ t, H[k]? = some t := ⟨_, List.getElem?_eq_getElem hlt⟩
    have hx := xget_row ht
    rw [List.drop_eq_getElem_cons hlt, show H[k] = t from Option.some.inj ((List.getElem?_eq_getElem hlt).symm.trans ht), firstI] at hp
    by_cases hw : w = t
    · subst hw
      rw [if_pos (decide_eq_true rfl)] at hp
      rw [hp]
      repeat' (first
        | (with_reducible refine auS ?_)
        | (first | (simp only [eq_self, decide_true]))
        | (with_reducible refine auD ?_)
        | ((with_reducible refine auB ?_ ?_); all_goals first | (intro h; first | exact auH | simp only [h, runR_t, runR_f] | skip) | skip)
        | (simp only [Int.toNat_natCast, hx, hrl]))
      (all_goals first | exact auP | skip)
      all_goals with_reducible refine auF ?_
      all_goals (try first | with_reducible refine auR ?_ | exact auR0)
      all_goals (try simp only [hsM] at *)
      all_goals first
        | rfl
        | fail
    · have hw2 : decide (mkS w = mkS t) = false := decide_eq_false (fun q => hw (mkS_inj.1 q))
      rw [if_neg (by simp [hw])] at hp
      repeat' (first
        | (with_reducible refine auS ?_)
        | (first | (simp only [hw2]))
        | (with_reducible refine auD ?_)
        | ((with_reducible refine auB ?_ ?_); all_goals first | (intro h; first | exact auH | simp only [h, runR_t, runR_f] | skip) | skip)
        | (simp only [Int.toNat_natCast, hx, hrl]))
      (all_goals first | exact auP | skip)
      refine nx_loop ⟨k + 1, ⟨hlt, hp⟩, Nat.sub_lt_sub_left hlt (Nat.lt_succ_self k), ?_⟩
      refine le_mk ?_ ?_ (Nat.le_refl _)
      all_goals first | with_reducible refine auE ?_ | exact auE0
      all_goals (repeat' (first | exact trivial | exact rfl | apply And.intro))
      all_goals exact dint ((IntWalk.i64_in _ (by omega)).trans (by omega))
  · obtain rfl : k = H.length := by omega
    rw [List.drop_length, firstI] at hp
    rw [hp]
    repeat' (first
      | (with_reducible refine auS ?_)
      | fail
      | (with_reducible refine auD ?_)
      | ((with_reducible refine auB ?_ ?_); all_goals first | (intro h; first | exact auH | simp only [h, runR_t, runR_f] | skip) | skip)
      | (simp only [hrl]))
    (all_goals first | exact auP | skip)
    all_goals with_reducible refine auF ?_
    all_goals (try first | with_reducible refine auR ?_ | exact auR0)
    all_goals (try simp only [hsM] at *)
theorem containsS_spec (H : List W8) (w : W8) (c : Bool) (hl : H.length ≤ maxLen) : Spec Tryz.prog 26 [.snap 1 (rowS (H.map mkS)) c, .v (.string (mkS w))] (.v (.bool (decide (w ∈ H)))) := by
  have h := indexS_spec H w c hl
  have e : decide (0 ≤ firstI (fun y => decide (w = y)) H 0) = decide (w ∈ H) := by
    rcases firstI_cases (fun y => decide (w = y)) H 0 with ⟨h1, h2⟩ | ⟨i, t, h1, h2, h3, h4⟩
    · rw [h1]
      have : w ∉ H := fun q => by have := h2 w q; simp at this
      simp [this]
    · rw [h4]
      have e2 : w = t := of_decide_eq_true h2
      have := List.mem_of_getElem? h1
      rw [← e2] at this
      simp [this]
  rw [← e]
  generalize firstI (fun y => decide (w = y)) H 0 = I at *
  refine hspec_fn Tryz.func26 rfl ok_slices_Contains_string okr_slices_Contains_string rfl (by kernel_rfl) ?_
  intro Γ hW0 hN0 hL0
  have hW := hW0 rfl
  clear hW0 hN0 hL0
  unfold x_slices_Contains_string r_slices_Contains_string
  with_reducible refine auC ?_
  repeat' (first
    | (with_reducible refine auS ?_)
    | (first | (with_reducible refine runR_call h ?_))
    | (with_reducible refine auD ?_)
    | ((with_reducible refine auB ?_ ?_); all_goals first | (intro h; first | exact auH | simp only [h, runR_t, runR_f] | skip) | skip)
    | fail)
  (all_goals first | exact auP | skip)
  all_goals with_reducible refine auF ?_
  all_goals (try first | with_reducible refine auR ?_ | exact auR0)
  all_goals (try simp only [hsM] at *)
/-- What ParseUint hands back at 64 bits. -/
def pu64 (w : W8) : DV := match Lib.parseUintB 64 w with
  | .ok n => .tup [.v (.int .u64 (n : Nat)), .v .nilIface]
  | .range => .tup [.v (.int .u64 18446744073709551615), .ifc]
  | _ => .tup [.v (.int .u64 0), .ifc]
theorem parse64_spec (l : W8) (hl : l.length ≤ 1048576) : Spec Tryz.prog 81 [.v (.string (mkS l)), .v (.int .i64 10), .v (.int .i64 64)] (pu64 l) := by
  have hd : (mkS l).data.toList = l := by simp [mkS]
  have hz : (mkS l).size = l.length := mkS_size l
  refine spec_of_calls (by kernel_rfl) fun K w vs g0 hI ha => ?_
  obtain ⟨v1, v2, v3, rfl, r1, r2, r3⟩ := args3 ha
  cases r1
  cases r2
  cases r3
  unfold pu64
  have tup : ∀ {w' : World} (a : Value) (b : Value) (d : DV), VRel (K.cut w) w' d b → VRel (K.cut w) w' (.tup [.v a, d]) (.tuple #[a, b]) := fun a b d hd => .tup rfl fun i x c hx hc => by
    match i, hx, hc with
    | 0, hx, hc =>
      obtain rfl := Option.some.inj hx
      obtain rfl := Option.some.inj hc
      exact .v _
    | 1, hx, hc =>
      obtain rfl := Option.some.inj hx
      obtain rfl := Option.some.inj hc
      exact hd
    | i + 2, hx, hc => simp at hx
  cases hp : Lib.parseUintB 64 l with
  | ok n =>
    refine (Tryz.strconv_ParseUint_10_at64_ok (mkS l) (by omega) n (by rw [hd]; exact hp) w).mono fun e w' ⟨he, hw⟩ => ⟨_, he, ?_, tup _ _ _ (.v _)⟩
    rcases hw with rfl | rfl
    · exact Ext.refl _ _
    · exact bytesWorld_ext _ _ _
  | range =>
    obtain ⟨ev, h1, h2⟩ := ifc_at hI (g := 7) (by unfold gtab; simp)
    exact (Tryz.strconv_ParseUint_10_at64_range (mkS l) (by omega) (by rw [hd]; exact hp) ev w h1 h2).mono fun e w' ⟨N, he, _, _, hb⟩ => ⟨_, he, ext_below hb, tup _ _ _ (.ifc _ _)⟩
  | _ =>
    obtain ⟨ev, h1, h2⟩ := ifc_at hI (g := 6) (by unfold gtab; simp)
    exact (Tryz.strconv_ParseUint_10_at64_syntax (mkS l) (by omega) (by rw [hd]; exact hp) ev w h1 h2).mono fun e w' ⟨N, he, _, _, hb⟩ => ⟨_, he, ext_below hb, tup _ _ _ (.ifc _ _)⟩
end Go.Proofs.YtbcamncabckbnaaGreatDoor
