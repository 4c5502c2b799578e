/-
  Addresses read: TextAddr, Parse.
-/
import Derived.Test.YtbcamncabckbnaaGreatDoorAdrQ
import Derived.Lib.ParseIntBCases
namespace Go.Proofs.YtbcamncabckbnaaGreatDoor
set_option linter.unusedVariables false
set_option linter.unusedSimpArgs false
theorem u32_mod (n : Int) : IntKind.u32.wrap n = n % 4294967296 := rfl
def dNE (r : Nat × Int) : DV := .tup [.v (.int .u32 (r.1 : Nat)), .v (.int .i64 r.2)]
theorem spl_mem_len (c : UInt8) : ∀ (l : List UInt8) (p : List UInt8), p ∈ spl c l → p.length ≤ l.length
  | [], p, h => by
    simp [spl] at h
    subst h
    simp
  | b :: l, p, h => by
    by_cases hb : b = c
    · subst hb
      rw [spl_eq] at h
      rcases List.mem_cons.1 h with rfl | h
      · simp
      · have := spl_mem_len b l p h
        simp
        omega
    · cases hq : spl c l with
      | nil => exact absurd hq (spl_ne c l)
      | cons p0 ps =>
        rw [spl_cons hb hq] at h
        rcases List.mem_cons.1 h with rfl | h
        · have := spl_mem_len c l p0 (by rw [hq]; simp)
          simp
          omega
        · have := spl_mem_len c l p (by rw [hq]; simp [h])
          simp
          omega
def fA (ps : List (List UInt8)) : Nat := ps.foldl (fun a w => 256 * a + (rnum w).1) 0
theorem fA_snoc (ps : List (List UInt8)) (p : List UInt8) : fA (ps ++ [p]) = 256 * fA ps + (rnum p).1 := by
  unfold fA
  rw [List.foldl_append]
  rfl
theorem rowS_get {ps : List (List UInt8)} {i : Nat} {p : List UInt8} (hp : ps[i]? = some p) : xget (rowS (ps.map mkS)) i = [.v (.string (mkS p))] := by
  rw [xget_get, rowS, List.map_map, List.getElem?_map, hp]
  rfl
theorem txtA_bad {ps : List (List UInt8)} (h : ¬ (ps.length = 4 ∧ ps.all okp = true)) : txtA ps = (0, 10) := if_neg h
theorem txtA_good {ps : List (List UInt8)} (h : ps.length = 4 ∧ ps.all okp = true) : txtA ps = (fA ps, 0) := if_pos h
set_option maxHeartbeats 2000000 in
theorem textAddr_spec (l : List UInt8) (hl : l.length ≤ 1048576) : Spec Tryz.prog 54 [.v (.string (mkS l))] (dNE (txtA (spl 46 l))) := by
  have hs : Spec Tryz.prog 24 [.v (.string (mkS l)), .v (.string (ByteArray.mk #[46]))] (.snap 1 (rowS ((spl 46 l).map mkS)) false) := split_spec 46 l hl
  have hml : ∀ p ∈ spl 46 l, p.length ≤ 1048576 := fun p hp => Nat.le_trans (spl_mem_len 46 l p hp) hl
  generalize spl 46 l = ps at hs hml ⊢
  have hrl : (rowS (ps.map mkS)).length = ps.length := by simp [rowS]
  by_cases h4 : ps.length = 4
  · skip
    refine hspec_fn Tryz.func54 rfl ok_custref_TextAddr okr_custref_TextAddr rfl (by kernel_rfl) ?_
    intro Γ hW0 hN0 hL0
    have hW := hW0 rfl
    clear hW0 hN0 hL0
    unfold x_custref_TextAddr r_custref_TextAddr
    with_reducible refine auC ?_
    repeat' (first
      | (with_reducible refine auS ?_)
      | (first | (simp only [hrl, h4]) | (with_reducible refine runR_call hs ?_))
      | (with_reducible refine auD ?_)
      | ((with_reducible refine auB ?_ ?_); all_goals first | (intro h; first | exact auH | simp only [h, runR_t, runR_f] | skip) | skip)
      | fail)
    (all_goals first | exact auP | skip)
    refine go_loopH (α := Nat) (fun i => [(⟨.d0, .d0, .d5⟩, .v (.int .i64 (fA (ps.take i) : Nat))), (⟨.d0, .d2, .d1⟩, .v (.int .i64 (i : Nat)))]) (fun i => []) (fun _ => Γ.g0) (fun i => 4 - i) (fun i => i ≤ 4 ∧ (ps.take i).all okp = true ∧ fA (ps.take i) < 256 ^ i) 0 ⟨Nat.zero_le _, rfl, by show (0 : Nat) < 1; decide⟩ ?_ ?_
    · skip
      refine le_mk ?_ ?_ (Nat.le_refl _)
      all_goals first | with_reducible refine auE ?_ | exact auE0
      all_goals (repeat' (first | exact trivial | exact rfl | apply And.intro))
    rintro i ⟨hi, hok, hb⟩
    dsimp only at hi hok hb ⊢
    with_reducible refine auL ?_
    by_cases hlt : i < 4
    · obtain ⟨p, hp⟩ : ∃ p, ps[i]? = some p := ⟨_, List.getElem?_eq_getElem (by omega)⟩
      have hx := rowS_get hp
      have hpm : p ∈ ps := List.mem_of_getElem? hp
      have hr := readNum_spec p (hml p hpm)
      have hpow : (256 : Nat) ^ i ≤ 256 ^ 3 := Nat.pow_le_pow_right (by decide) (by omega)
      have w1 : IntKind.i64.wrap ((i : Int) + 1) = ((i + 1 : Nat) : Int) := by rw [IntWalk.i64_in _ (by omega)]; omega
      have hsn := fA_snoc (ps.take i) p
      rw [← take_snoc hp] at hsn
      have hnx : okp p = true → (ps.take (i + 1)).all okp = true := fun hpo => by
        rw [take_snoc hp, List.all_append, hok]
        simp [hpo]
      have hbad : okp p = false → txtA ps = (0, 10) := fun hpo => txtA_bad fun q => by
        have := List.all_eq_true.1 q.2 p hpm
        rw [hpo] at this
        cases this
      have hokp : okp p = ((rnum p).2 && decide ((rnum p).1 ≤ 255)) := rfl
      unfold dNB at hr
      generalize hrn : (rnum p).1 = n at hr hokp hsn
      generalize (rnum p).2 = b at hr hokp
      generalize fA (ps.take i) = A at *
      by_cases hc : okp p = true
      · rw [hokp, Bool.and_eq_true, decide_eq_true_eq] at hc
        obtain ⟨rfl, hn⟩ := hc
        have w2 : IntKind.i64.wrap (256 * (A : Nat)) = 256 * (A : Nat) := IntWalk.i64_in _ (by omega)
        have w3 : IntKind.i64.wrap (256 * (A : Nat) + (n : Nat)) = ((fA (ps.take (i + 1)) : Nat) : Int) := by rw [IntWalk.i64_in _ (by omega)]; omega
        have hn2 : decide ((255 : Int) < (n : Nat)) = false := decide_eq_false (by omega)
        repeat' (first
          | (with_reducible refine auS ?_)
          | (first | (simp only [hrl, h4, hx, w1, w2, w3, hn2, Int.toNat_natCast]) | (with_reducible refine runR_call hr ?_))
          | (with_reducible refine auD ?_)
          | ((with_reducible refine auB ?_ ?_); all_goals first | (intro h; first | exact auH | simp only [h, runR_t, runR_f] | skip) | skip)
          | fail)
        (all_goals first | exact auP | skip)
        refine nx_loop ⟨i + 1, ⟨by omega, hnx ?_, ?_⟩, by omega, ?_⟩
        · rw [hokp]
          simp [hn]
        · show fA (ps.take (i + 1)) < 256 ^ (i + 1)
          rw [hsn, Nat.pow_succ]
          omega
        refine le_mk ?_ ?_ (Nat.le_refl _)
        all_goals first | with_reducible refine auE ?_ | exact auE0
        all_goals (repeat' (first | exact trivial | exact rfl | apply And.intro))
      · have hc2 : okp p = false := by simpa using hc
        rw [hbad hc2]
        rw [hokp] at hc2
        cases b with
        | false =>
          repeat' (first
            | (with_reducible refine auS ?_)
            | (first | (simp only [hrl, h4, hx, w1, Int.toNat_natCast]) | (with_reducible refine runR_call hr ?_))
            | (with_reducible refine auD ?_)
            | ((with_reducible refine auB ?_ ?_); all_goals first | (intro h; first | exact auH | simp only [h, runR_t, runR_f] | skip) | skip)
            | fail)
          (all_goals first | exact auP | skip)
          all_goals with_reducible refine auF ?_
          all_goals (try first | with_reducible refine auR ?_ | exact auR0)
          all_goals (try simp only [hsM] at *)
          all_goals rfl
        | true =>
          have hn2 : decide ((255 : Int) < (n : Nat)) = true := by
            rw [Bool.true_and, decide_eq_false_iff_not] at hc2
            exact decide_eq_true (by omega)
          repeat' (first
            | (with_reducible refine auS ?_)
            | (first | (simp only [hrl, h4, hx, w1, hn2, Int.toNat_natCast]) | (with_reducible refine runR_call hr ?_))
            | (with_reducible refine auD ?_)
            | ((with_reducible refine auB ?_ ?_); all_goals first | (intro h; first | exact auH | simp only [h, runR_t, runR_f] | skip) | skip)
            | fail)
          (all_goals first | exact auP | skip)
          all_goals with_reducible refine auF ?_
          all_goals (try first | with_reducible refine auR ?_ | exact auR0)
          all_goals (try simp only [hsM] at *)
          all_goals rfl
    · obtain rfl : i = 4 := by omega
      rw [List.take_of_length_le (by omega)] at hok hb ⊢
      rw [txtA_good ⟨h4, hok⟩]
      generalize fA ps = A at *
      have w2 : IntKind.u32.wrap (A : Nat) = (A : Nat) := by
        have e : (256 : Nat) ^ 4 = 4294967296 := by decide
        rw [u32_mod]
        omega
      repeat' (first
        | (with_reducible refine auS ?_)
        | (first | (simp only [hrl, h4, w2]))
        | (with_reducible refine auD ?_)
        | ((with_reducible refine auB ?_ ?_); all_goals first | (intro h; first | exact auH | simp only [h, runR_t, runR_f] | skip) | skip)
        | fail)
      (all_goals first | exact auP | skip)
      all_goals with_reducible refine auF ?_
      all_goals (try first | with_reducible refine auR ?_ | exact auR0)
      all_goals (try simp only [hsM] at *)
      all_goals rfl
  · rw [txtA_bad fun q => h4 q.1]
    have h4' : decide (((ps.length : Nat) : Int) = 4) = false := decide_eq_false (by omega)
    refine hspec_fn Tryz.func54 rfl ok_custref_TextAddr okr_custref_TextAddr rfl (by kernel_rfl) ?_
    intro Γ hW0 hN0 hL0
    have hW := hW0 rfl
    clear hW0 hN0 hL0
    unfold x_custref_TextAddr r_custref_TextAddr
    with_reducible refine auC ?_
    repeat' (first
      | (with_reducible refine auS ?_)
      | (first | (simp only [hrl, h4']) | (with_reducible refine runR_call hs ?_))
      | (with_reducible refine auD ?_)
      | ((with_reducible refine auB ?_ ?_); all_goals first | (intro h; first | exact auH | simp only [h, runR_t, runR_f] | skip) | skip)
      | fail)
    (all_goals first | exact auP | skip)
    all_goals with_reducible refine auF ?_
    all_goals (try first | with_reducible refine auR ?_ | exact auR0)
    all_goals (try simp only [hsM] at *)
    all_goals rfl
theorem foldA_lt : ∀ (ps : List (List UInt8)) (a b : Nat), a < 4294967296 → foldA a ps = some b → b < 4294967296
  | [], a, b, h, e => by
    obtain rfl := Option.some.inj e
    exact h
  | w :: r, a, b, h, e => by
    unfold foldA at e
    split at e
    · exact foldA_lt r _ b (Nat.mod_lt _ (by decide)) e
    · cases e
set_option maxHeartbeats 2000000 in
theorem parse_spec (l : List UInt8) (hl : l.length ≤ 1048576) : Spec Tryz.prog 64 [.v (.string (mkS l))] (dNE (parA l)) := by
  have hs : Spec Tryz.prog 24 [.v (.string (mkS l)), .v (.string (ByteArray.mk #[46]))] (.snap 1 (rowS ((spl 46 l).map mkS)) false) := split_spec 46 l hl
  have hml : ∀ p ∈ spl 46 l, p.length ≤ 1048576 := fun p hp => Nat.le_trans (spl_mem_len 46 l p hp) hl
  have hcount := spl_le 46 l
  unfold parA
  generalize spl 46 l = ps at hs hml hcount ⊢
  have hrl : (rowS (ps.map mkS)).length = ps.length := by simp [rowS]
  refine hspec_fn Tryz.func64 rfl ok_ip_Parse okr_ip_Parse rfl (by kernel_rfl) ?_
  intro Γ hW0 hN0 hL0
  have hW := hW0 rfl
  clear hW0 hN0 hL0
  unfold x_ip_Parse r_ip_Parse
  with_reducible refine auC ?_
  repeat' (first
    | (with_reducible refine auS ?_)
    | (first | (simp only [hrl]) | (with_reducible refine runR_call hs ?_))
    | (with_reducible refine auD ?_)
    | ((with_reducible refine auB ?_ ?_); all_goals first | (intro h; first | exact auH | simp only [h, runR_t, runR_f] | skip) | skip)
    | fail)
  (all_goals first | exact auP | skip)
  refine go_loopH (α := Nat × Nat) (fun x => [(⟨.d0, .d0, .d4⟩, .v (.int .u32 (x.2 : Nat))), (⟨.d0, .d1, .d6⟩, .v (.int .i64 (x.1 : Nat)))]) (fun i => []) (fun _ => Γ.g0) (fun x => ps.length - x.1) (fun x => x.1 ≤ ps.length ∧ x.2 < 4294967296 ∧ foldA 0 ps = foldA x.2 (ps.drop x.1)) (0, 0) ⟨Nat.zero_le _, by decide, rfl⟩ ?_ ?_
  · skip
    refine le_mk ?_ ?_ (Nat.le_refl _)
    all_goals first | with_reducible refine auE ?_ | exact auE0
    all_goals (repeat' (first | exact trivial | exact rfl | apply And.intro))
  rintro ⟨i, a⟩ ⟨hi, ha, hf⟩
  dsimp only at hi ha hf ⊢
  with_reducible refine auL ?_
  by_cases hlt : i < ps.length
  · obtain ⟨p, hp⟩ : ∃ p, ps[i]? = some p := ⟨_, List.getElem?_eq_getElem hlt⟩
    have hx := rowS_get hp
    have hpm : p ∈ ps := List.mem_of_getElem? hp
    have hr := parse8_spec p (hml p hpm)
    rw [List.drop_eq_getElem_cons hlt, show ps[i] = p from Option.some.inj ((List.getElem?_eq_getElem hlt).symm.trans hp), foldA] at hf
    have w1 : IntKind.i64.wrap ((i : Int) + 1) = ((i + 1 : Nat) : Int) := by rw [IntWalk.i64_in _ (by omega)]; omega
    unfold pu8 at hr
    cases hq : Lib.parseUintB 8 p with
    | ok n =>
      rw [hq] at hr hf
      dsimp only at hr hf
      have hn := Lib.parseUintB_le hq
      have hn2 : n ≤ 255 := hn
      have w2 : IntKind.u32.wrap ((n : Nat) : Int) = (n : Nat) := by rw [u32_mod]; omega
      have w3 : bits .or .u32 (IntKind.u32.wrap ((a : Nat) * 2 ^ min 8 IntKind.u32.bits)) (n : Nat) = (((a * 256 + n) % 4294967296 : Nat) : Int) := by
        have e : min 8 IntKind.u32.bits = 8 := rfl
        rw [e, u32_mod, u32_or_add 8 _ _ (by omega) (by omega) (by omega) (by omega) (by omega) (by omega)]
        omega
      repeat' (first
        | (with_reducible refine auS ?_)
        | (first | (simp only [hrl, hx, w1, w2, w3, Int.toNat_natCast]) | (with_reducible refine runR_call hr ?_))
        | (with_reducible refine auD ?_)
        | ((with_reducible refine auB ?_ ?_); all_goals first | (intro h; first | exact auH | simp only [h, runR_t, runR_f] | skip) | skip)
        | fail)
      (all_goals first | exact auP | skip)
      refine nx_loop ⟨(i + 1, (a * 256 + n) % 4294967296), ⟨hlt, Nat.mod_lt _ (by decide), hf⟩, Nat.sub_lt_sub_left hlt (Nat.lt_succ_self i), ?_⟩
      refine le_mk ?_ ?_ (Nat.le_refl _)
      all_goals first | with_reducible refine auE ?_ | exact auE0
      all_goals (repeat' (first | exact trivial | exact rfl | apply And.intro))
    | range =>
      rw [hq] at hr hf
      dsimp only at hr hf
      rw [hf]
      dsimp only
      repeat' (first
        | (with_reducible refine auS ?_)
        | (first | (simp only [hrl, hx, w1, Int.toNat_natCast]) | (with_reducible refine runR_call hr ?_))
        | (with_reducible refine auD ?_)
        | ((with_reducible refine auB ?_ ?_); all_goals first | (intro h; first | exact auH | simp only [h, runR_t, runR_f] | skip) | skip)
        | fail)
      (all_goals first | exact auP | skip)
      all_goals with_reducible refine auF ?_
      all_goals (try first | with_reducible refine auR ?_ | exact auR0)
      all_goals (try simp only [hsM] at *)
      all_goals rfl
    | _ =>
      rw [hq] at hr hf
      dsimp only at hr hf
      rw [hf]
      dsimp only
      repeat' (first
        | (with_reducible refine auS ?_)
        | (first | (simp only [hrl, hx, w1, Int.toNat_natCast]) | (with_reducible refine runR_call hr ?_))
        | (with_reducible refine auD ?_)
        | ((with_reducible refine auB ?_ ?_); all_goals first | (intro h; first | exact auH | simp only [h, runR_t, runR_f] | skip) | skip)
        | fail)
      (all_goals first | exact auP | skip)
      all_goals with_reducible refine auF ?_
      all_goals (try first | with_reducible refine auR ?_ | exact auR0)
      all_goals (try simp only [hsM] at *)
      all_goals rfl
  · obtain rfl : i = ps.length := by omega
    rw [List.drop_length, foldA] at hf
    rw [hf]
    dsimp only
    have hsh := show_spec a ha
    by_cases he : showA a = l
    · rw [if_pos he]
      rw [he] at hsh
      repeat' (first
        | (with_reducible refine auS ?_)
        | (first | (simp only [hrl]) | (with_reducible refine runR_call hsh ?_))
        | (with_reducible refine auD ?_)
        | ((with_reducible refine auB ?_ ?_); all_goals first | (intro h; first | exact auH | simp only [h, runR_t, runR_f] | skip) | skip)
        | fail)
      (all_goals first | exact auP | skip)
      all_goals with_reducible refine auF ?_
      all_goals (try first | with_reducible refine auR ?_ | exact auR0)
      all_goals (try simp only [hsM] at *)
      all_goals rfl
    · rw [if_neg he]
      have he2 : decide (mkS (showA a) = mkS l) = false := decide_eq_false fun q => he (mkS_inj.1 q)
      repeat' (first
        | (with_reducible refine auS ?_)
        | (first | (simp only [hrl, he2]) | (with_reducible refine runR_call hsh ?_))
        | (with_reducible refine auD ?_)
        | ((with_reducible refine auB ?_ ?_); all_goals first | (intro h; first | exact auH | simp only [h, runR_t, runR_f] | skip) | skip)
        | fail)
      (all_goals first | exact auP | skip)
      all_goals with_reducible refine auF ?_
      all_goals (try first | with_reducible refine auR ?_ | exact auR0)
      all_goals (try simp only [hsM] at *)
      all_goals rfl
end Go.Proofs.YtbcamncabckbnaaGreatDoor
