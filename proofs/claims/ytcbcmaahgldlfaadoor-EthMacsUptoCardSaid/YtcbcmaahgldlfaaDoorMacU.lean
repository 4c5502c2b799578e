/-
  The reference's TextMac, walked.
-/
import Derived.Test.YtcbcmaahgldlfaaDoorMacT
namespace Go.Proofs.YtcbcmaahgldlfaaDoor
set_option linter.unusedVariables false
set_option linter.unusedSimpArgs false
def ixN (n : Nat) : Int := Lib.indexByte hexL n.toUInt8
theorem ixN_fin : ∀ n : Fin 256, -1 ≤ ixN n.val ∧ ixN n.val < 16 := by decide +kernel
theorem ixN_rng {n : Nat} (h : n < 256) : -1 ≤ ixN n ∧ ixN n < 16 := ixN_fin ⟨n, h⟩
theorem ix_spec (n : Nat) : Spec Tryd.prog 11 [.v (.string (ByteArray.mk #[48, 49, 50, 51, 52, 53, 54, 55, 56, 57, 97, 98, 99, 100, 101, 102])), .v (.int .u8 (n : Nat))] (.v (.int .i64 (ixN n))) := sibyte_spec hexL (n : Nat)
def pieceOk (p : List UInt8) : Bool := decide (p.length = 2 ∧ 0 ≤ ixN (bN p 0) ∧ 0 ≤ ixN (bN p 1))
def pieceV (p : List UInt8) : Int := 16 * ixN (bN p 0) + ixN (bN p 1)
def cI (x : Int) : DV := .v (.int .u8 x)
def zr6 : List DV := [cI 0, cI 0, cI 0, cI 0, cI 0, cI 0]
def cellsAt (vs : List Int) (i : Nat) : List DV := (vs.take i).map cI ++ zr6.drop i
def tmac (ps : List (List UInt8)) : DV := if ps.length = 6 ∧ ps.all pieceOk = true then .tup [.agg ((ps.map pieceV).map cI), .v (.int .i64 0)] else .tup [.agg zr6, .v (.int .i64 10)]
theorem cells_len (vs : List Int) (hv : vs.length = 6) (i : Nat) (hi : i ≤ 6) : (cellsAt vs i).length = 6 := by
  simp [cellsAt, zr6]
  omega
theorem cells_set (vs : List Int) (hv : vs.length = 6) {i : Nat} {v : Int} (hg : vs[i]? = some v) : splice (cellsAt vs i) i [.v (.int .u8 v)] = cellsAt vs (i + 1) := by
  match vs, hv with
  | [a, b, c, d, e, f], _ =>
    match i, hg with
    | 0, hg | 1, hg | 2, hg | 3, hg | 4, hg | 5, hg => obtain rfl := Option.some.inj hg; rfl
    | n + 6, hg => simp at hg
theorem tmac_bad {ps : List (List UInt8)} (h : ¬ (ps.length = 6 ∧ ps.all pieceOk = true)) : tmac ps = .tup [.agg zr6, .v (.int .i64 10)] := if_neg h
theorem tmac_good {ps : List (List UInt8)} (h : ps.length = 6 ∧ ps.all pieceOk = true) : tmac ps = .tup [.agg ((ps.map pieceV).map cI), .v (.int .i64 0)] := if_pos h
set_option maxHeartbeats 2000000 in
theorem textMac_spec (l : List UInt8) (hl : l.length ≤ 1048576) : Spec Tryd.prog 5 [.v (.string (mkS l))] (tmac (spl 58 l)) := by
  have hs : Spec Tryd.prog 10 [.v (.string (mkS l)), .v (.string (ByteArray.mk #[58]))] (.snap 1 (rowS ((spl 58 l).map mkS)) false) := split_spec l hl
  generalize spl 58 l = ps at hs ⊢
  have hrl : (rowS (ps.map mkS)).length = ps.length := by simp [rowS]
  by_cases h6 : ps.length = 6
  · have hvl : (ps.map pieceV).length = 6 := by simpa using h6
    refine hspec_fn Tryd.func5 rfl ok_custref_TextMac okr_custref_TextMac rfl (by kernel_rfl) ?_
    intro Γ hW0 hN0 hL0
    have hW := hW0 rfl
    clear hW0 hN0 hL0
    unfold x_custref_TextMac r_custref_TextMac
    refine auC ?_
    repeat' (first
      | (refine auS ?_)
      | (first | (simp only [hrl, h6]) | (with_reducible refine runR_call hs ?_))
      | (refine auD ?_)
      | (with_reducible refine runR_b (fun h => ?_) (fun h => ?_) <;> first | exact auH | simp only [h, runR_t, runR_f])
      | (with_reducible refine condK_bl ?_ ?_)
      | (with_reducible refine condK_b (fun h => ?_) (fun h => ?_) <;> first | exact auH | skip)
      | fail)
    (all_goals first | exact auP | skip)
    refine go_loopH (α := Nat) (fun i => [(⟨.d0, .d2, .d0⟩, .v (.int .i64 (i : Nat)))]) (fun i => [(1, some ⟨Γ.g0 + 1, 6, [cellsAt (ps.map pieceV) i]⟩)]) (fun _ => Γ.g0 + 2) (fun i => 6 - i) (fun i => i ≤ 6 ∧ (ps.take i).all pieceOk = true) 0 ⟨Nat.zero_le _, rfl⟩ ?_ ?_
    · skip
      refine le_mk ?_ ?_ (Nat.le_refl _)
      all_goals first | refine auE ?_ | exact auE0
      all_goals (repeat' (first | exact trivial | exact rfl | apply And.intro))
    rintro i ⟨hi, hok⟩
    dsimp only at hi hok ⊢
    refine auL ?_
    by_cases hlt : i < 6
    · obtain ⟨p, hp⟩ : ∃ p, ps[i]? = some p := ⟨_, List.getElem?_eq_getElem (by omega)⟩
      have hx : xget (rowS (ps.map mkS)) i = [.v (.string (mkS p))] := by
        rw [xget_get, rowS, List.map_map, List.getElem?_map, hp]
        rfl
      have hpm : p ∈ ps := List.mem_of_getElem? hp
      have n0 := bN_lt p 0
      have n1 := bN_lt p 1
      have hA := ix_spec (bN p 0)
      have hB := ix_spec (bN p 1)
      have rA := ixN_rng n0
      have rB := ixN_rng n1
      have hv : (ps.map pieceV)[i]? = some (pieceV p) := by rw [List.getElem?_map, hp]; rfl
      have hset := cells_set _ hvl hv
      have hcl := cells_len _ hvl i (by omega)
      have w1 : IntKind.i64.wrap ((i : Int) + 1) = ((i + 1 : Nat) : Int) := by rw [IntWalk.i64_in _ (by omega)]; omega
      have w2 : IntKind.i64.wrap (16 * ixN (bN p 0)) = 16 * ixN (bN p 0) := IntWalk.i64_in _ (by omega)
      have w3 : IntKind.i64.wrap (16 * ixN (bN p 0) + ixN (bN p 1)) = 16 * ixN (bN p 0) + ixN (bN p 1) := IntWalk.i64_in _ (by omega)
      have hnx : pieceOk p = true → (ps.take (i + 1)).all pieceOk = true := fun hpo => by
        rw [take_snoc hp, List.all_append, hok]
        simp [hpo]
      have hbad : pieceOk p = false → tmac ps = .tup [.agg zr6, .v (.int .i64 10)] := fun hpo => tmac_bad fun q => by
        have := List.all_eq_true.1 q.2 p hpm
        rw [hpo] at this
        cases this
      generalize cellsAt (ps.map pieceV) i = cs at hset hcl ⊢
      have hcase : (¬ p.length = 2 ∧ pieceOk p = false) ∨ (p.length = 2 ∧ ixN (bN p 0) < 0 ∧ pieceOk p = false) ∨ (p.length = 2 ∧ 0 ≤ ixN (bN p 0) ∧ ixN (bN p 1) < 0 ∧ pieceOk p = false) ∨ (p.length = 2 ∧ 0 ≤ ixN (bN p 0) ∧ 0 ≤ ixN (bN p 1) ∧ pieceOk p = true) := by
        unfold pieceOk
        simp only [decide_eq_false_iff_not, decide_eq_true_iff]
        omega
      rcases hcase with ⟨a1, a2⟩ | ⟨a1, a2, a3⟩ | ⟨a1, a2, a3, a4⟩ | ⟨a1, a2, a3, a4⟩
      · rw [hbad a2]
        repeat' (first
          | (refine auS ?_)
          | (first | (simp only [hrl, h6, hx, mkS_size, mkS_at, w1, w2, w3, Int.toNat_natCast]) | (with_reducible refine runR_call hA ?_) | (with_reducible refine runR_call hB ?_))
          | (refine auD ?_)
          | (with_reducible refine runR_b (fun h => ?_) (fun h => ?_) <;> first | exact auH | simp only [h, runR_t, runR_f])
          | (with_reducible refine condK_bl ?_ ?_)
          | (with_reducible refine condK_b (fun h => ?_) (fun h => ?_) <;> first | exact auH | skip)
          | fail)
        (all_goals first | exact auP | skip)
        all_goals refine auF ?_
        all_goals (try first | refine auR ?_ | exact auR0)
        all_goals (try simp only [hsM] at *)
        all_goals rfl
      · rw [hbad a3]
        repeat' (first
          | (refine auS ?_)
          | (first | (simp only [hrl, h6, hx, mkS_size, mkS_at, w1, w2, w3, Int.toNat_natCast]) | (with_reducible refine runR_call hA ?_) | (with_reducible refine runR_call hB ?_))
          | (refine auD ?_)
          | (with_reducible refine runR_b (fun h => ?_) (fun h => ?_) <;> first | exact auH | simp only [h, runR_t, runR_f])
          | (with_reducible refine condK_bl ?_ ?_)
          | (with_reducible refine condK_b (fun h => ?_) (fun h => ?_) <;> first | exact auH | skip)
          | fail)
        (all_goals first | exact auP | skip)
        all_goals refine auF ?_
        all_goals (try first | refine auR ?_ | exact auR0)
        all_goals (try simp only [hsM] at *)
        all_goals rfl
      · rw [hbad a4]
        repeat' (first
          | (refine auS ?_)
          | (first | (simp only [hrl, h6, hx, mkS_size, mkS_at, w1, w2, w3, Int.toNat_natCast]) | (with_reducible refine runR_call hA ?_) | (with_reducible refine runR_call hB ?_))
          | (refine auD ?_)
          | (with_reducible refine runR_b (fun h => ?_) (fun h => ?_) <;> first | exact auH | simp only [h, runR_t, runR_f])
          | (with_reducible refine condK_bl ?_ ?_)
          | (with_reducible refine condK_b (fun h => ?_) (fun h => ?_) <;> first | exact auH | skip)
          | fail)
        (all_goals first | exact auP | skip)
        all_goals refine auF ?_
        all_goals (try first | refine auR ?_ | exact auR0)
        all_goals (try simp only [hsM] at *)
        all_goals rfl
      · skip
        repeat' (first
          | (refine auS ?_)
          | (first | (simp only [hrl, h6, hx, mkS_size, mkS_at, w1, w2, w3, Int.toNat_natCast]) | (with_reducible refine runR_call hA ?_) | (with_reducible refine runR_call hB ?_))
          | (refine auD ?_)
          | (with_reducible refine runR_b (fun h => ?_) (fun h => ?_) <;> first | exact auH | simp only [h, runR_t, runR_f])
          | (with_reducible refine condK_bl ?_ ?_)
          | (with_reducible refine condK_b (fun h => ?_) (fun h => ?_) <;> first | exact auH | skip)
          | fail)
        (all_goals first | exact auP | skip)
        refine nx_loop ⟨i + 1, ⟨by omega, hnx a4⟩, by omega, ?_⟩
        have w4 : IntKind.u8.wrap (16 * ixN (bN p 0) + ixN (bN p 1)) = pieceV p := u8_in _ (by omega)
        refine le_mk ?_ ?_ (Nat.le_refl _)
        all_goals first | refine auE ?_ | exact auE0
        all_goals (repeat' (first | exact trivial | exact rfl | apply And.intro))
        all_goals rw [w4, Nat.zero_add, Nat.mul_one, hset]
    · obtain rfl : i = 6 := by omega
      have hall : ps.all pieceOk = true := by rwa [List.take_of_length_le (by omega)] at hok
      rw [tmac_good ⟨h6, hall⟩]
      have hfin : cellsAt (ps.map pieceV) 6 = (ps.map pieceV).map cI := by
        unfold cellsAt
        rw [List.take_of_length_le (by omega)]
        exact List.append_nil _
      rw [hfin]
      obtain ⟨a, b, c, d, e, f, hvs⟩ : ∃ a b c d e f, ps.map pieceV = [a, b, c, d, e, f] := by
        generalize ps.map pieceV = vs at hvl
        match vs, hvl with
        | [a, b, c, d, e, f], _ => exact ⟨a, b, c, d, e, f, rfl⟩
      rw [hvs]
      dsimp only [List.map, cI]
      repeat' (first
        | (refine auS ?_)
        | (simp only [hrl, h6])
        | (refine auD ?_)
        | (with_reducible refine runR_b (fun h => ?_) (fun h => ?_) <;> first | exact auH | simp only [h, runR_t, runR_f])
        | (with_reducible refine condK_bl ?_ ?_)
        | (with_reducible refine condK_b (fun h => ?_) (fun h => ?_) <;> first | exact auH | skip)
        | fail)
      (all_goals first | exact auP | skip)
      all_goals refine auF ?_
      all_goals (try first | refine auR ?_ | exact auR0)
      all_goals (try simp only [hsM] at *)
  · rw [tmac_bad fun q => h6 q.1]
    refine hspec_fn Tryd.func5 rfl ok_custref_TextMac okr_custref_TextMac rfl (by kernel_rfl) ?_
    intro Γ hW0 hN0 hL0
    have hW := hW0 rfl
    clear hW0 hN0 hL0
    unfold x_custref_TextMac r_custref_TextMac
    refine auC ?_
    repeat' (first
      | (refine auS ?_)
      | (first | (simp only [hrl, h6]) | (with_reducible refine runR_call hs ?_))
      | (refine auD ?_)
      | (with_reducible refine runR_b (fun h => ?_) (fun h => ?_) <;> first | exact auH | simp only [h, runR_t, runR_f])
      | (with_reducible refine condK_bl ?_ ?_)
      | (with_reducible refine condK_b (fun h => ?_) (fun h => ?_) <;> first | exact auH | skip)
      | fail)
    (all_goals first | exact auP | skip)
    all_goals refine auF ?_
    all_goals (try first | refine auR ?_ | exact auR0)
    all_goals (try simp only [hsM] at *)
    all_goals rfl
end Go.Proofs.YtcbcmaahgldlfaaDoor
