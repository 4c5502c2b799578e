/-
  The reference's words of a line: WordsOf; has a word been had?
-/
import Derived.Test.YtbcamncabckbnaaGreatDoorCutS
import Derived.Test.YtbcamncabckbnaaGreatDoorConfR
import Derived.Test.YtbcamncabckbnaaGreatDoorCallG
namespace Go.Proofs.YtbcamncabckbnaaGreatDoor
set_option linter.unusedVariables false
set_option linter.unusedSimpArgs false
theorem rowK_len (l : List W8) : (rowS (l.map mkS)).length = l.length := by simp [rowS]
theorem rowK_one : ∀ l : List W8, allOnes (rowS (l.map mkS)) = true
  | [] => rfl
  | b :: l => rowK_one l
theorem rowK_snoc (l : List W8) (w : W8) : rowS (l.map mkS) ++ [[.v (.string (mkS w))]] = rowS ((l ++ [w]).map mkS) := by simp [rowS]
theorem wordsL_step {w : W8} (h : (32 : UInt8) ∉ w) (b : UInt8) (l : W8) : wordsL (w ++ b :: l) = if b = 32 then (if w = [] then wordsL l else w :: wordsL l) else wordsL ((w ++ [b]) ++ l) := by
  by_cases hb : b = 32
  · subst hb
    rw [if_pos rfl]
    unfold wordsL
    rw [spl_app l h]
    by_cases hw : w = []
    · rw [if_pos hw]
      simp [hw]
    · rw [if_neg hw]
      simp [hw]
  · rw [if_neg hb]
    simp
theorem wordsL_end {w : W8} (h : (32 : UInt8) ∉ w) : wordsL w = if w = [] then [] else [w] := by
  unfold wordsL
  rw [spl_one h]
  by_cases hw : w = [] <;> simp [hw]
set_option maxHeartbeats 4000000 in
theorem wordsOf_spec (l : W8) (hl : l.length ≤ 1048576) : Spec Tryz.prog 28 [.v (.string (mkS l))] (.snap 1 (rowS ((wordsL l).map mkS)) false) := by
  have em : (ByteArray.mk #[] : ByteArray) = mkS [] := rfl
  have w0 : IntKind.i64.wrap (((l.length : Nat) : Int) + 1) = ((l.length + 1 : Nat) : Int) := by rw [IntWalk.i64_in _ (by omega)]; omega
  refine hspec_fn Tryz.func28 rfl ok_custref_WordsOf okr_custref_WordsOf rfl (by kernel_rfl) ?_
  intro Γ hW0 hN0 hL0
  have hW := hW0 rfl
  clear hW0 hN0 hL0
  unfold x_custref_WordsOf r_custref_WordsOf
  with_reducible refine auC ?_
  repeat' (first
    | ((with_reducible refine atGo ?_); (refine go_le (le_row ⟨.d0, .d0, .d3⟩ 1 1 rfl rfl) ?_))
    | (with_reducible refine auS ?_)
    | (simp only [mkS_size, w0])
    | (with_reducible refine auD ?_)
    | ((with_reducible refine auB ?_ ?_); all_goals first | (intro h; first | exact auH | simp only [h, runR_t, runR_f] | skip) | skip)
    | fail)
  (all_goals first | exact auP | skip)
  refine go_loopH (α := Nat × List W8 × W8 × Nat × Nat) (fun x => [(⟨.d0, .d0, .d3⟩, .sl 1 x.2.2.2.1 1 0 x.2.1.length false), (⟨.d0, .d0, .d4⟩, .v (.string (mkS x.2.2.1))), (⟨.d0, .d1, .d1⟩, .v (.int .i64 (x.1 : Nat)))]) (fun x => [(0, none), (1, some ⟨x.2.2.2.1, 1, rowS (x.2.1.map mkS)⟩)]) (fun x => x.2.2.2.2) (fun x => l.length + 1 - x.1)
    (fun x => x.1 ≤ l.length + 1 ∧ x.2.1.length ≤ x.1 ∧ x.2.2.1.length ≤ x.1 ∧ (32 : UInt8) ∉ x.2.2.1 ∧ ((x.1 ≤ l.length ∧ wordsL l = x.2.1 ++ wordsL (x.2.2.1 ++ l.drop x.1)) ∨ (x.1 = l.length + 1 ∧ wordsL l = x.2.1))) (0, [], [], Γ.g0, Γ.g0 + 1) ⟨Nat.zero_le _, Nat.zero_le _, Nat.zero_le _, by simp, .inl ⟨Nat.zero_le _, rfl⟩⟩ ?_ ?_
  · skip
    refine le_mk ?_ ?_ (Nat.le_refl _)
    all_goals first | with_reducible refine auE ?_ | exact auE0
    all_goals (repeat' (first | exact trivial | exact rfl | apply And.intro))
  rintro ⟨i, out, w, rn, gn⟩ ⟨hi, ho, hwl, h32, hinv⟩
  dsimp only at hi ho hwl h32 hinv ⊢
  with_reducible refine auL ?_
  rcases hinv with ⟨hle, hinv⟩ | ⟨hend, hinv⟩
  · have w1 : IntKind.i64.wrap ((i : Int) + 1) = ((i + 1 : Nat) : Int) := by rw [IntWalk.i64_in _ (by omega)]; omega
    have hsn := rowK_snoc out w
    have hol := rowK_len out
    have hone := rowK_one out
    have hol2 : (out ++ [w]).length = out.length + 1 := by simp
    by_cases hlt : i < l.length
    · obtain ⟨b, hb⟩ : ∃ b, l[i]? = some b := ⟨_, List.getElem?_eq_getElem hlt⟩
      have hbn0 : bN l i = b.toNat := bN_some hb
      rw [List.drop_eq_getElem_cons hlt, show l[i] = b from Option.some.inj ((List.getElem?_eq_getElem hlt).symm.trans hb), wordsL_step h32] at hinv
      by_cases hb32 : b = 32
      · rw [if_pos hb32] at hinv
        have hbn : ((bN l i : Nat) : Int) = 32 := by rw [hbn0, hb32]; rfl
        by_cases hw0 : w = []
        · rw [if_pos hw0] at hinv
          have hd : decide (mkS w = mkS []) = true := decide_eq_true (congrArg mkS hw0)
          repeat' (first
            | (with_reducible refine auS ?_)
            | (simp only [em, mkS_size, mkS_at, Int.toNat_natCast, hbn, decide_true, decide_false, w1, hd])
            | (with_reducible refine auD ?_)
            | ((with_reducible refine auB ?_ ?_); all_goals first | (intro h; first | exact auH | simp only [h, runR_t, runR_f] | skip) | skip)
            | fail)
          (all_goals first | exact auP | skip)
          refine nx_loop ⟨(i + 1, out, [], rn, gn), ⟨by show i + 1 ≤ l.length + 1; omega, Nat.le_succ_of_le ho, Nat.zero_le _, by simp, .inl ⟨hlt, hinv⟩⟩, Nat.sub_lt_sub_left (by show i < l.length + 1; omega) (Nat.lt_succ_self i), ?_⟩
          refine le_mk ?_ ?_ (Nat.le_refl _)
          all_goals first | with_reducible refine auE ?_ | exact auE0
          all_goals (repeat' (first | exact trivial | exact rfl | apply And.intro))
        · rw [if_neg hw0] at hinv
          have hd : decide (mkS w = mkS []) = false := decide_eq_false (fun q => hw0 (mkS_inj.1 q))
          generalize rowS (out.map mkS) = X at *
          repeat' (first
            | (with_reducible refine auS ?_)
            | (simp only [em, mkS_size, mkS_at, Int.toNat_natCast, hbn, decide_true, decide_false, w1, hd, hsn, hol])
            | (with_reducible refine auD ?_)
            | ((with_reducible refine auB ?_ ?_); all_goals first | (intro h; first | exact auH | simp only [h, runR_t, runR_f] | skip) | skip)
            | (first | ((with_reducible refine atN ?_); first | (refine runR_n ⟨by trivial, by trivial, by trivial, by trivial, hol.symm⟩ ?_) | (refine runR_n ⟨by trivial, by rw [hol]; unfold room maxLen; simp only [List.length_cons, List.length_nil]; omega⟩ ?_)) | fail))
          (all_goals first | exact auP | skip)
          refine nx_loop ⟨(i + 1, out ++ [w], [], gn + 1, gn + 2), ⟨by show i + 1 ≤ l.length + 1; omega, by show (out ++ [w]).length ≤ i + 1; omega, Nat.zero_le _, by simp, .inl ⟨hlt, by rw [hinv]; simp⟩⟩, Nat.sub_lt_sub_left (by show i < l.length + 1; omega) (Nat.lt_succ_self i), ?_⟩
          refine le_mk ?_ ?_ (Nat.le_refl _)
          all_goals first | with_reducible refine auE ?_ | exact auE0
          all_goals (repeat' (first | exact trivial | exact rfl | apply And.intro))
          all_goals rw [hol2]
      · rw [if_neg hb32] at hinv
        have hbn : decide (((bN l i : Nat) : Int) = 32) = false := decide_eq_false (fun q => hb32 (UInt8.toNat_inj.1 (by rw [hbn0] at q; show b.toNat = 32; omega)))
        have ee : (mkS l).extract i (i + 1) = mkS [b] := by
          rw [mkS_ext, List.drop_eq_getElem_cons hlt, show l[i] = b from Option.some.inj ((List.getElem?_eq_getElem hlt).symm.trans hb), show i + 1 - i = 1 by omega]
          rfl
        repeat' (first
          | (with_reducible refine auS ?_)
          | (simp only [em, mkS_size, mkS_at, Int.toNat_natCast, hbn, w1, ee, mkS_app])
          | (with_reducible refine auD ?_)
          | ((with_reducible refine auB ?_ ?_); all_goals first | (intro h; first | exact auH | simp only [h, runR_t, runR_f] | skip) | skip)
          | (first | (refine runR_n (by simp only [mkS_size, List.length_cons, List.length_nil]; omega) ?_) | fail))
        (all_goals first | exact auP | skip)
        refine nx_loop ⟨(i + 1, out, w ++ [b], rn, gn), ⟨by show i + 1 ≤ l.length + 1; omega, Nat.le_succ_of_le ho, by show (w ++ [b]).length ≤ i + 1; simp; omega, by simp [h32, Ne.symm hb32], .inl ⟨hlt, hinv⟩⟩, Nat.sub_lt_sub_left (by show i < l.length + 1; omega) (Nat.lt_succ_self i), ?_⟩
        refine le_mk ?_ ?_ (Nat.le_refl _)
        all_goals first | with_reducible refine auE ?_ | exact auE0
        all_goals (repeat' (first | exact trivial | exact rfl | apply And.intro))
    · obtain rfl : i = l.length := by omega
      rw [List.drop_length, List.append_nil, wordsL_end h32] at hinv
      by_cases hw0 : w = []
      · rw [if_pos hw0, List.append_nil] at hinv
        have hd : decide (mkS w = mkS []) = true := decide_eq_true (congrArg mkS hw0)
        repeat' (first
          | (with_reducible refine auS ?_)
          | (simp only [em, mkS_size, mkS_at, Int.toNat_natCast, w1, hd])
          | (with_reducible refine auD ?_)
          | ((with_reducible refine auB ?_ ?_); all_goals first | (intro h; first | exact auH | simp only [h, runR_t, runR_f] | skip) | skip)
          | fail)
        (all_goals first | exact auP | skip)
        refine nx_loop ⟨(l.length + 1, out, [], rn, gn), ⟨Nat.le_refl _, Nat.le_succ_of_le ho, Nat.zero_le _, by simp, .inr ⟨rfl, hinv⟩⟩, Nat.sub_lt_sub_left (Nat.lt_succ_self _) (Nat.lt_succ_self _), ?_⟩
        refine le_mk ?_ ?_ (Nat.le_refl _)
        all_goals first | with_reducible refine auE ?_ | exact auE0
        all_goals (repeat' (first | exact trivial | exact rfl | apply And.intro))
      · rw [if_neg hw0] at hinv
        have hd : decide (mkS w = mkS []) = false := decide_eq_false (fun q => hw0 (mkS_inj.1 q))
        generalize rowS (out.map mkS) = X at *
        repeat' (first
          | (with_reducible refine auS ?_)
          | (simp only [em, mkS_size, mkS_at, Int.toNat_natCast, w1, hd, hsn, hol])
          | (with_reducible refine auD ?_)
          | ((with_reducible refine auB ?_ ?_); all_goals first | (intro h; first | exact auH | simp only [h, runR_t, runR_f] | skip) | skip)
          | (first | ((with_reducible refine atN ?_); first | (refine runR_n ⟨by trivial, by trivial, by trivial, by trivial, hol.symm⟩ ?_) | (refine runR_n ⟨by trivial, by rw [hol]; unfold room maxLen; simp only [List.length_cons, List.length_nil]; omega⟩ ?_)) | fail))
        (all_goals first | exact auP | skip)
        refine nx_loop ⟨(l.length + 1, out ++ [w], [], gn + 1, gn + 2), ⟨Nat.le_refl _, by show (out ++ [w]).length ≤ l.length + 1; omega, Nat.zero_le _, by simp, .inr ⟨rfl, hinv⟩⟩, Nat.sub_lt_sub_left (Nat.lt_succ_self _) (Nat.lt_succ_self _), ?_⟩
        refine le_mk ?_ ?_ (Nat.le_refl _)
        all_goals first | with_reducible refine auE ?_ | exact auE0
        all_goals (repeat' (first | exact trivial | exact rfl | apply And.intro))
        all_goals rw [hol2]
  · subst hend
    rw [hinv]
    have hxa : xtake (xdrop (rowS (out.map mkS)) 0) out.length = rowS (out.map mkS) := xall (by rw [rowK_len])
    have hnf : nfLL Γ.g0 (rowS (out.map mkS)) := nfLL_map (fun x => by simp [nfL, nfD])
    repeat' (first
      | ((with_reducible refine atGo ?_); (refine go_leG (leG_freeze hW ⟨.d0, .d0, .d3⟩ rfl rfl ⟨rfl, rfl, by show 0 + _ ≤ _; rw [rowK_len]; omega⟩) ?_))
      | (with_reducible refine auS ?_)
      | (simp only [hxa])
      | (with_reducible refine auD ?_)
      | ((with_reducible refine auB ?_ ?_); all_goals first | (intro h; first | exact auH | simp only [h, runR_t, runR_f] | skip) | skip)
      | fail)
    (all_goals first | exact auP | skip)
    all_goals with_reducible refine auF ?_
    all_goals (try first | with_reducible refine auR ?_ | exact auR0)
    all_goals (try simp only [hsM] at *)
    all_goals rfl
end Go.Proofs.YtbcamncabckbnaaGreatDoor
