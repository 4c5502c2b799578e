/-
  One more, one less: Set and Stop, in the program and in the reference.
-/
import Derived.Test.YtecnjhmpipfldaaWheelT
namespace Go.Proofs.Ytecnjhmpipfldaa
set_option linter.unusedVariables false
set_option linter.unusedSimpArgs false
set_option maxHeartbeats 1000000 in
theorem dudelete0 (l : List Du) (i j : Nat) (hij : i ≤ j) (hj : j ≤ l.length) (hl : l.length ≤ maxLen) (n : Nat) : HSpec Try.prog 24 [.sl 0 n 2 0 l.length false, .v (.int .i64 i), .v (.int .i64 j)] [some ⟨n, 2, l.map Du.enc⟩] (fun d H => d = .sl 0 n 2 0 (l.take i ++ l.drop j).length false ∧ H = [some ⟨n, 2, (l.take i ++ l.drop j).map Du.enc⟩]) := by
  have hones : ∀ r : List Du, allOnes (r.map Du.enc) = true := allOnes_map (fun x => rfl)
  have ej : xtake (xdrop (l.map Du.enc) j) ((l.length : Int) - j).toNat = (l.drop j).map Du.enc := by rw [xtake_eq, xdrop_eq, ← List.map_drop, ← List.map_take, List.take_of_length_le (by rw [List.length_drop]; omega)]
  have hlen : (xtake (l.map Du.enc) i ++ ((l.drop j).map Du.enc ++ xdrop (l.map Du.enc) (i + (l.length - j)))).length = l.length := by rw [xtake_eq, xdrop_eq]; simp; omega
  unfold maxLen at hl
  refine hspec_fn Try.func24 rfl ok_slices_Delete_api_Due okr_slices_Delete_api_Due rfl (by kernel_rfl) ?_
  intro Γ hW0 hN0 hL0
  clear hW0
  unfold x_slices_Delete_api_Due r_slices_Delete_api_Due
  refine auC ?_
  have hn : n < Γ.g0 := hN0 0 _ rfl
  repeat' (first
    | (refine auS ?_)
    | fail
    | (refine auD ?_)
    | (with_reducible refine runR_b (fun h => ?_) (fun h => ?_) <;> first | exact auH | simp only [h, runR_t, runR_f])
    | (with_reducible refine condK_bl ?_ ?_)
    | (with_reducible refine condK_b (fun h => ?_) (fun h => ?_) <;> first | exact auH | skip)
    | (first | (simp only [Int.toNat_natCast, Nat.zero_add, ej, List.length_map, List.length_drop]) | (refine runR_n ⟨by trivial, by trivial, by trivial, by omega, hones _⟩ ?_) | (refine runR_n ⟨by trivial, by trivial, by trivial, by omega, by omega, by omega, by (rw [hlen]; omega)⟩ ?_) | (refine runR_n ⟨by trivial, by trivial, by trivial, by (rw [hlen]; omega), by trivial⟩ ?_) | fail))
  · have hij2 : i = j := by (simp only [hsL, reduceCtorEq] at * <;> omega)
    subst hij2
    rw [List.take_append_drop]
    exact ret_h1 trivial hn rfl rfl hn (nfLL_map (fun x => by simp [nfL, nfD])) rfl
  · refine retq_le (le_leG (le_slr ⟨.d0, .d0, .d6⟩ rfl)) (retq_le (le_leG (le_trim 0 (i + (l.length - j)) rfl)) (ret_h1 trivial hn ?_ rfl hn (nfLL_map (fun x => by simp [nfL, nfD])) ?_))
    · have e : (l.take i ++ l.drop j).length = i + (l.length - j) := by simp; omega
      rw [e]
      rfl
    · refine (del_eq (by rw [xtake_eq]; simp; omega)).trans ?_
      rw [xtake_eq, List.map_append, List.map_take]
theorem dudelete_spec (k : Nat) (l : List Du) (i j : Nat) (hij : i ≤ j) (hj : j ≤ l.length) (hl : l.length ≤ maxLen) (n : Nat) : HSpec Try.prog 24 [.sl k n 2 0 l.length false, .v (.int .i64 i), .v (.int .i64 j)] [some ⟨n, 2, l.map Du.enc⟩] (fun d H => d = .sl k n 2 0 (l.take i ++ l.drop j).length false ∧ H = [some ⟨n, 2, (l.take i ++ l.drop j).map Du.enc⟩]) :=
  hspec_sl k (hspec_as (dudelete0 l i j hij hj hl n) (fun _ _ _ => sl_label))
set_option maxHeartbeats 1000000 in
theorem duindexl0 {g : FuncId} {caps : List DV} (p : Du → Bool) (l : List Du) (hl : l.length ≤ maxLen) (n : Nat) (hg : ∀ t ∈ l, Spec Try.prog g (.agg (Du.enc t) :: caps) (.v (.bool (p t)))) : HSpec Try.prog 33 [.sl 0 n 2 0 l.length false, .fn (.func g) [] caps] [some ⟨n, 2, l.map Du.enc⟩] (fun d H => d = .v (.int .i64 (firstI p l 0)) ∧ H = [some ⟨n, 2, l.map Du.enc⟩]) := by
  unfold maxLen at hl
  refine hspec_fn Try.func33 rfl ok_slices_IndexFunc_api_Due okr_slices_IndexFunc_api_Due rfl (by kernel_rfl) ?_
  intro Γ hW0 hN0 hL0
  clear hW0
  unfold x_slices_IndexFunc_api_Due r_slices_IndexFunc_api_Due
  refine auC ?_
  have hn : n < Γ.g0 := hN0 0 _ rfl
  repeat' (first
    | (refine auS ?_)
    | fail
    | (refine auD ?_)
    | (with_reducible refine runR_b (fun h => ?_) (fun h => ?_) <;> first | exact auH | simp only [h, runR_t, runR_f])
    | (with_reducible refine condK_bl ?_ ?_)
    | (with_reducible refine condK_b (fun h => ?_) (fun h => ?_) <;> first | exact auH | skip)
    | fail)
  refine go_loopH (α := Nat) (fun k => [(⟨.d0, .d1, .d0⟩, .v (.int .i64 (k : Nat)))]) (fun _ => []) (fun _ => Γ.g0) (fun k => l.length - k) (fun k => k ≤ l.length ∧ firstI p l 0 = firstI p (l.drop k) k) 0 ⟨Nat.zero_le _, rfl⟩ ?_ ?_
  · skip
    refine le_mk ?_ ?_ (Nat.le_refl _)
    all_goals first | refine auE ?_ | exact auE0
    all_goals (repeat' (first | exact trivial | exact rfl | apply And.intro))
  · rintro k ⟨hk, hp⟩
    refine auL ?_
    by_cases hlt : k < l.length
    · obtain ⟨t, ht⟩ : ∃ t, l[k]? = some t := ⟨_, List.getElem?_eq_getElem hlt⟩
      have ex := xget_map Du.enc l k t ht
      have hgt := hg t (List.mem_of_getElem? ht)
      rw [List.drop_eq_getElem_cons hlt, show l[k] = t from Option.some.inj ((List.getElem?_eq_getElem hlt).symm.trans ht)] at hp
      repeat' (first
        | (refine auS ?_)
        | (with_reducible refine runR_call hgt ?_)
        | (refine auD ?_)
        | (with_reducible refine runR_b (fun h => ?_) (fun h => ?_) <;> first | exact auH | simp only [h, runR_t, runR_f])
        | (with_reducible refine condK_bl ?_ ?_)
        | (with_reducible refine condK_b (fun h => ?_) (fun h => ?_) <;> first | exact auH | skip)
        | (first | simp only [Int.toNat_natCast, ex, Nat.zero_add] | (refine runR_n ⟨by simpa using hlt, by trivial⟩ ?_) | fail))
      (all_goals first | exact auP | skip)
      · refine ret_h1 trivial trivial ?_ rfl hn (nfLL_map (fun x => by simp [nfL, nfD])) rfl
        rw [hp]
        simp [firstI, *]
        rfl
      · refine nx_loop ?_
        refine ⟨k + 1, ⟨Nat.succ_le_of_lt hlt, by rw [hp]; simp [firstI, *]⟩, Nat.sub_lt_sub_left hlt (Nat.lt_succ_self k), ?_⟩
        refine le_mk ?_ ?_ (Nat.le_refl _)
        all_goals first | refine auE ?_ | exact auE0
        all_goals (repeat' (first | exact trivial | exact rfl | apply And.intro))
        exact dint ((IntWalk.i64_in _ (by omega)).trans (by omega))
    · skip
      repeat' (first
        | (refine auS ?_)
        | fail
        | (refine auD ?_)
        | (with_reducible refine runR_b (fun h => ?_) (fun h => ?_) <;> first | exact auH | simp only [h, runR_t, runR_f])
        | (with_reducible refine condK_bl ?_ ?_)
        | (with_reducible refine condK_b (fun h => ?_) (fun h => ?_) <;> first | exact auH | skip)
        | fail)
      (all_goals first | exact auP | skip)
      refine ret_h1 trivial trivial ?_ rfl hn (nfLL_map (fun x => by simp [nfL, nfD])) rfl
      obtain rfl : k = l.length := by omega
      rw [hp, List.drop_length]
      rfl
theorem duindexl_spec (k : Nat) {g : FuncId} {caps : List DV} (p : Du → Bool) (l : List Du) (hl : l.length ≤ maxLen) (n : Nat) (hg : ∀ t ∈ l, Spec Try.prog g (.agg (Du.enc t) :: caps) (.v (.bool (p t)))) : HSpec Try.prog 33 [.sl k n 2 0 l.length false, .fn (.func g) [] caps] [some ⟨n, 2, l.map Du.enc⟩] (fun d H => d = .v (.int .i64 (firstI p l 0)) ∧ H = [some ⟨n, 2, l.map Du.enc⟩]) :=
  hspec_sl k (duindexl0 p l hl n hg)
set_option maxHeartbeats 2000000 in
theorem dudeletef0 {g : FuncId} {caps : List DV} (p : Du → Bool) (l : List Du) (hl : l.length ≤ maxLen) (n : Nat) (hg : ∀ t ∈ l, Spec Try.prog g (.agg (Du.enc t) :: caps) (.v (.bool (p t)))) : HSpec Try.prog 25 [.sl 0 n 2 0 l.length false, .fn (.func g) [] caps] [some ⟨n, 2, l.map Du.enc⟩] (fun d H => d = .sl 0 n 2 0 (l.filter (fun t => !p t)).length false ∧ H = [some ⟨n, 2, (l.filter (fun t => !p t)).map Du.enc⟩]) := by
  have hidx := duindexl0 (g := g) (caps := caps) p l hl n hg
  unfold maxLen at hl
  rcases firstI_cases p l 0 with ⟨h1, h2⟩ | ⟨i0, t0, h1, h2, h3, h4⟩
  · rw [h1] at hidx
    refine hspec_fn Try.func25 rfl ok_slices_DeleteFunc_api_Due okr_slices_DeleteFunc_api_Due rfl (by kernel_rfl) ?_
    intro Γ hW0 hN0 hL0
    clear hW0
    unfold x_slices_DeleteFunc_api_Due r_slices_DeleteFunc_api_Due
    refine auC ?_
    have hn : n < Γ.g0 := hN0 0 _ rfl
    repeat' (first
      | (refine auS ?_)
      | ((with_reducible refine runR_callH 0 ?_ hidx (fun _ _ _ h => h) ?_); (exact rfl))
      | (refine auD ?_)
      | (with_reducible refine runR_b (fun h => ?_) (fun h => ?_) <;> first | exact auH | simp only [h, runR_t, runR_f])
      | (with_reducible refine condK_bl ?_ ?_)
      | (with_reducible refine condK_b (fun h => ?_) (fun h => ?_) <;> first | exact auH | skip)
      | fail)
    rw [filter_none h2]
    exact ret_h1 trivial hn rfl rfl hn (nfLL_map (fun x => by simp [nfL, nfD])) rfl
  · rw [h4, Nat.zero_add] at hidx
    have hi0 : i0 < l.length := (List.getElem?_eq_some_iff.1 h1).1
    have hf0 : (l.take (i0 + 1)).filter (fun t => !p t) = l.take i0 := by
      rw [List.take_add_one, h1, List.filter_append, filter_none h3]
      simp [h2]
    refine hspec_fn Try.func25 rfl ok_slices_DeleteFunc_api_Due okr_slices_DeleteFunc_api_Due rfl (by kernel_rfl) ?_
    intro Γ hW0 hN0 hL0
    clear hW0
    unfold x_slices_DeleteFunc_api_Due r_slices_DeleteFunc_api_Due
    refine auC ?_
    have hn : n < Γ.g0 := hN0 0 _ rfl
    repeat' (first
      | (refine auS ?_)
      | ((with_reducible refine runR_callH 0 ?_ hidx (fun _ _ _ h => h) ?_); (exact rfl))
      | (refine auD ?_)
      | (with_reducible refine runR_b (fun h => ?_) (fun h => ?_) <;> first | exact auH | simp only [h, runR_t, runR_f])
      | (with_reducible refine condK_bl ?_ ?_)
      | (with_reducible refine condK_b (fun h => ?_) (fun h => ?_) <;> first | exact auH | skip)
      | fail)
    refine go_loopH (α := Nat × Nat × List (List DV)) (fun a => [(⟨.d0, .d0, .d5⟩, .v (.int .i64 (((l.take a.1).filter (fun t => !p t)).length : Nat))), (⟨.d0, .d0, .d6⟩, .v (.int .i64 (a.1 : Nat)))]) (fun a => [(0, some ⟨n, 2, ((l.take a.1).filter (fun t => !p t)).map Du.enc ++ (a.2.2 ++ (l.drop a.1).map Du.enc)⟩), (1, none)]) (fun a => a.2.1) (fun a => l.length - a.1)
      (fun a => a.1 ≤ l.length ∧ ((l.take a.1).filter (fun t => !p t)).length + a.2.2.length = a.1 ∧ 0 < a.2.2.length ∧ ∀ x ∈ a.2.2, ∃ t : Du, x = Du.enc t) (i0 + 1, Γ.g0, [Du.enc t0]) ⟨hi0, by rw [hf0, List.length_take]; simp; omega, by simp, fun x hx => ⟨t0, by simpa using hx⟩⟩ ?_ ?_
    · skip
      refine le_mk ?_ ?_ (Nat.le_refl _)
      all_goals first | refine auE ?_ | exact auE0
      all_goals (repeat' (first | exact trivial | exact rfl | apply And.intro))
      all_goals first
        | exact dint (by rw [hf0, List.length_take]; omega)
        | exact dint ((IntWalk.i64_in _ (by omega)).trans (by omega))
        | (refine congrArg some (congrArg (AObj.mk n 2) ?_)
           have : t0 :: l.drop (i0 + 1) = l.drop i0 := by rw [List.drop_eq_getElem_cons hi0, show l[i0] = t0 from Option.some.inj ((List.getElem?_eq_getElem hi0).symm.trans h1)]
           rw [hf0, show [Du.enc t0] ++ (l.drop (i0 + 1)).map Du.enc = (t0 :: l.drop (i0 + 1)).map Du.enc from rfl, this, ← List.map_append, List.take_append_drop])
    · rintro ⟨j, gn, G⟩ ⟨hj, hlen, hG0, hG⟩
      dsimp only at hj hlen hG0 hG ⊢
      refine auL ?_
      by_cases hlt : j < l.length
      · obtain ⟨t, ht⟩ : ∃ t, l[j]? = some t := ⟨_, List.getElem?_eq_getElem hlt⟩
        have hgt := hg t (List.mem_of_getElem? ht)
        have ex := xget_app (f := Du.enc) (((l.take j).filter (fun t => !p t)).map Du.enc) G ht (by simpa using hlen)
        have hdrop : (l.drop j).map Du.enc = Du.enc t :: (l.drop (j + 1)).map Du.enc := by rw [List.drop_eq_getElem_cons hlt, show l[j] = t from Option.some.inj ((List.getElem?_eq_getElem hlt).symm.trans ht)]; rfl
        have htake : l.take (j + 1) = l.take j ++ [t] := by rw [List.take_add_one, ht]; rfl
        have hobl : (((l.take j).filter (fun t => !p t)).map Du.enc ++ (G ++ (l.drop j).map Du.enc)).length = l.length := by simp; omega
        repeat' (first
          | (refine auS ?_)
          | (with_reducible refine runR_call hgt ?_)
          | (refine auD ?_)
          | (with_reducible refine runR_b (fun h => ?_) (fun h => ?_) <;> first | exact auH | simp only [h, runR_t, runR_f])
          | (with_reducible refine condK_bl ?_ ?_)
          | (with_reducible refine condK_b (fun h => ?_) (fun h => ?_) <;> first | exact auH | skip)
          | (first | simp only [Int.toNat_natCast, ex, Nat.zero_add] | (refine runR_n ⟨by (rw [hobl]; omega), by trivial⟩ ?_) | fail))
        (all_goals first | exact auP | skip)
        · obtain ⟨x, G', rfl⟩ : ∃ x G', G = x :: G' := by
            cases G with
            | nil => simp at hG0
            | cons x G' => exact ⟨x, G', rfl⟩
          obtain ⟨t', rfl⟩ := hG x (by simp)
          have hpt : p t = false := by simpa using h
          have hft : (l.take (j + 1)).filter (fun t => !p t) = (l.take j).filter (fun t => !p t) ++ [t] := by rw [htake, List.filter_append]; simp [hpt]
          have hxx := xset_app (Du.enc t') (Du.enc t) G' ((l.drop j).map Du.enc) (((l.take j).filter (fun t => !p t)).map Du.enc)
          rw [List.length_map] at hxx
          have hxg : xget (((l.take j).filter (fun t => !p t)).map Du.enc ++ (Du.enc t' :: G' ++ (l.drop j).map Du.enc)) ((l.take j).filter (fun t => !p t)).length = Du.enc t' := by
            rw [xget_get, List.getElem?_append_right (by simp)]
            simp
          refine nx_loop ⟨(j + 1, gn + 1, G' ++ [Du.enc t]), ⟨hlt, by rw [hft]; simp only [List.length_append, List.length_cons, List.length_nil] at hlen ⊢; omega, by simp, fun y hy => ?_⟩, Nat.sub_lt_sub_left hlt (Nat.lt_succ_self j), ?_⟩
          · rcases List.mem_append.1 hy with hy | hy
            · exact hG y (List.mem_cons_of_mem _ hy)
            · exact ⟨t, by simpa using hy⟩
          refine le_mk ?_ ?_ (Nat.le_refl _)
          all_goals first | refine auE ?_ | exact auE0
          all_goals (repeat' (first | exact trivial | exact rfl | apply And.intro))
          all_goals first
            | exact dint ((IntWalk.i64_in _ (by omega)).trans (by rw [hft]; simp))
            | exact dint ((IntWalk.i64_in _ (by omega)).trans (by omega))
            | (refine congrArg some (congrArg (AObj.mk n 2) ?_)
               rw [hxg]
               refine hxx.trans ?_
               rw [hdrop, hft]
               simp)
        · have hpt : p t = true := by simpa using h
          have hft : (l.take (j + 1)).filter (fun t => !p t) = (l.take j).filter (fun t => !p t) := by rw [htake, List.filter_append]; simp [hpt]
          refine nx_loop ⟨(j + 1, gn + 1, G ++ [Du.enc t]), ⟨hlt, by rw [hft]; simp only [List.length_append, List.length_cons, List.length_nil] at hlen ⊢; omega, by simp, fun y hy => ?_⟩, Nat.sub_lt_sub_left hlt (Nat.lt_succ_self j), ?_⟩
          · rcases List.mem_append.1 hy with hy | hy
            · exact hG y hy
            · exact ⟨t, by simpa using hy⟩
          refine le_mk ?_ ?_ (Nat.le_refl _)
          all_goals first | refine auE ?_ | exact auE0
          all_goals (repeat' (first | exact trivial | exact rfl | apply And.intro))
          all_goals first
            | exact dint (by rw [hft])
            | exact dint ((IntWalk.i64_in _ (by omega)).trans (by omega))
            | (refine congrArg some (congrArg (AObj.mk n 2) ?_)
               rw [hdrop, hft]
               simp)
      · obtain rfl : j = l.length := by omega
        rw [List.take_length] at hlen
        simp only [List.take_length, List.drop_length, List.map_nil, List.append_nil]
        have hobl : ((l.filter (fun t => !p t)).map Du.enc ++ G).length = l.length := by simp; omega
        repeat' (first
          | (refine auS ?_)
          | fail
          | (refine auD ?_)
          | (with_reducible refine runR_b (fun h => ?_) (fun h => ?_) <;> first | exact auH | simp only [h, runR_t, runR_f])
          | (with_reducible refine condK_bl ?_ ?_)
          | (with_reducible refine condK_b (fun h => ?_) (fun h => ?_) <;> first | exact auH | skip)
          | (first | (refine runR_n ⟨by trivial, by trivial, by trivial, by (simp only [Int.toNat_natCast, Nat.zero_add]; rw [hobl]; omega), by trivial⟩ ?_) | fail))
        (all_goals first | exact auP | skip)
        refine retq_le (le_leG (le_trim 0 (l.filter (fun t => !p t)).length rfl)) (ret_h1 trivial hn ?_ rfl hn (nfLL_map (fun x => by simp [nfL, nfD])) ?_)
        · exact congrArg (fun q => DV.sl 0 n 2 0 q false) (by omega)
        · dsimp only
          rw [xtake_eq, xtake_eq, Int.toNat_natCast, Nat.zero_add, List.take_left' (by simp), List.take_left' (by simp)]
theorem dudeletef_spec (k : Nat) {g : FuncId} {caps : List DV} (p : Du → Bool) (l : List Du) (hl : l.length ≤ maxLen) (n : Nat) (hg : ∀ t ∈ l, Spec Try.prog g (.agg (Du.enc t) :: caps) (.v (.bool (p t)))) : HSpec Try.prog 25 [.sl k n 2 0 l.length false, .fn (.func g) [] caps] [some ⟨n, 2, l.map Du.enc⟩] (fun d H => d = .sl k n 2 0 (l.filter (fun t => !p t)).length false ∧ H = [some ⟨n, 2, (l.filter (fun t => !p t)).map Du.enc⟩]) :=
  hspec_sl k (hspec_as (dudeletef0 p l hl n hg) (fun _ _ _ => sl_label))
/-- A wheel and an error; no wheel. -/
def noW : WL := List.replicate 96 []
def dW (now : Int) (L : WL) (e : Int) : DV := .tup [.agg (wcs now L), .v (.int .i64 e)]
abbrev badD (e : Int) : DV := .tup [.agg (.v (.int .i64 0) :: List.replicate 96 nilD), .v (.int .i64 e)]
theorem nilL_rep : ∀ n : Nat, nilL (List.replicate n nilD) ((List.replicate n ([] : List Du)).map snapD)
  | 0 => by simp only [List.replicate_zero, List.map_nil, nilL]
  | n + 1 => by
    simp only [List.replicate_succ, List.map_cons, nilL]
    refine ⟨?_, nilL_rep n⟩
    simp [nilP, snapD]
theorem bad_dW {f : FuncId} {ds : List DV} {e : Int} (h : Spec Try.prog f ds (badD e)) : Spec Try.prog f ds (dW 0 noW e) := spec_nil h (by
  unfold dW noW wcs
  simp only [nilP, nilL, true_or, and_true, or_true]
  simp [nilP, nilL, nilL_rep])
theorem rep_nf (g n : Nat) : nfL g (List.replicate n nilD) := nfL_iff.2 fun d hd => by
  rw [(List.mem_replicate.1 hd).2]
  trivial
/-! Errors. -/
set_option maxHeartbeats 2000000 in
theorem set_bad1 (now id t : Int) (L : WL) (h96 : L.length = 96) (hz : ∀ l ∈ L, l.length ≤ 1407374) (h : wchk now L ≠ 0) : Spec Try.prog 5 [.agg (wcs now L), .v (.int .i64 id), .v (.int .i64 t)] (dW 0 noW (wchk now L)) := by
  have hchk := wcheck_spec now L h96 hz
  obtain ⟨hA, hB, hL, hT, hG⟩ := snaps h96
  rw [ddrop0] at hT
  have hrep : (List.replicate 96 nilD).length = 96 := by simp
  have hra := rep_ones 96
  have hrb := lenB_of hrep
  have hzz := splice_len _ _ (Eq.refl (List.replicate 96 nilD).length)
  have hdz := dtake_of hrep
  refine bad_dW ?_
  generalize wchk now L = e at *
  have he : (!decide (e = 0)) = true := by simp [h]
  unfold wcs at *
  generalize L.map snapD = X at *
  refine hspec_fn Try.func5 rfl ok_wheel_Set okr_wheel_Set rfl (by kernel_rfl) ?_
  intro Γ hW0 hN0 hL0
  have hW := hW0 rfl
  clear hW0 hN0 hL0
  unfold x_wheel_Set r_wheel_Set
  refine auC ?_
  repeat' (first
    | fail
    | (refine auS ?_)
    | (first | (simp only [hT, ddrop0, zv_eq, zv_len, hzz, splice_nil, he]) | (with_reducible refine runR_call hchk ?_))
    | (refine auD ?_)
    | (with_reducible refine runR_b (fun h => ?_) (fun h => ?_) <;> first | exact auH | simp only [h, runR_t, runR_f])
    | (with_reducible refine condK_bl ?_ ?_)
    | (with_reducible refine condK_b (fun h => ?_) (fun h => ?_) <;> first | exact auH | skip)
    | (first | (refine runR_n ⟨by simp only [hA, hB, allOne, lenB, oneD, oneV, andB], by decide⟩ ?_) | (refine runR_n ⟨by decide, by decide, by simp only [hra, hrb, allOne, lenB, oneD, oneV, andB]⟩ ?_) | fail))
  (all_goals first | exact auP | skip)
  have hnf : nfL Γ.g0 (dtake (List.replicate 96 nilD) 96) := by rw [hdz]; exact rep_nf _ _
  all_goals with_reducible refine ret_spec2 (by (try first | refine auR ?_ | exact auR0); (repeat' (first | exact trivial | exact rfl | exact hnf | decide | apply And.intro))) ?_
  all_goals (try first | refine auR ?_ | exact auR0)
  rw [hdz]
set_option maxHeartbeats 2000000 in
theorem stop_bad1 (now id : Int) (L : WL) (h96 : L.length = 96) (hz : ∀ l ∈ L, l.length ≤ 1407374) (h : wchk now L ≠ 0) : Spec Try.prog 7 [.agg (wcs now L), .v (.int .i64 id)] (dW 0 noW (wchk now L)) := by
  have hchk := wcheck_spec now L h96 hz
  obtain ⟨hA, hB, hL, hT, hG⟩ := snaps h96
  rw [ddrop0] at hT
  have hrep : (List.replicate 96 nilD).length = 96 := by simp
  have hra := rep_ones 96
  have hrb := lenB_of hrep
  have hzz := splice_len _ _ (Eq.refl (List.replicate 96 nilD).length)
  have hdz := dtake_of hrep
  refine bad_dW ?_
  generalize wchk now L = e at *
  have he : (!decide (e = 0)) = true := by simp [h]
  unfold wcs at *
  generalize L.map snapD = X at *
  refine hspec_fn Try.func7 rfl ok_wheel_Stop okr_wheel_Stop rfl (by kernel_rfl) ?_
  intro Γ hW0 hN0 hL0
  have hW := hW0 rfl
  clear hW0 hN0 hL0
  unfold x_wheel_Stop r_wheel_Stop
  refine auC ?_
  repeat' (first
    | fail
    | (refine auS ?_)
    | (first | (simp only [hT, ddrop0, zv_eq, zv_len, hzz, splice_nil, he]) | (with_reducible refine runR_call hchk ?_))
    | (refine auD ?_)
    | (with_reducible refine runR_b (fun h => ?_) (fun h => ?_) <;> first | exact auH | simp only [h, runR_t, runR_f])
    | (with_reducible refine condK_bl ?_ ?_)
    | (with_reducible refine condK_b (fun h => ?_) (fun h => ?_) <;> first | exact auH | skip)
    | (first | (refine runR_n ⟨by simp only [hA, hB, allOne, lenB, oneD, oneV, andB], by decide⟩ ?_) | (refine runR_n ⟨by decide, by decide, by simp only [hra, hrb, allOne, lenB, oneD, oneV, andB]⟩ ?_) | fail))
  (all_goals first | exact auP | skip)
  have hnf : nfL Γ.g0 (dtake (List.replicate 96 nilD) 96) := by rw [hdz]; exact rep_nf _ _
  all_goals with_reducible refine ret_spec2 (by (try first | refine auR ?_ | exact auR0); (repeat' (first | exact trivial | exact rfl | exact hnf | decide | apply And.intro))) ?_
  all_goals (try first | refine auR ?_ | exact auR0)
  rw [hdz]
set_option maxHeartbeats 2000000 in
theorem rset_bad1 (now id t : Int) (L : WL) (h96 : L.length = 96) (hz : ∀ l ∈ L, l.length ≤ 1407374) (h : wchk now L ≠ 0) : Spec Try.prog 6 [.agg (wcs now L), .v (.int .i64 id), .v (.int .i64 t)] (dW 0 noW (wchk now L)) := by
  have hchk := wright_spec now L h96 hz
  have hall := allDue_spec 10 now L h96 hz
  obtain ⟨hA, hB, hL, hT, hG⟩ := snaps h96
  rw [ddrop0] at hT
  have hrep : (List.replicate 96 nilD).length = 96 := by simp
  have hra := rep_ones 96
  have hrb := lenB_of hrep
  have hzz := splice_len _ _ (Eq.refl (List.replicate 96 nilD).length)
  have hdz := dtake_of hrep
  refine bad_dW ?_
  generalize wchk now L = e at *
  have he : (!decide (e = 0)) = true := by simp [h]
  unfold wcs at *
  generalize L.map snapD = X at *
  refine hspec_fn Try.func6 rfl ok_custref_WheelSet okr_custref_WheelSet rfl (by kernel_rfl) ?_
  intro Γ hW0 hN0 hL0
  have hW := hW0 rfl
  clear hW0 hN0 hL0
  unfold x_custref_WheelSet r_custref_WheelSet
  refine auC ?_
  repeat' (first
    | fail
    | (refine auS ?_)
    | (first | (simp only [hT, ddrop0, zv_eq, zv_len, hzz, splice_nil, he]) | (with_reducible refine runR_call hchk ?_) | (with_reducible refine runR_callO 10 hall ?_))
    | (refine auD ?_)
    | (with_reducible refine runR_b (fun h => ?_) (fun h => ?_) <;> first | exact auH | simp only [h, runR_t, runR_f])
    | (with_reducible refine condK_bl ?_ ?_)
    | (with_reducible refine condK_b (fun h => ?_) (fun h => ?_) <;> first | exact auH | skip)
    | (first | (refine runR_n ⟨by simp only [hA, hB, allOne, lenB, oneD, oneV, andB], by decide⟩ ?_) | (refine runR_n ⟨by decide, by decide, by simp only [hra, hrb, allOne, lenB, oneD, oneV, andB]⟩ ?_) | fail))
  (all_goals first | exact auP | skip)
  have hnf : nfL Γ.g0 (dtake (List.replicate 96 nilD) 96) := by rw [hdz]; exact rep_nf _ _
  all_goals with_reducible refine ret_spec2 (by (try first | refine auR ?_ | exact auR0); (repeat' (first | exact trivial | exact rfl | exact hnf | decide | apply And.intro))) ?_
  all_goals (try first | refine auR ?_ | exact auR0)
  rw [hdz]
set_option maxHeartbeats 2000000 in
theorem rstop_bad1 (now id : Int) (L : WL) (h96 : L.length = 96) (hz : ∀ l ∈ L, l.length ≤ 1407374) (h : wchk now L ≠ 0) : Spec Try.prog 8 [.agg (wcs now L), .v (.int .i64 id)] (dW 0 noW (wchk now L)) := by
  have hchk := wright_spec now L h96 hz
  obtain ⟨hA, hB, hL, hT, hG⟩ := snaps h96
  rw [ddrop0] at hT
  have hrep : (List.replicate 96 nilD).length = 96 := by simp
  have hra := rep_ones 96
  have hrb := lenB_of hrep
  have hzz := splice_len _ _ (Eq.refl (List.replicate 96 nilD).length)
  have hdz := dtake_of hrep
  refine bad_dW ?_
  generalize wchk now L = e at *
  have he : (!decide (e = 0)) = true := by simp [h]
  unfold wcs at *
  generalize L.map snapD = X at *
  refine hspec_fn Try.func8 rfl ok_custref_WheelStop okr_custref_WheelStop rfl (by kernel_rfl) ?_
  intro Γ hW0 hN0 hL0
  have hW := hW0 rfl
  clear hW0 hN0 hL0
  unfold x_custref_WheelStop r_custref_WheelStop
  refine auC ?_
  repeat' (first
    | fail
    | (refine auS ?_)
    | (first | (simp only [hT, ddrop0, zv_eq, zv_len, hzz, splice_nil, he]) | (with_reducible refine runR_call hchk ?_))
    | (refine auD ?_)
    | (with_reducible refine runR_b (fun h => ?_) (fun h => ?_) <;> first | exact auH | simp only [h, runR_t, runR_f])
    | (with_reducible refine condK_bl ?_ ?_)
    | (with_reducible refine condK_b (fun h => ?_) (fun h => ?_) <;> first | exact auH | skip)
    | (first | (refine runR_n ⟨by simp only [hA, hB, allOne, lenB, oneD, oneV, andB], by decide⟩ ?_) | (refine runR_n ⟨by decide, by decide, by simp only [hra, hrb, allOne, lenB, oneD, oneV, andB]⟩ ?_) | fail))
  (all_goals first | exact auP | skip)
  have hnf : nfL Γ.g0 (dtake (List.replicate 96 nilD) 96) := by rw [hdz]; exact rep_nf _ _
  all_goals with_reducible refine ret_spec2 (by (try first | refine auR ?_ | exact auR0); (repeat' (first | exact trivial | exact rfl | exact hnf | decide | apply And.intro))) ?_
  all_goals (try first | refine auR ?_ | exact auR0)
  rw [hdz]
end Go.Proofs.Ytecnjhmpipfldaa
