/-
  A stable sort: merges by their sizes; the whole sort.
-/
import Derived.Test.YtecnjhmpipfldaaSortZ
namespace Go.Proofs.Ytecnjhmpipfldaa
set_option linter.unusedVariables false
set_option linter.unusedSimpArgs false
theorem symMerge_spec (n N : Nat) (hN : N ≤ 1099511627776) : ∀ (k : Nat) (X A B Y : List Du), A.length + B.length ≤ k → 0 < A.length → 0 < B.length → (∀ d ∈ A, InR d) → (∀ d ∈ B, InR d) → SortedD A → SortedD B → N = X.length + A.length + B.length + Y.length → SymS n X A B Y N
  | 0, X, A, B, Y, hk, hA0, hB0, hA, hB, hsA, hsB, hNe => by omega
  | k + 1, X, A, B, Y, hk, hA0, hB0, hA, hB, hsA, hsB, hNe => by
    by_cases h1 : A.length = 1
    · obtain ⟨x, rfl⟩ := List.length_eq_one_iff.1 h1
      exact symMerge1 n X x B Y (hA x (by simp)) hB hsB N hNe hN
    · by_cases h2 : B.length = 1
      · obtain ⟨x, rfl⟩ := List.length_eq_one_iff.1 h2
        have := symMerge2 n X A x Y (by omega) (hB x (by simp)) hA hsA N hNe hN
        rw [List.append_assoc] at this
        exact this
      · exact symMerge3 n X A B Y (by omega) (by omega) hA hB hsA hsB N hNe hN (fun X' A' B' Y' hl hA' hB' iA iB sA sB he => symMerge_spec n N hN k X' A' B' Y' (by omega) hA' hB' iA iB sA sB he)
/-- A row whose blocks are sorted each for itself. -/
def Full (bs : Nat) (S : List Du) : List Du := if h : bs = 0 ∨ S.length ≤ bs then ssort S else ssort (S.take bs) ++ Full bs (S.drop bs)
termination_by S.length
decreasing_by rw [List.length_drop]; omega
theorem full_last {bs : Nat} {S : List Du} (h : S.length ≤ bs) : Full bs S = ssort S := by rw [Full, dif_pos (.inr h)]
theorem full_more {bs : Nat} {S : List Du} (h0 : 0 < bs) (h : bs ≤ S.length) : Full bs S = ssort (S.take bs) ++ Full bs (S.drop bs) := by
  by_cases q : S.length = bs
  · rw [full_last (Nat.le_of_eq q), List.take_of_length_le (Nat.le_of_eq q), List.drop_of_length_le (Nat.le_of_eq q), full_last (Nat.zero_le _)]
    exact (List.append_nil _).symm
  · rw [Full, dif_neg (by omega)]
theorem full_len (bs : Nat) (h0 : 0 < bs) : ∀ (k : Nat) (S : List Du), S.length ≤ k → (Full bs S).length = S.length
  | 0, S, hk => by rw [full_last (by omega), ssort_len]
  | k + 1, S, hk => by
    by_cases h : S.length ≤ bs
    · rw [full_last h, ssort_len]
    · rw [full_more h0 (by omega), List.length_append, ssort_len, full_len bs h0 k _ (by rw [List.length_drop]; omega), List.length_take, List.length_drop]
      omega
theorem ssort_r (l : List Du) : SortedD (ssort l) := (ssort_ok l).1
theorem ssort_in {l : List Du} (h : ∀ d ∈ l, InR d) : ∀ d ∈ ssort l, InR d := fun d hd => h d (ssort_mem hd)
set_option maxHeartbeats 4000000 in
theorem stable_spec (n : Nat) (S : List Du) (hS : ∀ d ∈ S, InR d) (N : Nat) (hNe : N = S.length) (hN : N ≤ 1099511627776) :
    HSpec Try.prog 37 [.sl 0 n 2 0 N false, .v (.int .i64 (N : Nat)), cmpF] [some (rowO n S)] (fun d H => d = .tup [] ∧ H = [some (rowO n (ssort S))]) := by
  refine hspec_fn Try.func37 rfl ok_slices_stableCmpFunc_api_Due okr_slices_stableCmpFunc_api_Due rfl (by kernel_rfl) ?_
  intro Γ hW0 hN0 hL0
  clear hW0
  unfold x_slices_stableCmpFunc_api_Due r_slices_stableCmpFunc_api_Due
  refine auC ?_
  have hn : n < Γ.g0 := hN0 0 _ rfl
  repeat' (first
    | (refine auS ?_)
    | fail
    | (refine auD ?_)
    | (with_reducible refine runR_b (fun h => ?_) (fun h => ?_) <;> first | exact auH | simp only [h, runR_t, runR_f])
    | (with_reducible refine condK_bl ?_ ?_)
    | (with_reducible refine condK_b (fun h => ?_) (fun h => ?_) <;> first | exact auH | skip)
    | fail)
  refine go_loopH (α := List Du × List Du) (fun q => [(⟨.d0, .d0, .d7⟩, .v (.int .i64 (q.1.length : Nat))), (⟨.d0, .d1, .d0⟩, .v (.int .i64 ((q.1.length + 20 : Nat) : Int)))]) (fun q => [(0, some (rowO n (q.1 ++ q.2)))]) (fun _ => Γ.g0) (fun q => q.2.length) (fun q => q.1.length + q.2.length = N ∧ Full 20 S = q.1 ++ Full 20 q.2 ∧ ∀ d ∈ q.2, InR d) ([], S) ⟨by simp only [List.length_nil]; omega, rfl, hS⟩ ?_ ?_
  · skip
    refine le_mk ?_ ?_ (Nat.le_refl _)
    all_goals first | refine auE ?_ | exact auE0
    all_goals (repeat' (first | exact trivial | exact rfl | apply And.intro))
  rintro ⟨P, T⟩ ⟨hl, hf, hT⟩
  dsimp only at hl hf hT ⊢
  refine auL ?_
  by_cases h20 : 20 ≤ T.length
  · have c1 : decide (((P.length + 20 : Nat) : Int) ≤ ((N : Nat) : Int)) = true := decide_eq_true (by omega)
    have ht : (T.take 20).length = 20 := by rw [List.length_take]; omega
    have hd : (T.drop 20).length = T.length - 20 := List.length_drop
    have hin := insort_spec 0 n P (T.take 20) (T.drop 20) (fun d hd => hT d (List.mem_of_mem_take hd)) N (by omega) hN
    rw [ht, List.take_append_drop] at hin
    have w1 : IntKind.i64.wrap (((P.length + 20 : Nat) : Int) + 20) = ((P.length + 20 + 20 : Nat) : Int) := by rw [IntWalk.i64_in _ (by omega)]; omega
    have hps : (P ++ ssort (T.take 20)).length = P.length + 20 := by rw [List.length_append, ssort_len, ht]
    repeat' (first
      | (refine auS ?_)
      | (first | (simp only [c1, w1]) | ((with_reducible refine runR_callH 0 ?_ hin (fun _ _ _ h => h) ?_); (exact rfl)))
      | (refine auD ?_)
      | (with_reducible refine runR_b (fun h => ?_) (fun h => ?_) <;> first | exact auH | simp only [h, runR_t, runR_f])
      | (with_reducible refine condK_bl ?_ ?_)
      | (with_reducible refine condK_b (fun h => ?_) (fun h => ?_) <;> first | exact auH | skip)
      | fail)
    (all_goals first | exact auP | skip)
    refine nx_loop ⟨(P ++ ssort (T.take 20), T.drop 20), ⟨by dsimp only; omega, ?_, fun d hd => hT d (List.mem_of_mem_drop hd)⟩, by dsimp only; omega, ?_⟩
    · dsimp only
      rw [hf, full_more (by omega) h20, List.append_assoc]
    refine le_mk ?_ ?_ (Nat.le_refl _)
    all_goals first | refine auE ?_ | exact auE0
    all_goals (repeat' (first | exact trivial | exact rfl | apply And.intro))
    · rw [hps]
    · rw [hps]
    · rw [List.append_assoc]
  have c1 : decide (((P.length + 20 : Nat) : Int) ≤ ((N : Nat) : Int)) = false := decide_eq_false (by omega)
  have hin := insort_spec 0 n P T [] hT N (by simp only [List.length_nil]; omega) hN
  rw [hl, List.append_nil] at hin
  rw [full_last (show T.length ≤ 20 by omega)] at hf
  rw [List.append_nil, ← hf] at hin
  clear hf
  repeat' (first
    | (refine auS ?_)
    | (first | (simp only [c1]) | ((with_reducible refine runR_callH 0 ?_ hin (fun _ _ _ h => h) ?_); (exact rfl)))
    | (refine auD ?_)
    | (with_reducible refine runR_b (fun h => ?_) (fun h => ?_) <;> first | exact auH | simp only [h, runR_t, runR_f])
    | (with_reducible refine condK_bl ?_ ?_)
    | (with_reducible refine condK_b (fun h => ?_) (fun h => ?_) <;> first | exact auH | skip)
    | fail)
  refine go_loopH (α := Nat) (fun bs => [(⟨.d0, .d0, .d6⟩, .v (.int .i64 (bs : Nat)))]) (fun bs => [(0, some (rowO n (Full bs S)))]) (fun _ => Γ.g0) (fun bs => N - bs) (fun bs => 0 < bs ∧ bs ≤ 2199023255552) 20 ⟨by omega, by omega⟩ ?_ ?_
  · skip
    refine le_mk ?_ ?_ (Nat.le_refl _)
    all_goals first | refine auE ?_ | exact auE0
    all_goals (repeat' (first | exact trivial | exact rfl | apply And.intro))
  clear c1 hin h20 hl hT
  rintro bs ⟨h0, hbs⟩
  dsimp only at h0 hbs ⊢
  refine auL ?_
  by_cases hlt : bs < N
  · have c1 : decide (((bs : Nat) : Int) < ((N : Nat) : Int)) = true := decide_eq_true (by omega)
    have w1 : IntKind.i64.wrap (2 * ((bs : Nat) : Int)) = ((2 * bs : Nat) : Int) := by rw [IntWalk.i64_in _ (by omega)]; omega
    have w2 : IntKind.i64.wrap (((bs : Nat) : Int) * 2) = ((2 * bs : Nat) : Int) := by rw [IntWalk.i64_in _ (by omega)]; omega
    repeat' (first
      | (refine auS ?_)
      | (simp only [c1, w1, w2])
      | (refine auD ?_)
      | (with_reducible refine runR_b (fun h => ?_) (fun h => ?_) <;> first | exact auH | simp only [h, runR_t, runR_f])
      | (with_reducible refine condK_bl ?_ ?_)
      | (with_reducible refine condK_b (fun h => ?_) (fun h => ?_) <;> first | exact auH | skip)
      | fail)
    refine go_loopH (α := List Du × List Du) (fun q => [(⟨.d0, .d0, .d7⟩, .v (.int .i64 (q.1.length : Nat))), (⟨.d0, .d1, .d0⟩, .v (.int .i64 ((q.1.length + 2 * bs : Nat) : Int)))]) (fun q => [(0, some (rowO n (q.1 ++ Full bs q.2)))]) (fun _ => Γ.g0) (fun q => q.2.length) (fun q => q.1.length + q.2.length = N ∧ Full (2 * bs) S = q.1 ++ Full (2 * bs) q.2 ∧ ∀ d ∈ q.2, InR d) ([], S) ⟨by simp only [List.length_nil]; omega, rfl, hS⟩ ?_ ?_
    · skip
      refine le_mk ?_ ?_ (Nat.le_refl _)
      all_goals first | refine auE ?_ | exact auE0
      all_goals (repeat' (first | exact trivial | exact rfl | apply And.intro))
      all_goals simp
    rintro ⟨P, T⟩ ⟨hl, hf, hT⟩
    dsimp only at hl hf hT ⊢
    refine auL ?_
    have w3 : IntKind.i64.wrap (((P.length : Nat) : Int) + (bs : Nat)) = ((P.length + bs : Nat) : Int) := by rw [IntWalk.i64_in _ (by omega)]; omega
    by_cases h2 : 2 * bs ≤ T.length
    · have c2 : decide (((P.length + 2 * bs : Nat) : Int) ≤ ((N : Nat) : Int)) = true := decide_eq_true (by omega)
      have w4 : IntKind.i64.wrap (((P.length + 2 * bs : Nat) : Int) + ((2 * bs : Nat) : Int)) = ((P.length + 2 * bs + 2 * bs : Nat) : Int) := by rw [IntWalk.i64_in _ (by omega)]; omega
      have e1 : Full bs T = ssort (T.take bs) ++ (ssort ((T.drop bs).take bs) ++ Full bs ((T.drop bs).drop bs)) := by rw [full_more h0 (by omega), full_more (S := T.drop bs) h0 (by rw [List.length_drop]; omega)]
      have e2 : T.take bs ++ (T.drop bs).take bs = T.take (2 * bs) := by rw [Nat.two_mul, List.take_add]
      have e3 : (T.drop bs).drop bs = T.drop (2 * bs) := by rw [List.drop_drop, Nat.two_mul]
      have l1 : (T.take bs).length = bs := by rw [List.length_take]; omega
      have l2 : ((T.drop bs).take bs).length = bs := by rw [List.length_take, List.length_drop]; omega
      have l3 : (T.drop (2 * bs)).length = T.length - 2 * bs := List.length_drop
      have lf := full_len bs h0 _ (T.drop (2 * bs)) (Nat.le_refl _)
      have hm := symMerge_spec n N hN _ P (ssort (T.take bs)) (ssort ((T.drop bs).take bs)) (Full bs (T.drop (2 * bs))) (Nat.le_refl _) (by rw [ssort_len]; omega) (by rw [ssort_len]; omega) (ssort_in fun d hd => hT d (List.mem_of_mem_take hd)) (ssort_in fun d hd => hT d (List.mem_of_mem_drop (List.mem_of_mem_take hd))) (ssort_r _) (ssort_r _) (by rw [ssort_len, ssort_len]; omega)
      unfold SymS at hm
      rw [ssort_app, e2, ssort_len, ssort_len, l1, l2, show P.length + bs + bs = P.length + 2 * bs by omega] at hm
      have hps : (P ++ ssort (T.take (2 * bs))).length = P.length + 2 * bs := by rw [List.length_append, ssort_len, List.length_take]; omega
      rw [e1, e3]
      clear e1 e2 e3 l1 l2
      repeat' (first
        | (refine auS ?_)
        | (first | (simp only [c2, w3, w4]) | ((with_reducible refine runR_callH 0 ?_ hm (fun _ _ _ h => h) ?_); (exact rfl)))
        | (refine auD ?_)
        | (with_reducible refine runR_b (fun h => ?_) (fun h => ?_) <;> first | exact auH | simp only [h, runR_t, runR_f])
        | (with_reducible refine condK_bl ?_ ?_)
        | (with_reducible refine condK_b (fun h => ?_) (fun h => ?_) <;> first | exact auH | skip)
        | fail)
      (all_goals first | exact auP | skip)
      refine nx_loop ⟨(P ++ ssort (T.take (2 * bs)), T.drop (2 * bs)), ⟨by dsimp only; omega, ?_, fun d hd => hT d (List.mem_of_mem_drop hd)⟩, by dsimp only; omega, ?_⟩
      · dsimp only
        rw [hf, full_more (by omega) h2, List.append_assoc]
      refine le_mk ?_ ?_ (Nat.le_refl _)
      all_goals first | refine auE ?_ | exact auE0
      all_goals (repeat' (first | exact trivial | exact rfl | apply And.intro))
      · rw [hps]
      · rw [hps, w1, w4]
      · rw [List.append_assoc]
    · have c2 : decide (((P.length + 2 * bs : Nat) : Int) ≤ ((N : Nat) : Int)) = false := decide_eq_false (by omega)
      rw [full_last (show T.length ≤ 2 * bs by omega)] at hf
      by_cases hm2 : bs < T.length
      · have c3 : decide (((P.length + bs : Nat) : Int) < ((N : Nat) : Int)) = true := decide_eq_true (by omega)
        have l1 : (T.take bs).length = bs := by rw [List.length_take]; omega
        have l2 : (T.drop bs).length = T.length - bs := List.length_drop
        have e1 : Full bs T = ssort (T.take bs) ++ ssort (T.drop bs) := by rw [full_more h0 (by omega), full_last (S := T.drop bs) (by omega)]
        have hm := symMerge_spec n N hN _ P (ssort (T.take bs)) (ssort (T.drop bs)) [] (Nat.le_refl _) (by rw [ssort_len]; omega) (by rw [ssort_len]; omega) (ssort_in fun d hd => hT d (List.mem_of_mem_take hd)) (ssort_in fun d hd => hT d (List.mem_of_mem_drop hd)) (ssort_r _) (ssort_r _) (by rw [ssort_len, ssort_len, List.length_nil]; omega)
        unfold SymS at hm
        rw [ssort_app, List.take_append_drop, ssort_len, ssort_len, l1, l2, show P.length + bs + (T.length - bs) = N by omega, List.append_nil, List.append_nil, ← hf, ← e1] at hm
        clear e1 l1 l2
        repeat' (first
          | (refine auS ?_)
          | (first | (simp only [c2, c3, w2, w3]) | ((with_reducible refine runR_callH 0 ?_ hm (fun _ _ _ h => h) ?_); (exact rfl)))
          | (refine auD ?_)
          | (with_reducible refine runR_b (fun h => ?_) (fun h => ?_) <;> first | exact auH | simp only [h, runR_t, runR_f])
          | (with_reducible refine condK_bl ?_ ?_)
          | (with_reducible refine condK_b (fun h => ?_) (fun h => ?_) <;> first | exact auH | skip)
          | fail)
        (all_goals first | exact auP | skip)
        refine nx_loop ⟨2 * bs, ⟨by omega, by omega⟩, by omega, ?_⟩
        refine le_mk ?_ ?_ (Nat.le_refl _)
        all_goals first | refine auE ?_ | exact auE0
        all_goals (repeat' (first | exact trivial | exact rfl | apply And.intro))
      · have c3 : decide (((P.length + bs : Nat) : Int) < ((N : Nat) : Int)) = false := decide_eq_false (by omega)
        rw [full_last (show T.length ≤ bs by omega), ← hf]
        repeat' (first
          | (refine auS ?_)
          | (simp only [c2, c3, w2, w3])
          | (refine auD ?_)
          | (with_reducible refine runR_b (fun h => ?_) (fun h => ?_) <;> first | exact auH | simp only [h, runR_t, runR_f])
          | (with_reducible refine condK_bl ?_ ?_)
          | (with_reducible refine condK_b (fun h => ?_) (fun h => ?_) <;> first | exact auH | skip)
          | fail)
        (all_goals first | exact auP | skip)
        refine nx_loop ⟨2 * bs, ⟨by omega, by omega⟩, by omega, ?_⟩
        refine le_mk ?_ ?_ (Nat.le_refl _)
        all_goals first | refine auE ?_ | exact auE0
        all_goals (repeat' (first | exact trivial | exact rfl | apply And.intro))
  · have c1 : decide (((bs : Nat) : Int) < ((N : Nat) : Int)) = false := decide_eq_false (by omega)
    rw [full_last (by omega)]
    repeat' (first
      | (refine auS ?_)
      | (simp only [c1])
      | (refine auD ?_)
      | (with_reducible refine runR_b (fun h => ?_) (fun h => ?_) <;> first | exact auH | simp only [h, runR_t, runR_f])
      | (with_reducible refine condK_bl ?_ ?_)
      | (with_reducible refine condK_b (fun h => ?_) (fun h => ?_) <;> first | exact auH | skip)
      | fail)
    (all_goals first | exact auP | skip)
    refine ret_h1 trivial trivial rfl rfl hn (nfLL_map (fun x => by simp [nfL, nfD])) ?_
    rfl
theorem sort_spec (k0 n : Nat) (S : List Du) (hS : ∀ d ∈ S, InR d) (N : Nat) (hNe : N = S.length) (hN : N ≤ 1099511627776) :
    HSpec Try.prog 31 [.sl k0 n 2 0 N false, cmpF] [some (rowO n S)] (fun d H => d = .tup [] ∧ H = [some (rowO n (ssort S))]) := by
  refine hspec_sl k0 ?_
  have hst := stable_spec n S hS N hNe hN
  refine hspec_fn Try.func31 rfl ok_slices_SortStableFunc_api_Due okr_slices_SortStableFunc_api_Due rfl (by kernel_rfl) ?_
  intro Γ hW0 hN0 hL0
  clear hW0
  unfold x_slices_SortStableFunc_api_Due r_slices_SortStableFunc_api_Due
  refine auC ?_
  have hn : n < Γ.g0 := hN0 0 _ rfl
  repeat' (first
    | (refine auS ?_)
    | ((with_reducible refine runR_callH 0 ?_ hst (fun _ _ _ h => h) ?_); (exact rfl))
    | (refine auD ?_)
    | (with_reducible refine runR_b (fun h => ?_) (fun h => ?_) <;> first | exact auH | simp only [h, runR_t, runR_f])
    | (with_reducible refine condK_bl ?_ ?_)
    | (with_reducible refine condK_b (fun h => ?_) (fun h => ?_) <;> first | exact auH | skip)
    | fail)
  (all_goals first | exact auP | skip)
  refine ret_h1 trivial trivial rfl rfl hn (nfLL_map (fun x => by simp [nfL, nfD])) ?_
  rfl
end Go.Proofs.Ytecnjhmpipfldaa
