/-
  A stable sort: what it is made of, walked: swaps of ranges, rotations, insertions.
-/
import Derived.Test.YtecnjhmpipfldaaSortP
import Derived.Test.YtecnjhmpipfldaaWheelZ
namespace Go.Proofs.Ytecnjhmpipfldaa
set_option linter.unusedVariables false
set_option linter.unusedSimpArgs false
abbrev InR (d : Du) : Prop := 0 ≤ d.t ∧ d.t ≤ 16777215
abbrev cmpF : DV := .fn (.func 32) [] []
theorem cmp_spec (a b : Du) (ha : InR a) (hb : InR b) : Spec Try.prog 32 [.agg a.enc, .agg b.enc] (.v (.int .i64 (a.t - b.t))) := by
  have w : IntKind.i64.wrap (a.t - b.t) = a.t - b.t := IntWalk.i64_in _ (by omega)
  refine hspec_fn Try.func32 rfl ok_custref_WheelTick_1 okr_custref_WheelTick_1 rfl (by kernel_rfl) ?_
  intro Γ hW0 hN0 hL0
  have hW := hW0 rfl
  clear hW0 hN0 hL0
  unfold x_custref_WheelTick_1 r_custref_WheelTick_1
  refine auC ?_
  dsimp only [Du.enc]
  repeat' (first
    | (refine auS ?_)
    | (simp only [w])
    | (refine auD ?_)
    | (with_reducible refine runR_b (fun h => ?_) (fun h => ?_) <;> first | exact auH | simp only [h, runR_t, runR_f])
    | (with_reducible refine condK_bl ?_ ?_)
    | (with_reducible refine condK_b (fun h => ?_) (fun h => ?_) <;> first | exact auH | skip)
    | fail)
  all_goals refine auF ?_
  all_goals (try first | refine auR ?_ | exact auR0)
  all_goals (try simp only [hsM] at *)
/-- A row of things, as an object. -/
abbrev rowO (n : Nat) (R : List Du) : AObj := ⟨n, 2, R.map Du.enc⟩
theorem mid_get (P : List Du) (x : Du) (Q : List Du) : (P ++ x :: Q)[P.length]? = some x := by
  rw [List.getElem?_append_right (Nat.le_refl _), Nat.sub_self]
  rfl
theorem mid_set (P : List Du) (x y : Du) (Q : List Du) : (P ++ x :: Q).set P.length y = P ++ y :: Q := by
  rw [List.set_append_right _ _ (Nat.le_refl _), Nat.sub_self]
  rfl
theorem mid_at {P : List Du} {x : Du} {Q R : List Du} {k : Nat} (hR : R = P ++ x :: Q) (hk : k = P.length) : xget (R.map Du.enc) k = [.v (.int .i64 x.id), .v (.int .i64 x.t)] := by
  subst hR hk
  exact xget_du (mid_get P x Q)
theorem mid_put {P : List Du} {x : Du} {Q R : List Du} {k : Nat} (y : Du) (hR : R = P ++ x :: Q) (hk : k = P.length) : xset (R.map Du.enc) k [.v (.int .i64 y.id), .v (.int .i64 y.t)] = (P ++ y :: Q).map Du.enc := by
  subst hR hk
  have := xset_map Du.enc (P ++ x :: Q) P.length y
  rw [mid_set] at this
  exact this
set_option maxHeartbeats 4000000 in
theorem swapRange_spec (k0 n : Nat) (X P M Q Y : List Du) (hPQ : P.length = Q.length) (N : Nat) (hNe : N = X.length + P.length + M.length + Q.length + Y.length) (hN : N ≤ 1099511627776) :
    HSpec Try.prog 43 [.sl k0 n 2 0 N false, .v (.int .i64 (X.length : Nat)), .v (.int .i64 ((X.length + P.length + M.length : Nat) : Int)), .v (.int .i64 (P.length : Nat)), cmpF] [some (rowO n (X ++ (P ++ (M ++ (Q ++ Y)))))] (fun d H => d = .tup [] ∧ H = [some (rowO n (X ++ (Q ++ (M ++ (P ++ Y)))))]) := by
  refine hspec_sl k0 ?_
  refine hspec_fn Try.func43 rfl ok_slices_swapRangeCmpFunc_api_Due okr_slices_swapRangeCmpFunc_api_Due rfl (by kernel_rfl) ?_
  intro Γ hW0 hN0 hL0
  clear hW0
  unfold x_slices_swapRangeCmpFunc_api_Due r_slices_swapRangeCmpFunc_api_Due
  refine auC ?_
  have hn : n < Γ.g0 := hN0 0 _ rfl
  repeat' (first
    | (refine auS ?_)
    | fail
    | (refine auD ?_)
    | (with_reducible refine runR_b (fun h => ?_) (fun h => ?_) <;> first | exact auH | simp only [h, runR_t, runR_f])
    | (with_reducible refine condK_bl ?_ ?_)
    | (with_reducible refine condK_b (fun h => ?_) (fun h => ?_) <;> first | exact auH | skip)
    | fail)
  refine go_loopH (α := Nat) (fun i => [(⟨.d0, .d1, .d2⟩, .v (.int .i64 (i : Nat)))]) (fun i => [(0, some (rowO n (X ++ (Q.take i ++ P.drop i ++ (M ++ (P.take i ++ Q.drop i ++ Y))))))]) (fun _ => Γ.g0) (fun i => P.length - i) (fun i => i ≤ P.length) 0 (Nat.zero_le _) ?_ ?_
  · skip
    refine le_mk ?_ ?_ (Nat.le_refl _)
    all_goals first | refine auE ?_ | exact auE0
    all_goals (repeat' (first | exact trivial | exact rfl | apply And.intro))
  intro i hi
  dsimp only at hi ⊢
  refine auL ?_
  by_cases hlt : i < P.length
  · obtain ⟨p, hp⟩ : ∃ p, P[i]? = some p := ⟨_, List.getElem?_eq_getElem hlt⟩
    obtain ⟨q, hq⟩ : ∃ q, Q[i]? = some q := ⟨_, List.getElem?_eq_getElem (by omega)⟩
    have dp : P.drop i = p :: P.drop (i + 1) := by rw [List.drop_eq_getElem_cons hlt, show P[i] = p from Option.some.inj ((List.getElem?_eq_getElem hlt).symm.trans hp)]
    have dq : Q.drop i = q :: Q.drop (i + 1) := by rw [List.drop_eq_getElem_cons (by omega), show Q[i] = q from Option.some.inj ((List.getElem?_eq_getElem (by omega)).symm.trans hq)]
    have hR : X ++ (Q.take i ++ P.drop i ++ (M ++ (P.take i ++ Q.drop i ++ Y))) = (X ++ Q.take i) ++ p :: (P.drop (i + 1) ++ (M ++ (P.take i ++ q :: (Q.drop (i + 1) ++ Y)))) := by rw [dp, dq]; simp [List.append_assoc]
    have hR2 : X ++ (Q.take i ++ P.drop i ++ (M ++ (P.take i ++ Q.drop i ++ Y))) = (X ++ Q.take i ++ p :: (P.drop (i + 1) ++ (M ++ P.take i))) ++ q :: (Q.drop (i + 1) ++ Y) := by rw [dp, dq]; simp [List.append_assoc]
    have hl1 : (X ++ Q.take i).length = X.length + i := by simp only [List.length_append, List.length_take]; omega
    have hl2 : (X ++ Q.take i ++ p :: (P.drop (i + 1) ++ (M ++ P.take i))).length = X.length + P.length + M.length + i := by simp only [List.length_append, List.length_take, List.length_cons, List.length_drop]; omega
    have g1 := mid_at hR (k := X.length + i) hl1.symm
    have g2 := mid_at hR2 (k := X.length + P.length + M.length + i) hl2.symm
    have s1 := mid_put q hR (k := X.length + i) hl1.symm
    have hR3 : (X ++ Q.take i) ++ q :: (P.drop (i + 1) ++ (M ++ (P.take i ++ q :: (Q.drop (i + 1) ++ Y)))) = (X ++ Q.take i ++ q :: (P.drop (i + 1) ++ (M ++ P.take i))) ++ q :: (Q.drop (i + 1) ++ Y) := by simp [List.append_assoc]
    have hl3 : (X ++ Q.take i ++ q :: (P.drop (i + 1) ++ (M ++ P.take i))).length = X.length + P.length + M.length + i := by simp only [List.length_append, List.length_take, List.length_cons, List.length_drop]; omega
    have g3 := mid_at hR3 (k := X.length + P.length + M.length + i) hl3.symm
    have s2 := mid_put p hR3 (k := X.length + P.length + M.length + i) hl3.symm
    have hfin : X ++ Q.take i ++ q :: (P.drop (i + 1) ++ (M ++ P.take i)) ++ p :: (Q.drop (i + 1) ++ Y) = X ++ (Q.take (i + 1) ++ P.drop (i + 1) ++ (M ++ (P.take (i + 1) ++ Q.drop (i + 1) ++ Y))) := by rw [take_snoc hp, take_snoc hq]; simp [List.append_assoc]
    rw [hfin] at s2
    have hlr : ((X ++ (Q.take i ++ P.drop i ++ (M ++ (P.take i ++ Q.drop i ++ Y)))).map Du.enc).length = X.length + P.length + M.length + Q.length + Y.length := by simp only [List.length_map, List.length_append, List.length_take, List.length_drop]; omega
    have hlr2 : (((X ++ Q.take i) ++ q :: (P.drop (i + 1) ++ (M ++ (P.take i ++ q :: (Q.drop (i + 1) ++ Y))))).map Du.enc).length = X.length + P.length + M.length + Q.length + Y.length := by simp only [List.length_map, List.length_append, List.length_take, List.length_drop, List.length_cons]; omega
    have w1 : IntKind.i64.wrap ((X.length : Int) + (i : Nat)) = ((X.length + i : Nat) : Int) := by rw [IntWalk.i64_in _ (by omega)]; omega
    have w2 : IntKind.i64.wrap (((X.length + P.length + M.length : Nat) : Int) + (i : Nat)) = ((X.length + P.length + M.length + i : Nat) : Int) := by rw [IntWalk.i64_in _ (by omega)]; omega
    have w3 : IntKind.i64.wrap ((i : Int) + 1) = ((i + 1 : Nat) : Int) := by rw [IntWalk.i64_in _ (by omega)]; omega
    generalize X ++ (Q.take i ++ P.drop i ++ (M ++ (P.take i ++ Q.drop i ++ Y))) = R at *
    generalize (X ++ Q.take i) ++ q :: (P.drop (i + 1) ++ (M ++ (P.take i ++ q :: (Q.drop (i + 1) ++ Y)))) = R2 at *
    generalize hR4 : X ++ (Q.take (i + 1) ++ P.drop (i + 1) ++ (M ++ (P.take (i + 1) ++ Q.drop (i + 1) ++ Y))) = R4 at *
    repeat' (first
      | (refine auS ?_)
      | (simp only [w1, w2, w3, Int.toNat_natCast, Nat.zero_add, g1, g2, s1, s2])
      | (refine auD ?_)
      | (with_reducible refine runR_b (fun h => ?_) (fun h => ?_) <;> first | exact auH | simp only [h, runR_t, runR_f])
      | (with_reducible refine condK_bl ?_ ?_)
      | (with_reducible refine condK_b (fun h => ?_) (fun h => ?_) <;> first | exact auH | skip)
      | (first | (refine runR_n ⟨by omega, by omega⟩ ?_) | (refine runR_n ⟨by omega, by omega, rfl⟩ ?_) | fail))
    (all_goals first | exact auP | skip)
    refine nx_loop ⟨i + 1, hlt, Nat.sub_lt_sub_left hlt (Nat.lt_succ_self i), ?_⟩
    refine le_mk ?_ ?_ (Nat.le_refl _)
    all_goals first | refine auE ?_ | exact auE0
    all_goals (repeat' (first | exact trivial | exact rfl | apply And.intro))
    rw [g3, hR4]
    exact congrArg (fun z => some (AObj.mk n 2 z)) s2
  · obtain rfl : i = P.length := by omega
    repeat' (first
      | (refine auS ?_)
      | fail
      | (refine auD ?_)
      | (with_reducible refine runR_b (fun h => ?_) (fun h => ?_) <;> first | exact auH | simp only [h, runR_t, runR_f])
      | (with_reducible refine condK_bl ?_ ?_)
      | (with_reducible refine condK_b (fun h => ?_) (fun h => ?_) <;> first | exact auH | skip)
      | fail)
    (all_goals first | exact auP | skip)
    refine ret_h1 trivial trivial rfl rfl hn (nfLL_map (fun x => by simp [nfL, nfD])) ?_
    rw [List.take_length, List.take_of_length_le (by omega), List.drop_length, List.drop_of_length_le (by omega)]
    simp
set_option maxHeartbeats 4000000 in
theorem rotate_spec (k0 n : Nat) (X A B Y : List Du) (hA : 0 < A.length) (hB : 0 < B.length) (N : Nat) (hNe : N = X.length + A.length + B.length + Y.length) (hN : N ≤ 1099511627776) :
    HSpec Try.prog 42 [.sl k0 n 2 0 N false, .v (.int .i64 (X.length : Nat)), .v (.int .i64 ((X.length + A.length : Nat) : Int)), .v (.int .i64 ((X.length + A.length + B.length : Nat) : Int)), cmpF] [some (rowO n (X ++ (A ++ (B ++ Y))))] (fun d H => d = .tup [] ∧ H = [some (rowO n (X ++ (B ++ (A ++ Y))))]) := by
  refine hspec_sl k0 ?_
  refine hspec_fn Try.func42 rfl ok_slices_rotateCmpFunc_api_Due okr_slices_rotateCmpFunc_api_Due rfl (by kernel_rfl) ?_
  intro Γ hW0 hN0 hL0
  clear hW0
  unfold x_slices_rotateCmpFunc_api_Due r_slices_rotateCmpFunc_api_Due
  refine auC ?_
  have hn : n < Γ.g0 := hN0 0 _ rfl
  have w1 : IntKind.i64.wrap (((X.length + A.length : Nat) : Int) - (X.length : Nat)) = (A.length : Nat) := by rw [IntWalk.i64_in _ (by omega)]; omega
  have w2 : IntKind.i64.wrap (((X.length + A.length + B.length : Nat) : Int) - ((X.length + A.length : Nat) : Int)) = (B.length : Nat) := by rw [IntWalk.i64_in _ (by omega)]; omega
  repeat' (first
    | (refine auS ?_)
    | (simp only [w1, w2])
    | (refine auD ?_)
    | (with_reducible refine runR_b (fun h => ?_) (fun h => ?_) <;> first | exact auH | simp only [h, runR_t, runR_f])
    | (with_reducible refine condK_bl ?_ ?_)
    | (with_reducible refine condK_b (fun h => ?_) (fun h => ?_) <;> first | exact auH | skip)
    | fail)
  refine go_loopH (α := List Du × List Du × List Du × List Du) (fun x => [(⟨.d0, .d1, .d2⟩, .v (.int .i64 (x.2.1.length : Nat))), (⟨.d0, .d1, .d3⟩, .v (.int .i64 (x.2.2.1.length : Nat)))]) (fun x => [(0, some (rowO n (x.1 ++ (x.2.1 ++ (x.2.2.1 ++ x.2.2.2)))))]) (fun _ => Γ.g0) (fun x => x.2.1.length + x.2.2.1.length) (fun x => 0 < x.2.1.length ∧ 0 < x.2.2.1.length ∧ x.1.length + x.2.1.length = X.length + A.length ∧ x.1 ++ (x.2.2.1 ++ (x.2.1 ++ x.2.2.2)) = X ++ (B ++ (A ++ Y))) (X, A, B, Y) ⟨hA, hB, rfl, rfl⟩ ?_ ?_
  · skip
    refine le_mk ?_ ?_ (Nat.le_refl _)
    all_goals first | refine auE ?_ | exact auE0
    all_goals (repeat' (first | exact trivial | exact rfl | apply And.intro))
  rintro ⟨X1, A1, B1, Y1⟩ ⟨hA1, hB1, hm, hT⟩
  dsimp only at hA1 hB1 hm hT ⊢
  refine auL ?_
  have hlen := congrArg List.length hT
  simp only [List.length_append] at hlen
  have w3 : IntKind.i64.wrap (((X.length + A.length : Nat) : Int) - (A1.length : Nat)) = (X1.length : Nat) := by rw [IntWalk.i64_in _ (by omega)]; omega
  by_cases hij : A1.length = B1.length
  · have e : (!decide (((A1.length : Nat) : Int) = (B1.length : Nat))) = false := by rw [decide_eq_true (by omega)]; rfl
    have hsw := swapRange_spec 0 n X1 A1 [] B1 Y1 hij N (by simp only [List.length_nil]; omega) hN
    simp only [List.nil_append, List.length_nil, Nat.add_zero] at hsw
    rw [hT, hm] at hsw
    repeat' (first
      | (refine auS ?_)
      | (first | (simp only [e, w3]) | ((with_reducible refine runR_callH 0 ?_ hsw (fun _ _ _ h => h) ?_); (exact rfl)))
      | (refine auD ?_)
      | (with_reducible refine runR_b (fun h => ?_) (fun h => ?_) <;> first | exact auH | simp only [h, runR_t, runR_f])
      | (with_reducible refine condK_bl ?_ ?_)
      | (with_reducible refine condK_b (fun h => ?_) (fun h => ?_) <;> first | exact auH | skip)
      | fail)
    (all_goals first | exact auP | skip)
    refine ret_h1 trivial trivial rfl rfl hn (nfLL_map (fun x => by simp [nfL, nfD])) ?_
    rfl
  · have e : (!decide (((A1.length : Nat) : Int) = (B1.length : Nat))) = true := by rw [decide_eq_false (by omega)]; rfl
    by_cases hgt : B1.length < A1.length
    · have e2 : decide (((B1.length : Nat) : Int) < (A1.length : Nat)) = true := decide_eq_true (by omega)
      have ht : (A1.take B1.length).length = B1.length := by rw [List.length_take]; omega
      have hd : (A1.drop B1.length).length = A1.length - B1.length := List.length_drop
      have hsw := swapRange_spec 0 n X1 (A1.take B1.length) (A1.drop B1.length) B1 Y1 ht N (by omega) hN
      rw [ht, show X1.length + B1.length + (A1.drop B1.length).length = X.length + A.length by omega] at hsw
      have eA : A1.take B1.length ++ (A1.drop B1.length ++ (B1 ++ Y1)) = A1 ++ (B1 ++ Y1) := by rw [← List.append_assoc, List.take_append_drop]
      rw [eA] at hsw
      have w4 : IntKind.i64.wrap (((A1.length : Nat) : Int) - (B1.length : Nat)) = ((A1.drop B1.length).length : Nat) := by rw [IntWalk.i64_in _ (by omega)]; omega
      repeat' (first
        | (refine auS ?_)
        | (first | (simp only [e, e2, w3, w4]) | ((with_reducible refine runR_callH 0 ?_ hsw (fun _ _ _ h => h) ?_); (exact rfl)))
        | (refine auD ?_)
        | (with_reducible refine runR_b (fun h => ?_) (fun h => ?_) <;> first | exact auH | simp only [h, runR_t, runR_f])
        | (with_reducible refine condK_bl ?_ ?_)
        | (with_reducible refine condK_b (fun h => ?_) (fun h => ?_) <;> first | exact auH | skip)
        | fail)
      (all_goals first | exact auP | skip)
      refine nx_loop ⟨(X1 ++ B1, A1.drop B1.length, A1.take B1.length, Y1), ⟨by dsimp only; omega, by dsimp only; omega, by simp only [List.length_append]; omega, ?_⟩, by dsimp only; omega, ?_⟩
      · dsimp only
        rw [List.append_assoc, ← hT]
        congr 2
        rw [← List.append_assoc, List.take_append_drop]
      refine le_mk ?_ ?_ (Nat.le_refl _)
      all_goals first | refine auE ?_ | exact auE0
      all_goals (repeat' (first | exact trivial | exact rfl | apply And.intro))
      · rw [ht]
      · rw [List.append_assoc]
    · have e2 : decide (((B1.length : Nat) : Int) < (A1.length : Nat)) = false := decide_eq_false (by omega)
      have ht : (B1.take (B1.length - A1.length)).length = B1.length - A1.length := by rw [List.length_take]; omega
      have hd : (B1.drop (B1.length - A1.length)).length = A1.length := by rw [List.length_drop]; omega
      have hsw := swapRange_spec 0 n X1 A1 (B1.take (B1.length - A1.length)) (B1.drop (B1.length - A1.length)) Y1 hd.symm N (by omega) hN
      have eB : B1.take (B1.length - A1.length) ++ (B1.drop (B1.length - A1.length) ++ Y1) = B1 ++ Y1 := by rw [← List.append_assoc, List.take_append_drop]
      rw [eB] at hsw
      have w4 : IntKind.i64.wrap (((X.length + A.length : Nat) : Int) + (B1.length : Nat)) = ((X.length + A.length + B1.length : Nat) : Int) := by rw [IntWalk.i64_in _ (by omega)]; omega
      have w5 : IntKind.i64.wrap (((X.length + A.length + B1.length : Nat) : Int) - (A1.length : Nat)) = ((X1.length + A1.length + (B1.take (B1.length - A1.length)).length : Nat) : Int) := by rw [IntWalk.i64_in _ (by omega)]; omega
      have w6 : IntKind.i64.wrap (((B1.length : Nat) : Int) - (A1.length : Nat)) = ((B1.take (B1.length - A1.length)).length : Nat) := by rw [IntWalk.i64_in _ (by omega)]; omega
      repeat' (first
        | (refine auS ?_)
        | (first | (simp only [e, e2, w3, w4, w5, w6]) | ((with_reducible refine runR_callH 0 ?_ hsw (fun _ _ _ h => h) ?_); (exact rfl)))
        | (refine auD ?_)
        | (with_reducible refine runR_b (fun h => ?_) (fun h => ?_) <;> first | exact auH | simp only [h, runR_t, runR_f])
        | (with_reducible refine condK_bl ?_ ?_)
        | (with_reducible refine condK_b (fun h => ?_) (fun h => ?_) <;> first | exact auH | skip)
        | fail)
      (all_goals first | exact auP | skip)
      refine nx_loop ⟨(X1, B1.drop (B1.length - A1.length), B1.take (B1.length - A1.length), A1 ++ Y1), ⟨by dsimp only; omega, by dsimp only; omega, by dsimp only; omega, ?_⟩, by dsimp only; omega, ?_⟩
      · dsimp only
        rw [← hT]
        congr 1
        rw [← List.append_assoc, List.take_append_drop]
      refine le_mk ?_ ?_ (Nat.le_refl _)
      all_goals first | refine auE ?_ | exact auE0
      all_goals (repeat' (first | exact trivial | exact rfl | apply And.intro))
      · rw [hd]
theorem insR_at : ∀ {A1 A2 : List Du} {x : Du}, (∀ y ∈ A1, y.t ≤ x.t) → (∀ y ∈ A2, x.t < y.t) → insR (A1 ++ A2) x = A1 ++ x :: A2
  | [], A2, x, _, h2 => by
    unfold insR
    cases A2 with
    | nil => rfl
    | cons a r =>
      have := h2 a (by simp)
      rw [List.nil_append, List.takeWhile_cons, List.dropWhile_cons, if_neg (by simp; omega), if_neg (by simp; omega)]
  | a :: r, A2, x, h1, h2 => by
    have ih := insR_at (A1 := r) (A2 := A2) (x := x) (fun y hy => h1 y (by simp [hy])) h2
    have ha := h1 a (by simp)
    unfold insR at ih ⊢
    rw [List.cons_append, List.takeWhile_cons, List.dropWhile_cons, if_pos (by simp; omega), if_pos (by simp; omega), List.cons_append, ih]
    rfl
set_option maxHeartbeats 4000000 in
theorem insort_spec (k0 n : Nat) (X S Y : List Du) (hS : ∀ d ∈ S, InR d) (N : Nat) (hNe : N = X.length + S.length + Y.length) (hN : N ≤ 1099511627776) :
    HSpec Try.prog 40 [.sl k0 n 2 0 N false, .v (.int .i64 (X.length : Nat)), .v (.int .i64 ((X.length + S.length : Nat) : Int)), cmpF] [some (rowO n (X ++ (S ++ Y)))] (fun d H => d = .tup [] ∧ H = [some (rowO n (X ++ (ssort S ++ Y)))]) := by
  refine hspec_sl k0 ?_
  refine hspec_fn Try.func40 rfl ok_slices_insertionSortCmpFunc_api_Due okr_slices_insertionSortCmpFunc_api_Due rfl (by kernel_rfl) ?_
  intro Γ hW0 hN0 hL0
  clear hW0
  unfold x_slices_insertionSortCmpFunc_api_Due r_slices_insertionSortCmpFunc_api_Due
  refine auC ?_
  have hn : n < Γ.g0 := hN0 0 _ rfl
  have w1 : IntKind.i64.wrap (((X.length : Nat) : Int) + 1) = ((X.length + 1 : Nat) : Int) := by rw [IntWalk.i64_in _ (by omega)]; omega
  repeat' (first
    | (refine auS ?_)
    | (simp only [w1])
    | (refine auD ?_)
    | (with_reducible refine runR_b (fun h => ?_) (fun h => ?_) <;> first | exact auH | simp only [h, runR_t, runR_f])
    | (with_reducible refine condK_bl ?_ ?_)
    | (with_reducible refine condK_b (fun h => ?_) (fun h => ?_) <;> first | exact auH | skip)
    | fail)
  refine go_loopH (α := Nat) (fun m => [(⟨.d0, .d1, .d0⟩, .v (.int .i64 ((X.length + m : Nat) : Int)))]) (fun m => [(0, some (rowO n (X ++ (ssort (S.take m) ++ (S.drop m ++ Y)))))]) (fun _ => Γ.g0) (fun m => S.length + 1 - m) (fun m => 1 ≤ m ∧ m ≤ S.length + 1) 1 ⟨Nat.le_refl _, by omega⟩ ?_ ?_
  · skip
    refine le_mk ?_ ?_ (Nat.le_refl _)
    all_goals first | refine auE ?_ | exact auE0
    all_goals (repeat' (first | exact trivial | exact rfl | apply And.intro))
    have e : ssort (S.take 1) = S.take 1 := ssort_sorted (by
      cases S with
      | nil => exact List.Pairwise.nil
      | cons a r => exact List.pairwise_singleton _ _)
    rw [e, ← List.append_assoc (S.take 1), List.take_append_drop]
  rintro m ⟨hm1, hm2⟩
  dsimp only at hm1 hm2 ⊢
  refine auL ?_
  by_cases hlt : m < S.length
  · obtain ⟨x, hx⟩ : ∃ x, S[m]? = some x := ⟨_, List.getElem?_eq_getElem hlt⟩
    have hxr := hS x (List.mem_of_getElem? hx)
    have hdx : S.drop m = x :: S.drop (m + 1) := by rw [List.drop_eq_getElem_cons hlt, show S[m] = x from Option.some.inj ((List.getElem?_eq_getElem hlt).symm.trans hx)]
    have hQs := (ssort_ok (S.take m)).1
    have hQl := ssort_len (S.take m)
    have hQr : ∀ y ∈ ssort (S.take m), InR y := fun y hy => hS y (List.mem_of_mem_take (ssort_mem hy))
    have hnext : ssort (S.take (m + 1)) = insR (ssort (S.take m)) x := by rw [take_snoc hx, ssort_snoc]
    have htl : (S.take m).length = m := by rw [List.length_take]; omega
    have c1 : decide (((X.length + m : Nat) : Int) < ((X.length + S.length : Nat) : Int)) = true := decide_eq_true (by omega)
    have hdl : (S.drop (m + 1)).length = S.length - (m + 1) := List.length_drop
    rw [hdx, List.cons_append]
    generalize ssort (S.take m) = Q at *
    repeat' (first
      | (refine auS ?_)
      | (simp only [c1])
      | (refine auD ?_)
      | (with_reducible refine runR_b (fun h => ?_) (fun h => ?_) <;> first | exact auH | simp only [h, runR_t, runR_f])
      | (with_reducible refine condK_bl ?_ ?_)
      | (with_reducible refine condK_b (fun h => ?_) (fun h => ?_) <;> first | exact auH | skip)
      | fail)
    (all_goals first | exact auP | skip)
    refine go_loopH (α := List Du × List Du) (fun q => [(⟨.d0, .d1, .d1⟩, .v (.int .i64 ((X.length + q.1.length : Nat) : Int)))]) (fun q => [(0, some (rowO n ((X ++ q.1) ++ x :: (q.2 ++ (S.drop (m + 1) ++ Y)))))]) (fun _ => Γ.g0) (fun q => q.1.length) (fun q => q.1 ++ q.2 = Q ∧ ∀ y ∈ q.2, x.t < y.t) (Q, []) ⟨by simp, fun y hy => by simp at hy⟩ ?_ ?_
    · skip
      refine le_mk ?_ ?_ (Nat.le_refl _)
      all_goals first | refine auE ?_ | exact auE0
      all_goals (repeat' (first | exact trivial | exact rfl | apply And.intro))
      · rw [hQl, htl]
      · rw [List.append_assoc, List.nil_append]
    rintro ⟨A1, A2⟩ ⟨hq, h2⟩
    dsimp only at hq h2 ⊢
    refine auL ?_
    have hql := congrArg List.length hq
    rw [List.length_append] at hql
    have hout : (∀ y ∈ A1, y.t ≤ x.t) → (X ++ A1) ++ x :: (A2 ++ (S.drop (m + 1) ++ Y)) = X ++ (ssort (S.take (m + 1)) ++ (S.drop (m + 1) ++ Y)) := fun h1 => by
      rw [hnext, ← hq, insR_at h1 h2]
      simp [List.append_assoc]
    have w9 : IntKind.i64.wrap (((X.length + m : Nat) : Int) + 1) = ((X.length + (m + 1) : Nat) : Int) := by rw [IntWalk.i64_in _ (by omega)]; omega
    rcases List.eq_nil_or_concat A1 with rfl | ⟨A0, y, rfl⟩
    · have c2 : decide (((X.length : Nat) : Int) < ((X.length + ([] : List Du).length : Nat) : Int)) = false := decide_eq_false (by simp)
      have ho := hout (fun y hy => by simp at hy)
      rw [ho]
      repeat' (first
        | (refine auS ?_)
        | (simp only [c2, w9])
        | (refine auD ?_)
        | (with_reducible refine runR_b (fun h => ?_) (fun h => ?_) <;> first | exact auH | simp only [h, runR_t, runR_f])
        | (with_reducible refine condK_bl ?_ ?_)
        | (with_reducible refine condK_b (fun h => ?_) (fun h => ?_) <;> first | exact auH | skip)
        | fail)
      (all_goals first | exact auP | skip)
      refine nx_loop ⟨m + 1, ⟨by omega, by omega⟩, by omega, ?_⟩
      refine le_mk ?_ ?_ (Nat.le_refl _)
      all_goals first | refine auE ?_ | exact auE0
      all_goals (repeat' (first | exact trivial | exact rfl | apply And.intro))
    · rw [List.concat_eq_append] at *
      have hyQ : y ∈ Q := by rw [← hq]; simp
      have hyr := hQr y hyQ
      have hal : (A0 ++ [y]).length = A0.length + 1 := by simp
      have hxal : (X ++ A0).length = X.length + A0.length := List.length_append
      rw [hal] at hql
      have c2 : decide (((X.length : Nat) : Int) < ((X.length + (A0 ++ [y]).length : Nat) : Int)) = true := decide_eq_true (by rw [hal]; omega)
      have w2 : IntKind.i64.wrap (((X.length + (A0 ++ [y]).length : Nat) : Int) - 1) = ((X.length + A0.length : Nat) : Int) := by rw [hal, IntWalk.i64_in _ (by omega)]; omega
      have hcmp := cmp_spec x y hxr hyr
      have hR1 : (X ++ (A0 ++ [y])) ++ x :: (A2 ++ (S.drop (m + 1) ++ Y)) = (X ++ A0) ++ y :: (x :: (A2 ++ (S.drop (m + 1) ++ Y))) := by simp [List.append_assoc]
      have hR2 : (X ++ A0) ++ y :: (y :: (A2 ++ (S.drop (m + 1) ++ Y))) = (X ++ A0) ++ y :: (y :: (A2 ++ (S.drop (m + 1) ++ Y))) := rfl
      have hlx : (X ++ (A0 ++ [y])).length = X.length + (A0 ++ [y]).length := List.length_append
      have g1 := mid_at (R := (X ++ (A0 ++ [y])) ++ x :: (A2 ++ (S.drop (m + 1) ++ Y))) rfl hlx.symm
      have g2 := mid_at hR1 hxal.symm
      have s1 := mid_put y (R := (X ++ (A0 ++ [y])) ++ x :: (A2 ++ (S.drop (m + 1) ++ Y))) rfl hlx.symm
      rw [show (X ++ (A0 ++ [y])) ++ y :: (A2 ++ (S.drop (m + 1) ++ Y)) = (X ++ A0) ++ y :: (y :: (A2 ++ (S.drop (m + 1) ++ Y))) by simp [List.append_assoc]] at s1
      have g3 := mid_at hR2 hxal.symm
      have s2 := mid_put x hR2 hxal.symm
      have hlr : (((X ++ (A0 ++ [y])) ++ x :: (A2 ++ (S.drop (m + 1) ++ Y))).map Du.enc).length = N := by simp only [List.length_map, List.length_append, List.length_cons, List.length_nil]; omega
      have hlr2 : (((X ++ A0) ++ y :: (y :: (A2 ++ (S.drop (m + 1) ++ Y)))).map Du.enc).length = N := by simp only [List.length_map, List.length_append, List.length_cons, List.length_nil]; omega
      have hjl : X.length + (A0 ++ [y]).length < N := by rw [hal]; omega
      generalize (X ++ (A0 ++ [y])) ++ x :: (A2 ++ (S.drop (m + 1) ++ Y)) = R at *
      generalize (X ++ A0) ++ y :: (y :: (A2 ++ (S.drop (m + 1) ++ Y))) = R2 at *
      by_cases hxy : x.t < y.t
      · have c3 : decide (x.t - y.t < 0) = true := decide_eq_true (by omega)
        repeat' (first
          | (refine auS ?_)
          | (first | (simp only [c2, w2, Int.toNat_natCast, Nat.zero_add, g1, g2, s1, s2, c3]) | (with_reducible refine runR_call hcmp ?_))
          | (refine auD ?_)
          | (with_reducible refine runR_b (fun h => ?_) (fun h => ?_) <;> first | exact auH | simp only [h, runR_t, runR_f])
          | (with_reducible refine condK_bl ?_ ?_)
          | (with_reducible refine condK_b (fun h => ?_) (fun h => ?_) <;> first | exact auH | skip)
          | (first | (refine runR_n ⟨by omega, by omega⟩ ?_) | (refine runR_n ⟨by omega, by omega, rfl⟩ ?_) | fail))
        (all_goals first | exact auP | skip)
        refine nx_loop ⟨(A0, y :: A2), ⟨by rw [← hq]; simp [List.append_assoc], fun z hz => ?_⟩, by rw [hal]; dsimp only; omega, ?_⟩
        · rcases List.mem_cons.1 hz with rfl | hz
          · exact hxy
          · exact h2 z hz
        refine le_mk ?_ ?_ (Nat.le_refl _)
        all_goals first | refine auE ?_ | exact auE0
        all_goals (repeat' (first | exact trivial | exact rfl | apply And.intro))
        rw [g3]
        exact congrArg (fun z => some (AObj.mk n 2 z)) s2
      · have c3 : decide (x.t - y.t < 0) = false := decide_eq_false (by omega)
        have ho := hout (fun z hz => by
          rw [← hq] at hQs
          have h3 := (List.pairwise_append.1 hQs).1
          rw [List.pairwise_append] at h3
          rcases List.mem_append.1 hz with hz | hz
          · have := h3.2.2 z hz y (by simp)
            omega
          · simp at hz
            subst hz
            omega)
        repeat' (first
          | (refine auS ?_)
          | (first | (simp only [c2, w2, w9, Int.toNat_natCast, Nat.zero_add, g1, g2, c3]) | (with_reducible refine runR_call hcmp ?_))
          | (refine auD ?_)
          | (with_reducible refine runR_b (fun h => ?_) (fun h => ?_) <;> first | exact auH | simp only [h, runR_t, runR_f])
          | (with_reducible refine condK_bl ?_ ?_)
          | (with_reducible refine condK_b (fun h => ?_) (fun h => ?_) <;> first | exact auH | skip)
          | (first | (refine runR_n ⟨by omega, by omega⟩ ?_) | fail))
        (all_goals first | exact auP | skip)
        refine nx_loop ⟨m + 1, ⟨by omega, by omega⟩, by omega, ?_⟩
        refine le_mk ?_ ?_ (Nat.le_refl _)
        all_goals first | refine auE ?_ | exact auE0
        all_goals (repeat' (first | exact trivial | exact rfl | apply And.intro))
        rw [ho]
  · have hge : S.length ≤ m := by omega
    have c1 : decide (((X.length + m : Nat) : Int) < ((X.length + S.length : Nat) : Int)) = false := decide_eq_false (by omega)
    rw [List.take_of_length_le hge, List.drop_of_length_le hge, List.nil_append]
    repeat' (first
      | (refine auS ?_)
      | (simp only [c1])
      | (refine auD ?_)
      | (with_reducible refine runR_b (fun h => ?_) (fun h => ?_) <;> first | exact auH | simp only [h, runR_t, runR_f])
      | (with_reducible refine condK_bl ?_ ?_)
      | (with_reducible refine condK_b (fun h => ?_) (fun h => ?_) <;> first | exact auH | skip)
      | fail)
    (all_goals first | exact auP | skip)
    refine ret_h1 trivial trivial rfl rfl hn (nfLL_map (fun x => by simp [nfL, nfD])) ?_
    rfl
end Go.Proofs.Ytecnjhmpipfldaa
