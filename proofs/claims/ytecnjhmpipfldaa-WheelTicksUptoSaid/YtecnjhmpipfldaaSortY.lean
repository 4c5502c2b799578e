/-
  A stable sort: two sorted pieces merged in their place.
-/
import Derived.Test.YtecnjhmpipfldaaSortX
namespace Go.Proofs.Ytecnjhmpipfldaa
set_option linter.unusedVariables false
set_option linter.unusedSimpArgs false
theorem half_u (s : Nat) (h : s ≤ 4398046511104) : IntKind.u64.wrap ((s : Nat) : Int) = (s : Nat) ∧ ((s : Nat) : Int).fdiv (2 ^ min 1 IntKind.u64.bits) = ((s / 2 : Nat) : Int) ∧ IntKind.i64.wrap ((s / 2 : Nat) : Int) = ((s / 2 : Nat) : Int) := by
  refine ⟨u64_in (by omega) (by omega), ?_, IntWalk.i64_in _ (by omega)⟩
  rw [show min 1 IntKind.u64.bits = 1 from rfl, Int.fdiv_eq_ediv_of_nonneg _ (by decide)]
  rfl
theorem sorted_at {B : List Du} (hB : SortedD B) {p : Nat} {z : Du} (hz : B[p]? = some z) : (∀ y ∈ B.take (p + 1), y.t ≤ z.t) ∧ ∀ y ∈ B.drop p, z.t ≤ y.t := by
  have hp := (List.getElem?_eq_some_iff.1 hz).1
  have e : B.drop p = z :: B.drop (p + 1) := by rw [List.drop_eq_getElem_cons hp, show B[p] = z from Option.some.inj ((List.getElem?_eq_getElem hp).symm.trans hz)]
  have h := hB
  unfold SortedD at h
  rw [← List.take_append_drop p B, e, List.pairwise_append, List.pairwise_cons] at h
  constructor
  · intro y hy
    rw [take_snoc hz] at hy
    rcases List.mem_append.1 hy with hy | hy
    · exact h.2.2 y hy z (by simp)
    · simp at hy
      rw [hy]
      exact Int.le_refl _
  · intro y hy
    rw [e] at hy
    rcases List.mem_cons.1 hy with rfl | hy
    · exact Int.le_refl _
    · exact h.2.1.1 y hy
theorem cut_at {B : List Du} {p : Nat} {z : Du} (hz : B[p]? = some z) : B = B.take p ++ z :: B.drop (p + 1) := by
  have hp := (List.getElem?_eq_some_iff.1 hz).1
  conv => lhs; rw [← List.take_append_drop p B, List.drop_eq_getElem_cons hp]
  rw [show B[p] = z from Option.some.inj ((List.getElem?_eq_getElem hp).symm.trans hz)]
set_option maxHeartbeats 4000000 in
theorem symMerge1 (n : Nat) (X : List Du) (x : Du) (B Y : List Du) (hx : InR x) (hB : ∀ d ∈ B, InR d) (hs : SortedD B) (N : Nat) (hNe : N = X.length + 1 + B.length + Y.length) (hN : N ≤ 1099511627776) :
    HSpec Try.prog 41 [.sl 0 n 2 0 N false, .v (.int .i64 (X.length : Nat)), .v (.int .i64 ((X.length + 1 : Nat) : Int)), .v (.int .i64 ((X.length + 1 + B.length : Nat) : Int)), cmpF] [some (rowO n (X ++ x :: (B ++ Y)))] (fun d H => d = .tup [] ∧ H = [some (rowO n (X ++ (ssort ([x] ++ B) ++ Y)))]) := by
  refine hspec_fn Try.func41 rfl ok_slices_symMergeCmpFunc_api_Due okr_slices_symMergeCmpFunc_api_Due rfl (by kernel_rfl) ?_
  intro Γ hW0 hN0 hL0
  clear hW0
  unfold x_slices_symMergeCmpFunc_api_Due r_slices_symMergeCmpFunc_api_Due
  refine auC ?_
  have hn : n < Γ.g0 := hN0 0 _ rfl
  have w1 : IntKind.i64.wrap (((X.length + 1 : Nat) : Int) - (X.length : Nat)) = 1 := by rw [IntWalk.i64_in _ (by omega)]; omega
  have gx := mid_at (P := X) (x := x) (Q := B ++ Y) (R := X ++ x :: (B ++ Y)) rfl rfl
  have hrl : ((X ++ x :: (B ++ Y)).map Du.enc).length = N := by simp only [List.length_map, List.length_append, List.length_cons]; omega
  repeat' (first
    | (refine auS ?_)
    | (simp only [w1])
    | (refine auD ?_)
    | (with_reducible refine runR_b (fun h => ?_) (fun h => ?_) <;> first | exact auH | simp only [h, runR_t, runR_f])
    | (with_reducible refine condK_bl ?_ ?_)
    | (with_reducible refine condK_b (fun h => ?_) (fun h => ?_) <;> first | exact auH | skip)
    | fail)
  refine go_loopH (α := Nat × Nat) (fun q => [(⟨.d0, .d1, .d2⟩, .v (.int .i64 ((X.length + 1 + q.1 : Nat) : Int))), (⟨.d0, .d1, .d3⟩, .v (.int .i64 ((X.length + 1 + q.2 : Nat) : Int)))]) (fun _ => []) (fun _ => Γ.g0) (fun q => q.2 - q.1) (fun q => q.1 ≤ q.2 ∧ q.2 ≤ B.length ∧ (∀ y ∈ B.take q.1, y.t < x.t) ∧ ∀ y ∈ B.drop q.2, x.t ≤ y.t) (0, B.length) ⟨Nat.zero_le _, Nat.le_refl _, fun y hy => by simp at hy, fun y hy => by simp at hy⟩ ?_ ?_
  · skip
    refine le_mk ?_ ?_ (Nat.le_refl _)
    all_goals first | refine auE ?_ | exact auE0
    all_goals (repeat' (first | exact trivial | exact rfl | apply And.intro))
  rintro ⟨u, v⟩ ⟨h1, h2, h3, h4⟩
  dsimp only at h1 h2 h3 h4 ⊢
  refine auL ?_
  by_cases huv : u < v
  · have c1 : decide (((X.length + 1 + u : Nat) : Int) < ((X.length + 1 + v : Nat) : Int)) = true := decide_eq_true (by omega)
    have w2 : IntKind.i64.wrap (((X.length + 1 + u : Nat) : Int) + ((X.length + 1 + v : Nat) : Int)) = ((X.length + 1 + u + (X.length + 1 + v) : Nat) : Int) := by rw [IntWalk.i64_in _ (by omega)]; omega
    obtain ⟨k1, k2, k3⟩ := half_u (X.length + 1 + u + (X.length + 1 + v)) (by omega)
    have hh : (X.length + 1 + u + (X.length + 1 + v)) / 2 = X.length + 1 + (u + v) / 2 := by omega
    rw [hh] at k2 k3
    have hp : (u + v) / 2 < B.length := by omega
    have hpu : u ≤ (u + v) / 2 := by omega
    have hpv : (u + v) / 2 < v := by omega
    generalize (u + v) / 2 = p at *
    obtain ⟨y, hy⟩ : ∃ y, B[p]? = some y := ⟨_, List.getElem?_eq_getElem hp⟩
    have hyr := hB y (List.mem_of_getElem? hy)
    obtain ⟨o1, o2⟩ := sorted_at hs hy
    have hcut : X ++ x :: (B ++ Y) = (X ++ x :: B.take p) ++ y :: (B.drop (p + 1) ++ Y) := by
      conv => lhs; rw [cut_at hy]
      simp [List.append_assoc]
    have gy := mid_at hcut (k := X.length + 1 + p) (by simp only [List.length_append, List.length_cons, List.length_take]; omega)
    have hcmp := cmp_spec y x hyr hx
    have w3 : IntKind.i64.wrap (((X.length + 1 + p : Nat) : Int) + 1) = ((X.length + 1 + (p + 1) : Nat) : Int) := by rw [IntWalk.i64_in _ (by omega)]; omega
    generalize X ++ x :: (B ++ Y) = R at *
    by_cases hyx : y.t < x.t
    · have c3 : decide (y.t - x.t < 0) = true := decide_eq_true (by omega)
      repeat' (first
        | (refine auS ?_)
        | (first | (simp only [c1, c3, w2, w3, k1, k2, k3, Int.toNat_natCast, Nat.zero_add, gx, gy]) | (with_reducible refine runR_call hcmp ?_))
        | (refine auD ?_)
        | (with_reducible refine runR_b (fun h => ?_) (fun h => ?_) <;> first | exact auH | simp only [h, runR_t, runR_f])
        | (with_reducible refine condK_bl ?_ ?_)
        | (with_reducible refine condK_b (fun h => ?_) (fun h => ?_) <;> first | exact auH | skip)
        | (first | (refine runR_n ⟨by omega, by omega⟩ ?_) | fail))
      (all_goals first | exact auP | skip)
      refine nx_loop ⟨(p + 1, v), ⟨by dsimp only; omega, h2, fun z hz => ?_, h4⟩, by dsimp only; omega, ?_⟩
      · have := o1 z hz
        omega
      refine le_mk ?_ ?_ (Nat.le_refl _)
      all_goals first | refine auE ?_ | exact auE0
      all_goals (repeat' (first | exact trivial | exact rfl | apply And.intro))
    · have c3 : decide (y.t - x.t < 0) = false := decide_eq_false (by omega)
      repeat' (first
        | (refine auS ?_)
        | (first | (simp only [c1, c3, w2, w3, k1, k2, k3, Int.toNat_natCast, Nat.zero_add, gx, gy]) | (with_reducible refine runR_call hcmp ?_))
        | (refine auD ?_)
        | (with_reducible refine runR_b (fun h => ?_) (fun h => ?_) <;> first | exact auH | simp only [h, runR_t, runR_f])
        | (with_reducible refine condK_bl ?_ ?_)
        | (with_reducible refine condK_b (fun h => ?_) (fun h => ?_) <;> first | exact auH | skip)
        | (first | (refine runR_n ⟨by omega, by omega⟩ ?_) | fail))
      (all_goals first | exact auP | skip)
      refine nx_loop ⟨(u, p), ⟨by dsimp only; omega, by dsimp only; omega, h3, fun z hz => ?_⟩, by dsimp only; omega, ?_⟩
      · have := o2 z hz
        omega
      refine le_mk ?_ ?_ (Nat.le_refl _)
      all_goals first | refine auE ?_ | exact auE0
      all_goals (repeat' (first | exact trivial | exact rfl | apply And.intro))
  · obtain rfl : u = v := by omega
    have c1 : decide (((X.length + 1 + u : Nat) : Int) < ((X.length + 1 + u : Nat) : Int)) = false := decide_eq_false (by omega)
    have hres : ssort ([x] ++ B) = B.take u ++ [x] ++ B.drop u := by
      have := ssort_left (x := x) (B1 := B.take u) (B2 := B.drop u) (by rw [List.take_append_drop]; exact hs) h3 h4
      rwa [List.take_append_drop] at this
    have w3 : IntKind.i64.wrap (((X.length + 1 + u : Nat) : Int) - 1) = ((X.length + u : Nat) : Int) := by rw [IntWalk.i64_in _ (by omega)]; omega
    repeat' (first
      | (refine auS ?_)
      | (simp only [c1])
      | (refine auD ?_)
      | (with_reducible refine runR_b (fun h => ?_) (fun h => ?_) <;> first | exact auH | simp only [h, runR_t, runR_f])
      | (with_reducible refine condK_bl ?_ ?_)
      | (with_reducible refine condK_b (fun h => ?_) (fun h => ?_) <;> first | exact auH | skip)
      | fail)
    refine go_loopH (α := Nat) (fun w => [(⟨.d0, .d1, .d5⟩, .v (.int .i64 ((X.length + w : Nat) : Int)))]) (fun w => [(0, some (rowO n ((X ++ B.take w) ++ x :: (B.drop w ++ Y))))]) (fun _ => Γ.g0) (fun w => u - w) (fun w => w ≤ u) 0 (Nat.zero_le _) ?_ ?_
    · skip
      refine le_mk ?_ ?_ (Nat.le_refl _)
      all_goals first | refine auE ?_ | exact auE0
      all_goals (repeat' (first | exact trivial | exact rfl | apply And.intro))
      all_goals simp
    intro w hw
    dsimp only at hw ⊢
    refine auL ?_
    by_cases hwu : w < u
    · obtain ⟨y, hy⟩ : ∃ y, B[w]? = some y := ⟨_, List.getElem?_eq_getElem (by omega)⟩
      have hd : B.drop w = y :: B.drop (w + 1) := by rw [List.drop_eq_getElem_cons (by omega), show B[w] = y from Option.some.inj ((List.getElem?_eq_getElem (by omega)).symm.trans hy)]
      rw [hd, show y :: B.drop (w + 1) ++ Y = y :: (B.drop (w + 1) ++ Y) from rfl]
      have c2 : decide (((X.length + w : Nat) : Int) < ((X.length + u : Nat) : Int)) = true := decide_eq_true (by omega)
      have hl1 : X.length + w = (X ++ B.take w).length := by simp only [List.length_append, List.length_take]; omega
      have hl2 : X.length + w + 1 = (X ++ B.take w ++ [x]).length := by simp only [List.length_append, List.length_take, List.length_singleton]; omega
      have hl3 : X.length + w + 1 = (X ++ B.take w ++ [y]).length := by simp only [List.length_append, List.length_take, List.length_singleton]; omega
      have hR2 : (X ++ B.take w) ++ x :: (y :: (B.drop (w + 1) ++ Y)) = (X ++ B.take w ++ [x]) ++ y :: (B.drop (w + 1) ++ Y) := by simp [List.append_assoc]
      have hR3 : (X ++ B.take w) ++ y :: (y :: (B.drop (w + 1) ++ Y)) = (X ++ B.take w ++ [y]) ++ y :: (B.drop (w + 1) ++ Y) := by simp [List.append_assoc]
      have hfin : (X ++ B.take w ++ [y]) ++ x :: (B.drop (w + 1) ++ Y) = (X ++ B.take (w + 1)) ++ x :: (B.drop (w + 1) ++ Y) := by rw [take_snoc hy]; simp [List.append_assoc]
      have g1 := mid_at (R := ((X ++ B.take w) ++ x :: (y :: (B.drop (w + 1) ++ Y)))) rfl hl1
      have g2 := mid_at hR2 hl2
      have s1 := mid_put y (R := ((X ++ B.take w) ++ x :: (y :: (B.drop (w + 1) ++ Y)))) rfl hl1
      have g3 := mid_at hR3 hl3
      have s2 := mid_put x hR3 hl3
      rw [hfin] at s2
      have hlr : (((X ++ B.take w) ++ x :: (y :: (B.drop (w + 1) ++ Y))).map Du.enc).length = N := by simp only [List.length_map, List.length_append, List.length_cons, List.length_take, List.length_drop]; omega
      have hlr2 : (((X ++ B.take w) ++ y :: (y :: (B.drop (w + 1) ++ Y))).map Du.enc).length = N := by simp only [List.length_map, List.length_append, List.length_cons, List.length_take, List.length_drop]; omega
      have w4 : IntKind.i64.wrap (((X.length + w : Nat) : Int) + 1) = ((X.length + w + 1 : Nat) : Int) := by rw [IntWalk.i64_in _ (by omega)]; omega
      generalize (X ++ B.take w) ++ x :: (y :: (B.drop (w + 1) ++ Y)) = R at *
      generalize (X ++ B.take w) ++ y :: (y :: (B.drop (w + 1) ++ Y)) = R2 at *
      repeat' (first
        | (refine auS ?_)
        | (simp only [c2, w3, w4, Int.toNat_natCast, Nat.zero_add, g1, g2, s1, s2])
        | (refine auD ?_)
        | (with_reducible refine runR_b (fun h => ?_) (fun h => ?_) <;> first | exact auH | simp only [h, runR_t, runR_f])
        | (with_reducible refine condK_bl ?_ ?_)
        | (with_reducible refine condK_b (fun h => ?_) (fun h => ?_) <;> first | exact auH | skip)
        | (first | (refine runR_n ⟨by omega, by omega⟩ ?_) | (refine runR_n ⟨by omega, by omega, rfl⟩ ?_) | fail))
      (all_goals first | exact auP | skip)
      refine nx_loop ⟨w + 1, hwu, by omega, ?_⟩
      refine le_mk ?_ ?_ (Nat.le_refl _)
      all_goals first | refine auE ?_ | exact auE0
      all_goals (repeat' (first | exact trivial | exact rfl | apply And.intro))
      rw [g3]
      exact congrArg (fun z => some (AObj.mk n 2 z)) s2
    · obtain rfl : w = u := by omega
      have c2 : decide (((X.length + w : Nat) : Int) < ((X.length + w : Nat) : Int)) = false := decide_eq_false (by omega)
      repeat' (first
        | (refine auS ?_)
        | (simp only [c2, w3])
        | (refine auD ?_)
        | (with_reducible refine runR_b (fun h => ?_) (fun h => ?_) <;> first | exact auH | simp only [h, runR_t, runR_f])
        | (with_reducible refine condK_bl ?_ ?_)
        | (with_reducible refine condK_b (fun h => ?_) (fun h => ?_) <;> first | exact auH | skip)
        | fail)
      (all_goals first | exact auP | skip)
      refine ret_h1 trivial trivial rfl rfl hn (nfLL_map (fun x => by simp [nfL, nfD])) ?_
      rw [hres]
      simp [List.append_assoc]
set_option maxHeartbeats 4000000 in
theorem symMerge2 (n : Nat) (X A : List Du) (x : Du) (Y : List Du) (h2 : 2 ≤ A.length) (hx : InR x) (hA : ∀ d ∈ A, InR d) (hs : SortedD A) (N : Nat) (hNe : N = X.length + A.length + 1 + Y.length) (hN : N ≤ 1099511627776) :
    HSpec Try.prog 41 [.sl 0 n 2 0 N false, .v (.int .i64 (X.length : Nat)), .v (.int .i64 ((X.length + A.length : Nat) : Int)), .v (.int .i64 ((X.length + A.length + 1 : Nat) : Int)), cmpF] [some (rowO n ((X ++ A) ++ x :: Y))] (fun d H => d = .tup [] ∧ H = [some (rowO n (X ++ (ssort (A ++ [x]) ++ Y)))]) := by
  refine hspec_fn Try.func41 rfl ok_slices_symMergeCmpFunc_api_Due okr_slices_symMergeCmpFunc_api_Due rfl (by kernel_rfl) ?_
  intro Γ hW0 hN0 hL0
  clear hW0
  unfold x_slices_symMergeCmpFunc_api_Due r_slices_symMergeCmpFunc_api_Due
  refine auC ?_
  have hn : n < Γ.g0 := hN0 0 _ rfl
  have c0 : decide (IntKind.i64.wrap (((X.length + A.length : Nat) : Int) - (X.length : Nat)) = 1) = false := decide_eq_false (by rw [IntWalk.i64_in _ (by omega)]; omega)
  have w1 : IntKind.i64.wrap (((X.length + A.length + 1 : Nat) : Int) - ((X.length + A.length : Nat) : Int)) = 1 := by rw [IntWalk.i64_in _ (by omega)]; omega
  have hxa : X.length + A.length = (X ++ A).length := by rw [List.length_append]
  have gx := mid_at (P := X ++ A) (x := x) (Q := Y) (R := (X ++ A) ++ x :: Y) rfl hxa
  have hrl : (((X ++ A) ++ x :: Y).map Du.enc).length = N := by simp only [List.length_map, List.length_append, List.length_cons]; omega
  repeat' (first
    | (refine auS ?_)
    | (simp only [c0, w1])
    | (refine auD ?_)
    | (with_reducible refine runR_b (fun h => ?_) (fun h => ?_) <;> first | exact auH | simp only [h, runR_t, runR_f])
    | (with_reducible refine condK_bl ?_ ?_)
    | (with_reducible refine condK_b (fun h => ?_) (fun h => ?_) <;> first | exact auH | skip)
    | fail)
  refine go_loopH (α := Nat × Nat) (fun q => [(⟨.d0, .d1, .d6⟩, .v (.int .i64 ((X.length + q.1 : Nat) : Int))), (⟨.d0, .d1, .d7⟩, .v (.int .i64 ((X.length + q.2 : Nat) : Int)))]) (fun _ => []) (fun _ => Γ.g0) (fun q => q.2 - q.1) (fun q => q.1 ≤ q.2 ∧ q.2 ≤ A.length ∧ (∀ y ∈ A.take q.1, y.t ≤ x.t) ∧ ∀ y ∈ A.drop q.2, x.t < y.t) (0, A.length) ⟨Nat.zero_le _, Nat.le_refl _, fun y hy => by simp at hy, fun y hy => by simp at hy⟩ ?_ ?_
  · skip
    refine le_mk ?_ ?_ (Nat.le_refl _)
    all_goals first | refine auE ?_ | exact auE0
    all_goals (repeat' (first | exact trivial | exact rfl | apply And.intro))
  rintro ⟨u, v⟩ ⟨h1, h2', h3, h4⟩
  dsimp only at h1 h2' h3 h4 ⊢
  refine auL ?_
  by_cases huv : u < v
  · have c1 : decide (((X.length + u : Nat) : Int) < ((X.length + v : Nat) : Int)) = true := decide_eq_true (by omega)
    have w2 : IntKind.i64.wrap (((X.length + u : Nat) : Int) + ((X.length + v : Nat) : Int)) = ((X.length + u + (X.length + v) : Nat) : Int) := by rw [IntWalk.i64_in _ (by omega)]; omega
    obtain ⟨k1, k2, k3⟩ := half_u (X.length + u + (X.length + v)) (by omega)
    have hh : (X.length + u + (X.length + v)) / 2 = X.length + (u + v) / 2 := by omega
    rw [hh] at k2 k3
    have hp : (u + v) / 2 < A.length := by omega
    have hpu : u ≤ (u + v) / 2 := by omega
    have hpv : (u + v) / 2 < v := by omega
    generalize (u + v) / 2 = p at *
    obtain ⟨y, hy⟩ : ∃ y, A[p]? = some y := ⟨_, List.getElem?_eq_getElem hp⟩
    have hyr := hA y (List.mem_of_getElem? hy)
    obtain ⟨o1, o2⟩ := sorted_at hs hy
    have hcut : (X ++ A) ++ x :: Y = (X ++ A.take p) ++ y :: (A.drop (p + 1) ++ x :: Y) := by
      conv => lhs; rw [cut_at hy]
      simp [List.append_assoc]
    have gy := mid_at hcut (k := X.length + p) (by simp only [List.length_append, List.length_take]; omega)
    have hcmp := cmp_spec x y hx hyr
    have w3 : IntKind.i64.wrap (((X.length + p : Nat) : Int) + 1) = ((X.length + (p + 1) : Nat) : Int) := by rw [IntWalk.i64_in _ (by omega)]; omega
    generalize (X ++ A) ++ x :: Y = R at *
    by_cases hyx : x.t < y.t
    · have c3 : decide (x.t - y.t < 0) = true := decide_eq_true (by omega)
      repeat' (first
        | (refine auS ?_)
        | (first | (simp only [c1, c3, w2, w3, k1, k2, k3, Int.toNat_natCast, Nat.zero_add, gx, gy]) | (with_reducible refine runR_call hcmp ?_))
        | (refine auD ?_)
        | (with_reducible refine runR_b (fun h => ?_) (fun h => ?_) <;> first | exact auH | simp only [h, runR_t, runR_f])
        | (with_reducible refine condK_bl ?_ ?_)
        | (with_reducible refine condK_b (fun h => ?_) (fun h => ?_) <;> first | exact auH | skip)
        | (first | (refine runR_n ⟨by omega, by omega⟩ ?_) | fail))
      (all_goals first | exact auP | skip)
      refine nx_loop ⟨(u, p), ⟨by dsimp only; omega, by dsimp only; omega, h3, fun z hz => ?_⟩, by dsimp only; omega, ?_⟩
      · have := o2 z hz
        omega
      refine le_mk ?_ ?_ (Nat.le_refl _)
      all_goals first | refine auE ?_ | exact auE0
      all_goals (repeat' (first | exact trivial | exact rfl | apply And.intro))
    · have c3 : decide (x.t - y.t < 0) = false := decide_eq_false (by omega)
      repeat' (first
        | (refine auS ?_)
        | (first | (simp only [c1, c3, w2, w3, k1, k2, k3, Int.toNat_natCast, Nat.zero_add, gx, gy]) | (with_reducible refine runR_call hcmp ?_))
        | (refine auD ?_)
        | (with_reducible refine runR_b (fun h => ?_) (fun h => ?_) <;> first | exact auH | simp only [h, runR_t, runR_f])
        | (with_reducible refine condK_bl ?_ ?_)
        | (with_reducible refine condK_b (fun h => ?_) (fun h => ?_) <;> first | exact auH | skip)
        | (first | (refine runR_n ⟨by omega, by omega⟩ ?_) | fail))
      (all_goals first | exact auP | skip)
      refine nx_loop ⟨(p + 1, v), ⟨by dsimp only; omega, h2', fun z hz => ?_, h4⟩, by dsimp only; omega, ?_⟩
      · have := o1 z hz
        omega
      refine le_mk ?_ ?_ (Nat.le_refl _)
      all_goals first | refine auE ?_ | exact auE0
      all_goals (repeat' (first | exact trivial | exact rfl | apply And.intro))
  · obtain rfl : u = v := by omega
    have c1 : decide (((X.length + u : Nat) : Int) < ((X.length + u : Nat) : Int)) = false := decide_eq_false (by omega)
    have hres : ssort (A ++ [x]) = A.take u ++ [x] ++ A.drop u := by
      have := ssort_right (x := x) (A1 := A.take u) (A2 := A.drop u) (by rw [List.take_append_drop]; exact hs) h3 h4
      rwa [List.take_append_drop] at this
    repeat' (first
      | (refine auS ?_)
      | (simp only [c1])
      | (refine auD ?_)
      | (with_reducible refine runR_b (fun h => ?_) (fun h => ?_) <;> first | exact auH | simp only [h, runR_t, runR_f])
      | (with_reducible refine condK_bl ?_ ?_)
      | (with_reducible refine condK_b (fun h => ?_) (fun h => ?_) <;> first | exact auH | skip)
      | fail)
    refine go_loopH (α := Nat) (fun w => [(⟨.d0, .d2, .d1⟩, .v (.int .i64 ((X.length + w : Nat) : Int)))]) (fun w => [(0, some (rowO n ((X ++ A.take w) ++ x :: (A.drop w ++ Y))))]) (fun _ => Γ.g0) (fun w => w - u) (fun w => u ≤ w ∧ w ≤ A.length) A.length ⟨h2', Nat.le_refl _⟩ ?_ ?_
    · skip
      refine le_mk ?_ ?_ (Nat.le_refl _)
      all_goals first | refine auE ?_ | exact auE0
      all_goals (repeat' (first | exact trivial | exact rfl | apply And.intro))
      all_goals simp
    rintro w ⟨hw, hw2⟩
    dsimp only at hw hw2 ⊢
    refine auL ?_
    by_cases hwu : u < w
    · obtain ⟨p, rfl⟩ : ∃ p, w = p + 1 := ⟨w - 1, by omega⟩
      obtain ⟨y, hy⟩ : ∃ y, A[p]? = some y := ⟨_, List.getElem?_eq_getElem (by omega)⟩
      rw [take_snoc hy]
      have c2 : decide (((X.length + u : Nat) : Int) < ((X.length + (p + 1) : Nat) : Int)) = true := decide_eq_true (by omega)
      have hl1 : X.length + p = (X ++ A.take p).length := by simp only [List.length_append, List.length_take]; omega
      have hl2 : X.length + (p + 1) = (X ++ (A.take p ++ [y])).length := by simp only [List.length_append, List.length_take, List.length_singleton]; omega
      have hR2 : (X ++ (A.take p ++ [y])) ++ x :: (A.drop (p + 1) ++ Y) = (X ++ A.take p) ++ y :: (x :: (A.drop (p + 1) ++ Y)) := by simp [List.append_assoc]
      have hR3 : (X ++ (A.take p ++ [y])) ++ y :: (A.drop (p + 1) ++ Y) = (X ++ A.take p) ++ y :: (y :: (A.drop (p + 1) ++ Y)) := by simp [List.append_assoc]
      have hfin : (X ++ A.take p) ++ x :: (y :: (A.drop (p + 1) ++ Y)) = (X ++ A.take p) ++ x :: (A.drop p ++ Y) := by
        rw [List.drop_eq_getElem_cons (show p < A.length by omega), show A[p] = y from Option.some.inj ((List.getElem?_eq_getElem (by omega)).symm.trans hy)]
        rfl
      have g1 := mid_at (R := ((X ++ (A.take p ++ [y])) ++ x :: (A.drop (p + 1) ++ Y))) rfl hl2
      have g2 := mid_at hR2 hl1
      have s1 := mid_put y (R := ((X ++ (A.take p ++ [y])) ++ x :: (A.drop (p + 1) ++ Y))) rfl hl2
      have g3 := mid_at hR3 hl1
      have s2 := mid_put x hR3 hl1
      rw [hfin] at s2
      have hlr : (((X ++ (A.take p ++ [y])) ++ x :: (A.drop (p + 1) ++ Y)).map Du.enc).length = N := by simp only [List.length_map, List.length_append, List.length_cons, List.length_take, List.length_drop, List.length_nil]; omega
      have hlr2 : (((X ++ (A.take p ++ [y])) ++ y :: (A.drop (p + 1) ++ Y)).map Du.enc).length = N := by simp only [List.length_map, List.length_append, List.length_cons, List.length_take, List.length_drop, List.length_nil]; omega
      have w4 : IntKind.i64.wrap (((X.length + (p + 1) : Nat) : Int) - 1) = ((X.length + p : Nat) : Int) := by rw [IntWalk.i64_in _ (by omega)]; omega
      generalize (X ++ (A.take p ++ [y])) ++ x :: (A.drop (p + 1) ++ Y) = R at *
      generalize (X ++ (A.take p ++ [y])) ++ y :: (A.drop (p + 1) ++ Y) = R2 at *
      repeat' (first
        | (refine auS ?_)
        | (simp only [c2, w4, Int.toNat_natCast, Nat.zero_add, g1, g2, s1, s2])
        | (refine auD ?_)
        | (with_reducible refine runR_b (fun h => ?_) (fun h => ?_) <;> first | exact auH | simp only [h, runR_t, runR_f])
        | (with_reducible refine condK_bl ?_ ?_)
        | (with_reducible refine condK_b (fun h => ?_) (fun h => ?_) <;> first | exact auH | skip)
        | (first | (refine runR_n ⟨by omega, by omega⟩ ?_) | (refine runR_n ⟨by omega, by omega, rfl⟩ ?_) | fail))
      (all_goals first | exact auP | skip)
      refine nx_loop ⟨p, ⟨by omega, by omega⟩, by omega, ?_⟩
      refine le_mk ?_ ?_ (Nat.le_refl _)
      all_goals first | refine auE ?_ | exact auE0
      all_goals (repeat' (first | exact trivial | exact rfl | apply And.intro))
      rw [g3]
      exact congrArg (fun z => some (AObj.mk n 2 z)) s2
    · obtain rfl : w = u := by omega
      have c2 : decide (((X.length + w : Nat) : Int) < ((X.length + w : Nat) : Int)) = false := decide_eq_false (by omega)
      repeat' (first
        | (refine auS ?_)
        | (simp only [c2])
        | (refine auD ?_)
        | (with_reducible refine runR_b (fun h => ?_) (fun h => ?_) <;> first | exact auH | simp only [h, runR_t, runR_f])
        | (with_reducible refine condK_bl ?_ ?_)
        | (with_reducible refine condK_b (fun h => ?_) (fun h => ?_) <;> first | exact auH | skip)
        | fail)
      (all_goals first | exact auP | skip)
      refine ret_h1 trivial trivial rfl rfl hn (nfLL_map (fun x => by simp [nfL, nfD])) ?_
      rw [hres]
      simp [List.append_assoc]
end Go.Proofs.Ytecnjhmpipfldaa
