/-
  A stable sort: merges of whatever pieces; the sort.
-/
import Derived.Test.YtecnjhmpipfldaaSortY
namespace Go.Proofs.Ytecnjhmpipfldaa
set_option linter.unusedVariables false
set_option linter.unusedSimpArgs false
theorem wrap_add {a b : Nat} (h : a + b ≤ 4398046511104) : IntKind.i64.wrap ((a : Int) + (b : Int)) = ((a + b : Nat) : Int) := by rw [IntWalk.i64_in _ (by omega)]; omega
theorem wrap_sub {a b : Nat} (h : a + b ≤ 4398046511104) : IntKind.i64.wrap (((a + b : Nat) : Int) - (a : Int)) = (b : Nat) := by rw [IntWalk.i64_in _ (by omega)]; omega
theorem wrap_one {a b : Nat} (h : a + b ≤ 1099511627776) : IntKind.i64.wrap (((a + b : Nat) : Int) + 1) = ((a + (b + 1) : Nat) : Int) := by rw [IntWalk.i64_in _ (by omega)]; omega
theorem sorted_take {A : List Du} (h : SortedD A) (k : Nat) : SortedD (A.take k) := h.sublist (List.take_sublist _ _)
theorem sorted_drop {A : List Du} (h : SortedD A) (k : Nat) : SortedD (A.drop k) := h.sublist (List.drop_sublist _ _)
/-- The facts that the search keeps, hidden from arithmetic. -/
def LoP (A B : List Du) (h lo s : Nat) : Prop := s = lo ∨ ∃ y z, B[h - s]? = some y ∧ A[s - 1]? = some z ∧ z.t ≤ y.t ∧ 0 < s
def HiP (A B : List Du) (h hi r : Nat) : Prop := r = hi ∨ ∃ y z, B[h - 1 - r]? = some y ∧ A[r]? = some z ∧ y.t < z.t
/-- What a call of symMerge says. -/
def SymS (n : Nat) (X A B Y : List Du) (N : Nat) : Prop :=
  HSpec Try.prog 41 [.sl 0 n 2 0 N false, .v (.int .i64 (X.length : Nat)), .v (.int .i64 ((X.length + A.length : Nat) : Int)), .v (.int .i64 ((X.length + A.length + B.length : Nat) : Int)), cmpF] [some (rowO n (X ++ (A ++ (B ++ Y))))] (fun d H => d = .tup [] ∧ H = [some (rowO n (X ++ (ssort (A ++ B) ++ Y)))])
set_option maxRecDepth 8000 in
set_option maxHeartbeats 8000000 in
theorem symMerge3 (n : Nat) (X A B Y : List Du) (hla : 2 ≤ A.length) (hlb : 2 ≤ B.length) (hA : ∀ d ∈ A, InR d) (hB : ∀ d ∈ B, InR d) (hsA : SortedD A) (hsB : SortedD B) (N : Nat) (hNe : N = X.length + A.length + B.length + Y.length) (hN : N ≤ 1099511627776)
    (ih : ∀ (X' A' B' Y' : List Du), A'.length + B'.length < A.length + B.length → 0 < A'.length → 0 < B'.length → (∀ d ∈ A', InR d) → (∀ d ∈ B', InR d) → SortedD A' → SortedD B' → N = X'.length + A'.length + B'.length + Y'.length → SymS n X' A' B' Y' N) : SymS n X A B Y N := by
  unfold SymS
  obtain ⟨h, hh⟩ : ∃ h, h = (A.length + B.length) / 2 := ⟨_, rfl⟩
  refine hspec_fn Try.func41 rfl ok_slices_symMergeCmpFunc_api_Due okr_slices_symMergeCmpFunc_api_Due rfl (by kernel_rfl) ?_
  intro Γ hW0 hN0 hL0
  clear hW0
  unfold x_slices_symMergeCmpFunc_api_Due r_slices_symMergeCmpFunc_api_Due
  refine auC ?_
  have hn : n < Γ.g0 := hN0 0 _ rfl
  have c0 : decide (IntKind.i64.wrap (((X.length + A.length : Nat) : Int) - (X.length : Nat)) = 1) = false := decide_eq_false (by rw [IntWalk.i64_in _ (by omega)]; omega)
  have c0' : decide (IntKind.i64.wrap (((X.length + A.length + B.length : Nat) : Int) - ((X.length + A.length : Nat) : Int)) = 1) = false := decide_eq_false (by rw [IntWalk.i64_in _ (by omega)]; omega)
  have w1 : IntKind.i64.wrap ((X.length : Int) + ((X.length + A.length + B.length : Nat) : Int)) = ((X.length + (X.length + A.length + B.length) : Nat) : Int) := by rw [IntWalk.i64_in _ (by omega)]; omega
  obtain ⟨k1, k2, k3⟩ := half_u (X.length + (X.length + A.length + B.length)) (by omega)
  have hmid : (X.length + (X.length + A.length + B.length)) / 2 = X.length + h := by omega
  rw [hmid] at k2 k3
  have w2 : IntKind.i64.wrap (((X.length + h : Nat) : Int) + ((X.length + A.length : Nat) : Int)) = ((X.length + h + (X.length + A.length) : Nat) : Int) := by rw [IntWalk.i64_in _ (by omega)]; omega
  obtain ⟨lo, hi, b1, b2, b3, b4, b5, b6, b7⟩ : ∃ lo hi : Nat, lo ≤ hi ∧ hi ≤ A.length ∧ hi ≤ h ∧ h - lo ≤ B.length ∧ (hi = h ∨ hi = A.length) ∧ (lo = 0 ∨ h - lo = B.length) ∧ ((h < A.length ∧ lo = h - B.length ∧ hi = h ∧ B.length ≤ h) ∨ (A.length ≤ h ∧ lo = 0 ∧ hi = A.length)) := by
    by_cases q : h < A.length
    · exact ⟨h - B.length, h, by omega, by omega, by omega, by omega, .inl rfl, by omega, .inl ⟨q, rfl, rfl, by omega⟩⟩
    · exact ⟨0, A.length, by omega, by omega, by omega, by omega, .inr rfl, .inl rfl, .inr ⟨by omega, rfl, rfl⟩⟩
  refine go_seq ?_
  repeat' (first
    | (with_reducible first | refine go_seqR ?_ | refine go_seqD ?_ | refine go_seqB ?_ | refine go_seqL ?_ | refine go_region ?_ | refine go_regionD mixed_ok ?_ | refine go_cond ?_ | refine go_skip ?_ | refine go_block ?_ | refine nx_code ?_ | refine nx_block ?_ | refine go_ret ?_ | refine nx_nil ?_ | refine go_exit ?_ | refine ex_code ?_ | refine ex_loop ?_ | refine ex_here ?_)
    | ((with_reducible refine ex_past ?_ ?_); (exact by decide))
    | ((with_reducible refine endD_intro ?_ ?_); (exact by kernel_rfl))
    | ((with_reducible refine runR_n ?_ ?_); exact auN)
    | (simp only [c0, c0', w1, k1, k2, k3, w2])
    | (refine auD ?_)
    | (with_reducible refine runR_b (fun h => ?_) (fun h => ?_) <;> first | exact auH | simp only [h, runR_t, runR_f])
    | (with_reducible refine condK_bl ?_ ?_)
    | (with_reducible refine condK_b (fun h => ?_) (fun h => ?_) <;> first | exact auH | skip)
    | fail)
  refine go_seq ?_
  repeat' (first
    | (with_reducible first | refine go_seqR ?_ | refine go_seqD ?_ | refine go_seqB ?_ | refine go_seqL ?_ | refine go_region ?_ | refine go_regionD mixed_ok ?_ | refine go_cond ?_ | refine go_skip ?_ | refine go_block ?_ | refine nx_code ?_ | refine nx_block ?_ | refine go_ret ?_ | refine nx_nil ?_ | refine go_exit ?_ | refine ex_code ?_ | refine ex_loop ?_ | refine ex_here ?_)
    | ((with_reducible refine ex_past ?_ ?_); (exact by decide))
    | ((with_reducible refine endD_intro ?_ ?_); (exact by kernel_rfl))
    | ((with_reducible refine runR_n ?_ ?_); exact auN)
    | (simp only [c0, c0', w1, k1, k2, k3, w2])
    | (refine auD ?_)
    | (with_reducible refine runR_b (fun h => ?_) (fun h => ?_) <;> first | exact auH | simp only [h, runR_t, runR_f])
    | (with_reducible refine condK_bl ?_ ?_)
    | (with_reducible refine condK_b (fun h => ?_) (fun h => ?_) <;> first | exact auH | skip)
    | fail)
  refine go_midH (α := Unit) (fun _ => [(⟨.d0, .d2, .d4⟩, .v (.int .i64 ((X.length + lo : Nat) : Int))), (⟨.d0, .d2, .d5⟩, .v (.int .i64 ((X.length + hi : Nat) : Int)))]) (fun _ => []) (fun _ => Γ.g0) (fun _ => True) ?_ ?_
  · rcases b7 with ⟨q1, q2, q3, q4⟩ | ⟨q1, q2, q3⟩
    · have d1 : decide (((X.length + h : Nat) : Int) < ((X.length + A.length : Nat) : Int)) = true := decide_eq_true (by omega)
      have w3 : IntKind.i64.wrap (((X.length + h + (X.length + A.length) : Nat) : Int) - ((X.length + A.length + B.length : Nat) : Int)) = ((X.length + lo : Nat) : Int) := by rw [IntWalk.i64_in _ (by omega)]; omega
      repeat' (first
        | (refine auS ?_)
        | (simp only [d1, w3])
        | (refine auD ?_)
        | (with_reducible refine runR_b (fun h => ?_) (fun h => ?_) <;> first | exact auH | simp only [h, runR_t, runR_f])
        | (with_reducible refine condK_bl ?_ ?_)
        | (with_reducible refine condK_b (fun h => ?_) (fun h => ?_) <;> first | exact auH | skip)
        | fail)
      (all_goals first | exact auP | skip)
      refine nx_loop ⟨(), trivial, ?_⟩
      refine le_mk ?_ ?_ (Nat.le_refl _)
      all_goals first | refine auE ?_ | exact auE0
      all_goals (repeat' (first | exact trivial | exact rfl | apply And.intro))
      rw [q3]
    · have d1 : decide (((X.length + h : Nat) : Int) < ((X.length + A.length : Nat) : Int)) = false := decide_eq_false (by omega)
      repeat' (first
        | (refine auS ?_)
        | (simp only [d1])
        | (refine auD ?_)
        | (with_reducible refine runR_b (fun h => ?_) (fun h => ?_) <;> first | exact auH | simp only [h, runR_t, runR_f])
        | (with_reducible refine condK_bl ?_ ?_)
        | (with_reducible refine condK_b (fun h => ?_) (fun h => ?_) <;> first | exact auH | skip)
        | fail)
      (all_goals first | exact auP | skip)
      refine nx_loop ⟨(), trivial, ?_⟩
      refine le_mk ?_ ?_ (Nat.le_refl _)
      all_goals first | refine auE ?_ | exact auE0
      all_goals (repeat' (first | exact trivial | exact rfl | apply And.intro))
      · rw [q2]; rfl
      · rw [q3]
  rintro ⟨⟩ -
  refine auL ?_
  have w4 : IntKind.i64.wrap (((X.length + h + (X.length + A.length) : Nat) : Int) - 1) = ((X.length + h + (X.length + A.length) - 1 : Nat) : Int) := by rw [IntWalk.i64_in _ (by omega)]; omega
  repeat' (first
    | (with_reducible first | refine go_seqR ?_ | refine go_seqD ?_ | refine go_seqB ?_ | refine go_seqL ?_ | refine go_region ?_ | refine go_regionD mixed_ok ?_ | refine go_cond ?_ | refine go_skip ?_ | refine go_block ?_ | refine nx_code ?_ | refine nx_block ?_ | refine go_ret ?_ | refine nx_nil ?_ | refine go_exit ?_ | refine ex_code ?_ | refine ex_loop ?_ | refine ex_here ?_)
    | ((with_reducible refine ex_past ?_ ?_); (exact by decide))
    | ((with_reducible refine endD_intro ?_ ?_); (exact by kernel_rfl))
    | ((with_reducible refine runR_n ?_ ?_); exact auN)
    | (simp only [w4])
    | (refine auD ?_)
    | (with_reducible refine runR_b (fun h => ?_) (fun h => ?_) <;> first | exact auH | simp only [h, runR_t, runR_f])
    | (with_reducible refine condK_bl ?_ ?_)
    | (with_reducible refine condK_b (fun h => ?_) (fun h => ?_) <;> first | exact auH | skip)
    | fail)
  clear w1 k1 k2 k3 w2 w4 c0 c0' hmid
  refine go_loopH (α := Nat × Nat) (fun q => [(⟨.d0, .d2, .d4⟩, .v (.int .i64 ((X.length + q.1 : Nat) : Int))), (⟨.d0, .d2, .d5⟩, .v (.int .i64 ((X.length + q.2 : Nat) : Int)))]) (fun _ => []) (fun _ => Γ.g0) (fun q => q.2 - q.1) (fun q => lo ≤ q.1 ∧ q.1 ≤ q.2 ∧ q.2 ≤ hi ∧ LoP A B h lo q.1 ∧ HiP A B h hi q.2) (lo, hi) ⟨Nat.le_refl _, b1, Nat.le_refl _, .inl rfl, .inl rfl⟩ ?_ ?_
  · skip
    refine le_mk ?_ ?_ (Nat.le_refl _)
    all_goals first | refine auE ?_ | exact auE0
    all_goals (repeat' (first | exact trivial | exact rfl | apply And.intro))
  rintro ⟨s, r⟩ ⟨h1, h2, h3, h4, h5⟩
  dsimp only at h1 h2 h3 h4 h5 ⊢
  refine auL ?_
  by_cases hsr : s < r
  · have hc : (X.length + s + (X.length + r)) / 2 = X.length + (s + r) / 2 := by omega
    have hc1 : s ≤ (s + r) / 2 := by omega
    have hc2 : (s + r) / 2 < r := by omega
    have hc3 : h - 1 - (s + r) / 2 < B.length := by omega
    have hc4 : (s + r) / 2 < A.length := by omega
    have hc5 : (s + r) / 2 < h := by omega
    have c1 : decide (((X.length + s : Nat) : Int) < ((X.length + r : Nat) : Int)) = true := decide_eq_true (by omega)
    have hsum : X.length + s + (X.length + r) ≤ 4398046511104 := by omega
    generalize hcc : (s + r) / 2 = c at *
    have hpc : X.length + h + (X.length + A.length) - 1 = X.length + c + (X.length + A.length + (h - 1 - c)) := by omega
    have hbd : X.length + c + (X.length + A.length + (h - 1 - c)) ≤ 4398046511104 := by omega
    have hin1 : X.length + A.length + (h - 1 - c) < N := by omega
    have hin2 : X.length + c < N := by omega
    obtain ⟨y, hy⟩ : ∃ y, B[h - 1 - c]? = some y := ⟨_, List.getElem?_eq_getElem hc3⟩
    obtain ⟨z, hz⟩ : ∃ z, A[c]? = some z := ⟨_, List.getElem?_eq_getElem hc4⟩
    have hcmp := cmp_spec y z (hB y (List.mem_of_getElem? hy)) (hA z (List.mem_of_getElem? hz))
    have w5 : IntKind.i64.wrap (((X.length + s : Nat) : Int) + ((X.length + r : Nat) : Int)) = ((X.length + s + (X.length + r) : Nat) : Int) := wrap_add hsum
    obtain ⟨m1, m2, m3⟩ := half_u (X.length + s + (X.length + r)) hsum
    rw [hc] at m2 m3
    rw [hpc]
    have w6 : IntKind.i64.wrap (((X.length + c + (X.length + A.length + (h - 1 - c)) : Nat) : Int) - ((X.length + c : Nat) : Int)) = ((X.length + A.length + (h - 1 - c) : Nat) : Int) := wrap_sub hbd
    have w7 : IntKind.i64.wrap (((X.length + c : Nat) : Int) + 1) = ((X.length + (c + 1) : Nat) : Int) := wrap_one (Nat.le_trans (Nat.le_of_lt hin2) hN)
    have cutB : X ++ (A ++ (B ++ Y)) = (X ++ (A ++ B.take (h - 1 - c))) ++ y :: (B.drop (h - 1 - c + 1) ++ Y) := by
      conv => lhs; rw [cut_at hy]
      simp [List.append_assoc]
    have cutA : X ++ (A ++ (B ++ Y)) = (X ++ A.take c) ++ z :: (A.drop (c + 1) ++ (B ++ Y)) := by
      conv => lhs; rw [cut_at hz]
      simp [List.append_assoc]
    have gy := mid_at cutB (k := X.length + A.length + (h - 1 - c)) (by rw [List.length_append, List.length_append, List.length_take, Nat.min_eq_left (Nat.le_of_lt hc3), Nat.add_assoc])
    have gz := mid_at cutA (k := X.length + c) (by rw [List.length_append, List.length_take, Nat.min_eq_left (Nat.le_of_lt hc4)])
    have hrl : ((X ++ (A ++ (B ++ Y))).map Du.enc).length = N := by
      rw [List.length_map, List.length_append, List.length_append, List.length_append, hNe]
      simp only [Nat.add_assoc]
    have i1 : X.length + A.length + (h - 1 - c) < ((X ++ (A ++ (B ++ Y))).map Du.enc).length := by rw [hrl]; exact hin1
    have i2 : X.length + c < ((X ++ (A ++ (B ++ Y))).map Du.enc).length := by rw [hrl]; exact hin2
    generalize X ++ (A ++ (B ++ Y)) = R at *
    by_cases hyz : y.t < z.t
    · have c3 : decide (y.t - z.t < 0) = true := decide_eq_true (by omega)
      repeat' (first
        | (refine auS ?_)
        | (first | (simp only [c1, c3, w5, w6, w7, m1, m2, m3, Int.toNat_natCast, Nat.zero_add, gy, gz]) | (with_reducible refine runR_call hcmp ?_))
        | (refine auD ?_)
        | (with_reducible refine runR_b (fun h => ?_) (fun h => ?_) <;> first | exact auH | simp only [h, runR_t, runR_f])
        | (with_reducible refine condK_bl ?_ ?_)
        | (with_reducible refine condK_b (fun h => ?_) (fun h => ?_) <;> first | exact auH | skip)
        | (first | (refine runR_n ⟨Int.natCast_nonneg _, Int.ofNat_lt.2 hin1⟩ ?_) | (refine runR_n ⟨Int.natCast_nonneg _, Int.ofNat_lt.2 hin2⟩ ?_) | (refine runR_n ⟨i1, Nat.le_refl _⟩ ?_) | (refine runR_n ⟨i2, Nat.le_refl _⟩ ?_) | fail))
      refine nx_loop ⟨(s, c), ⟨h1, hc1, Nat.le_trans (Nat.le_of_lt hc2) h3, h4, .inr ⟨y, z, hy, hz, hyz⟩⟩, (by dsimp only; clear w5 w6 w7 m1 m2 m3 c1 c3 hcc hc hpc; omega), ?_⟩
      refine le_mk ?_ ?_ (Nat.le_refl _)
      all_goals first | refine auE ?_ | exact auE0
      all_goals (repeat' (first | exact trivial | exact rfl | apply And.intro))
    · have c3 : decide (y.t - z.t < 0) = false := decide_eq_false (by omega)
      repeat' (first
        | (refine auS ?_)
        | (first | (simp only [c1, c3, w5, w6, w7, m1, m2, m3, Int.toNat_natCast, Nat.zero_add, gy, gz]) | (with_reducible refine runR_call hcmp ?_))
        | (refine auD ?_)
        | (with_reducible refine runR_b (fun h => ?_) (fun h => ?_) <;> first | exact auH | simp only [h, runR_t, runR_f])
        | (with_reducible refine condK_bl ?_ ?_)
        | (with_reducible refine condK_b (fun h => ?_) (fun h => ?_) <;> first | exact auH | skip)
        | (first | (refine runR_n ⟨Int.natCast_nonneg _, Int.ofNat_lt.2 hin1⟩ ?_) | (refine runR_n ⟨Int.natCast_nonneg _, Int.ofNat_lt.2 hin2⟩ ?_) | (refine runR_n ⟨i1, Nat.le_refl _⟩ ?_) | (refine runR_n ⟨i2, Nat.le_refl _⟩ ?_) | fail))
      refine nx_loop ⟨(c + 1, r), ⟨Nat.le_trans (Nat.le_trans h1 hc1) (Nat.le_succ c), hc2, h3, .inr ⟨y, z, by rw [show h - (c + 1) = h - 1 - c by rw [Nat.sub_sub, Nat.add_comm]]; exact hy, hz, Int.not_lt.1 hyz, Nat.succ_pos c⟩, h5⟩, (by dsimp only; clear w5 w6 w7 m1 m2 m3 c1 c3 hcc hc hpc; omega), ?_⟩
      refine le_mk ?_ ?_ (Nat.le_refl _)
      all_goals first | refine auE ?_ | exact auE0
      all_goals (repeat' (first | exact trivial | exact rfl | apply And.intro))
  obtain rfl : s = r := by omega
  unfold LoP at h4
  unfold HiP at h5
  have hx : ∀ x ∈ A.drop s, ∀ y ∈ B.take (h - s), y.t < x.t := by
    rcases h5 with e | ⟨y, z, hy, hz, hyz⟩
    · rcases b5 with e2 | e2
      · rw [show h - s = 0 by omega]
        intro x _ y hy
        simp at hy
      · rw [List.drop_of_length_le (by omega)]
        intro x hx
        simp at hx
    · intro x hx' y' hy'
      have o1 := (sorted_at hsB hy).1
      have o2 := (sorted_at hsA hz).2
      rcases Nat.eq_zero_or_pos (h - s) with q | q
      · rw [q] at hy'
        simp at hy'
      · rw [show h - 1 - s + 1 = h - s by omega] at o1
        have := o1 y' hy'
        have := o2 x hx'
        omega
  have hlr : ∀ x ∈ A.take s, ∀ y ∈ B.drop (h - s), x.t ≤ y.t := by
    rcases h4 with e | ⟨y, z, hy, hz, hyz, hpos⟩
    · rcases b6 with e2 | e2
      · rw [show s = 0 by omega]
        intro x hx
        simp at hx
      · rw [List.drop_of_length_le (show B.length ≤ h - s by omega)]
        intro x _ y hy
        simp at hy
    · intro x hx' y' hy'
      have o1 := (sorted_at hsB hy).2
      have o2 := (sorted_at hsA hz).1
      rw [show s - 1 + 1 = s by omega] at o2
      have := o1 y' hy'
      have := o2 x hx'
      omega
  clear h4 h5
  have hres : ssort (A ++ B) = ssort (A.take s ++ B.take (h - s)) ++ ssort (A.drop s ++ B.drop (h - s)) := by
    have := ssort_mid (A1 := A.take s) (A2 := A.drop s) (B1 := B.take (h - s)) (B2 := B.drop (h - s)) (by rw [List.take_append_drop]; exact hsA) (by rw [List.take_append_drop]; exact hsB) hx hlr
    rwa [List.take_append_drop, List.take_append_drop] at this
  have lA1 : (A.take s).length = s := by rw [List.length_take]; omega
  have lA2 : (A.drop s).length = A.length - s := List.length_drop
  have lB1 : (B.take (h - s)).length = h - s := by rw [List.length_take]; omega
  have lB2 : (B.drop (h - s)).length = B.length - (h - s) := List.length_drop
  have hR0 : X ++ (A ++ (B ++ Y)) = X ++ (A.take s ++ (A.drop s ++ (B.take (h - s) ++ (B.drop (h - s) ++ Y)))) := by
    conv => lhs; rw [← List.take_append_drop s A, ← List.take_append_drop (h - s) B]
    simp only [List.append_assoc]
  have iA1 : ∀ d ∈ A.take s, InR d := fun d hd => hA d (List.mem_of_mem_take hd)
  have iA2 : ∀ d ∈ A.drop s, InR d := fun d hd => hA d (List.mem_of_mem_drop hd)
  have iB1 : ∀ d ∈ B.take (h - s), InR d := fun d hd => hB d (List.mem_of_mem_take hd)
  have iB2 : ∀ d ∈ B.drop (h - s), InR d := fun d hd => hB d (List.mem_of_mem_drop hd)
  have sA1 := sorted_take hsA s
  have sA2 := sorted_drop hsA s
  have sB1 := sorted_take hsB (h - s)
  have sB2 := sorted_drop hsB (h - s)
  rw [hR0]
  clear hR0
  have hA0 : A.length = s + (A.drop s).length := by omega
  have hB0 : B.length = (h - s) + (B.drop (h - s)).length := by omega
  have c1 : decide (((X.length + s : Nat) : Int) < ((X.length + s : Nat) : Int)) = false := decide_eq_false (by omega)
  have w8 : IntKind.i64.wrap (((X.length + h + (X.length + A.length) : Nat) : Int) - ((X.length + s : Nat) : Int)) = ((X.length + A.length + (h - s) : Nat) : Int) := by rw [IntWalk.i64_in _ (by omega)]; omega
  rw [hres]
  have hsh : s ≤ h := Nat.le_trans h3 b3
  have hh0 : 0 < h := by omega
  have hh1 : h < A.length + B.length := by omega
  have hAB : A.length + B.length ≤ 1099511627776 := by omega
  clear b1 b2 b3 b4 b5 b6 b7 h1 h2 h3 hsr hh
  generalize A.take s = A1 at *
  generalize A.drop s = A2 at *
  generalize B.take (h - s) = B1 at *
  generalize B.drop (h - s) = B2 at *
  refine go_seq ?_
  repeat' (first
    | (with_reducible first | refine go_seqR ?_ | refine go_seqD ?_ | refine go_seqB ?_ | refine go_seqL ?_ | refine go_region ?_ | refine go_regionD mixed_ok ?_ | refine go_cond ?_ | refine go_skip ?_ | refine go_block ?_ | refine nx_code ?_ | refine nx_block ?_ | refine go_ret ?_ | refine nx_nil ?_ | refine go_exit ?_ | refine ex_code ?_ | refine ex_loop ?_ | refine ex_here ?_)
    | ((with_reducible refine ex_past ?_ ?_); (exact by decide))
    | ((with_reducible refine endD_intro ?_ ?_); (exact by kernel_rfl))
    | ((with_reducible refine runR_n ?_ ?_); exact auN)
    | (simp only [c1, w8])
    | (refine auD ?_)
    | (with_reducible refine runR_b (fun h => ?_) (fun h => ?_) <;> first | exact auH | simp only [h, runR_t, runR_f])
    | (with_reducible refine condK_bl ?_ ?_)
    | (with_reducible refine condK_b (fun h => ?_) (fun h => ?_) <;> first | exact auH | skip)
    | fail)
  refine go_midH (α := Unit) (fun _ => []) (fun _ => [(0, some (rowO n (X ++ (A1 ++ (B1 ++ (A2 ++ (B2 ++ Y)))))))]) (fun _ => Γ.g0) (fun _ => True) ?_ ?_
  · by_cases q : s < A.length
    · have d1 : decide (((X.length + s : Nat) : Int) < ((X.length + A.length : Nat) : Int)) = true := decide_eq_true (by omega)
      by_cases q2 : s < h
      · have d2 : decide (((X.length + A.length : Nat) : Int) < ((X.length + A.length + (h - s) : Nat) : Int)) = true := decide_eq_true (by omega)
        have hrot := rotate_spec 0 n (X ++ A1) A2 B1 (B2 ++ Y) (by omega) (by omega) N (by rw [List.length_append, List.length_append]; omega) hN
        simp only [List.length_append, List.append_assoc, lA1] at hrot
        rw [show X.length + s + A2.length = X.length + A.length by omega, lB1] at hrot
        repeat' (first
          | (refine auS ?_)
          | (first | (simp only [d1, d2]) | ((with_reducible refine runR_callH 0 ?_ hrot (fun _ _ _ h => h) ?_); (exact rfl)))
          | (refine auD ?_)
          | (with_reducible refine runR_b (fun h => ?_) (fun h => ?_) <;> first | exact auH | simp only [h, runR_t, runR_f])
          | (with_reducible refine condK_bl ?_ ?_)
          | (with_reducible refine condK_b (fun h => ?_) (fun h => ?_) <;> first | exact auH | skip)
          | fail)
        (all_goals first | exact auP | skip)
        all_goals (refine nx_loop ⟨(), trivial, ?_⟩; (refine le_mk ?_ ?_ (Nat.le_refl _)); (all_goals first | refine auE ?_ | exact auE0); (all_goals (repeat' (first | exact trivial | exact rfl | apply And.intro))))
      · have d2 : decide (((X.length + A.length : Nat) : Int) < ((X.length + A.length + (h - s) : Nat) : Int)) = false := decide_eq_false (by omega)
        obtain rfl : B1 = [] := List.length_eq_zero_iff.1 (by omega)
        repeat' (first
          | (refine auS ?_)
          | (simp only [d1, d2])
          | (refine auD ?_)
          | (with_reducible refine runR_b (fun h => ?_) (fun h => ?_) <;> first | exact auH | simp only [h, runR_t, runR_f])
          | (with_reducible refine condK_bl ?_ ?_)
          | (with_reducible refine condK_b (fun h => ?_) (fun h => ?_) <;> first | exact auH | skip)
          | fail)
        (all_goals first | exact auP | skip)
        all_goals (refine nx_loop ⟨(), trivial, ?_⟩; (refine le_mk ?_ ?_ (Nat.le_refl _)); (all_goals first | refine auE ?_ | exact auE0); (all_goals (repeat' (first | exact trivial | exact rfl | apply And.intro))))
    · have d1 : decide (((X.length + s : Nat) : Int) < ((X.length + A.length : Nat) : Int)) = false := decide_eq_false (by omega)
      obtain rfl : A2 = [] := List.length_eq_zero_iff.1 (by omega)
      repeat' (first
        | (refine auS ?_)
        | (simp only [d1])
        | (refine auD ?_)
        | (with_reducible refine runR_b (fun h => ?_) (fun h => ?_) <;> first | exact auH | simp only [h, runR_t, runR_f])
        | (with_reducible refine condK_bl ?_ ?_)
        | (with_reducible refine condK_b (fun h => ?_) (fun h => ?_) <;> first | exact auH | skip)
        | fail)
      (all_goals first | exact auP | skip)
      all_goals (refine nx_loop ⟨(), trivial, ?_⟩; (refine le_mk ?_ ?_ (Nat.le_refl _)); (all_goals first | refine auE ?_ | exact auE0); (all_goals (repeat' (first | exact trivial | exact rfl | apply And.intro))))
  rintro ⟨⟩ -
  refine auL ?_
  refine go_midH (α := Unit) (fun _ => []) (fun _ => [(0, some (rowO n (X ++ (ssort (A1 ++ B1) ++ (A2 ++ (B2 ++ Y))))))]) (fun _ => Γ.g0) (fun _ => True) ?_ ?_
  · by_cases q : 0 < s
    · have d1 : decide (((X.length : Nat) : Int) < ((X.length + s : Nat) : Int)) = true := decide_eq_true (by omega)
      by_cases q2 : s < h
      · have d2 : decide (((X.length + s : Nat) : Int) < ((X.length + h : Nat) : Int)) = true := decide_eq_true (by omega)
        have hrec := ih X A1 B1 (A2 ++ (B2 ++ Y)) (by omega) (by omega) (by omega) iA1 iB1 sA1 sB1 (by rw [List.length_append, List.length_append]; omega)
        unfold SymS at hrec
        rw [lA1, lB1, show X.length + s + (h - s) = X.length + h by omega] at hrec
        repeat' (first
          | (refine auS ?_)
          | (first | (simp only [d1, d2]) | ((with_reducible refine runR_callH 0 ?_ hrec (fun _ _ _ h => h) ?_); (exact rfl)))
          | (refine auD ?_)
          | (with_reducible refine runR_b (fun h => ?_) (fun h => ?_) <;> first | exact auH | simp only [h, runR_t, runR_f])
          | (with_reducible refine condK_bl ?_ ?_)
          | (with_reducible refine condK_b (fun h => ?_) (fun h => ?_) <;> first | exact auH | skip)
          | fail)
        (all_goals first | exact auP | skip)
        all_goals (refine nx_loop ⟨(), trivial, ?_⟩; (refine le_mk ?_ ?_ (Nat.le_refl _)); (all_goals first | refine auE ?_ | exact auE0); (all_goals (repeat' (first | exact trivial | exact rfl | apply And.intro))))
      · have d2 : decide (((X.length + s : Nat) : Int) < ((X.length + h : Nat) : Int)) = false := decide_eq_false (by omega)
        obtain rfl : B1 = [] := List.length_eq_zero_iff.1 (by omega)
        rw [List.append_nil, ssort_sorted sA1]
        repeat' (first
          | (refine auS ?_)
          | (simp only [d1, d2])
          | (refine auD ?_)
          | (with_reducible refine runR_b (fun h => ?_) (fun h => ?_) <;> first | exact auH | simp only [h, runR_t, runR_f])
          | (with_reducible refine condK_bl ?_ ?_)
          | (with_reducible refine condK_b (fun h => ?_) (fun h => ?_) <;> first | exact auH | skip)
          | fail)
        (all_goals first | exact auP | skip)
        all_goals (refine nx_loop ⟨(), trivial, ?_⟩; (refine le_mk ?_ ?_ (Nat.le_refl _)); (all_goals first | refine auE ?_ | exact auE0); (all_goals (repeat' (first | exact trivial | exact rfl | apply And.intro))))
    · have d1 : decide (((X.length : Nat) : Int) < ((X.length + s : Nat) : Int)) = false := decide_eq_false (by omega)
      obtain rfl : A1 = [] := List.length_eq_zero_iff.1 (by omega)
      rw [List.nil_append, ssort_sorted sB1]
      repeat' (first
        | (refine auS ?_)
        | (simp only [d1])
        | (refine auD ?_)
        | (with_reducible refine runR_b (fun h => ?_) (fun h => ?_) <;> first | exact auH | simp only [h, runR_t, runR_f])
        | (with_reducible refine condK_bl ?_ ?_)
        | (with_reducible refine condK_b (fun h => ?_) (fun h => ?_) <;> first | exact auH | skip)
        | fail)
      (all_goals first | exact auP | skip)
      all_goals (refine nx_loop ⟨(), trivial, ?_⟩; (refine le_mk ?_ ?_ (Nat.le_refl _)); (all_goals first | refine auE ?_ | exact auE0); (all_goals (repeat' (first | exact trivial | exact rfl | apply And.intro))))
  rintro ⟨⟩ -
  refine auL ?_
  have lS : (ssort (A1 ++ B1)).length = h := by rw [ssort_len, List.length_append]; omega
  generalize ssort (A1 ++ B1) = S at *
  by_cases q : h < A.length + (h - s)
  · have d1 : decide (((X.length + h : Nat) : Int) < ((X.length + A.length + (h - s) : Nat) : Int)) = true := decide_eq_true (by omega)
    by_cases q2 : h - s < B.length
    · have d2 : decide (((X.length + A.length + (h - s) : Nat) : Int) < ((X.length + A.length + B.length : Nat) : Int)) = true := decide_eq_true (by omega)
      have hrec := ih (X ++ S) A2 B2 Y (by omega) (by omega) (by omega) iA2 iB2 sA2 sB2 (by rw [List.length_append]; omega)
      unfold SymS at hrec
      simp only [List.length_append, List.append_assoc, lS] at hrec
      rw [show X.length + h + A2.length = X.length + A.length + (h - s) by omega, show X.length + A.length + (h - s) + B2.length = X.length + A.length + B.length by omega] at hrec
      repeat' (first
        | (refine auS ?_)
        | (first | (simp only [d1, d2]) | ((with_reducible refine runR_callH 0 ?_ hrec (fun _ _ _ h => h) ?_); (exact rfl)))
        | (refine auD ?_)
        | (with_reducible refine runR_b (fun h => ?_) (fun h => ?_) <;> first | exact auH | simp only [h, runR_t, runR_f])
        | (with_reducible refine condK_bl ?_ ?_)
        | (with_reducible refine condK_b (fun h => ?_) (fun h => ?_) <;> first | exact auH | skip)
        | fail)
      (all_goals first | exact auP | skip)
      refine ret_h1 trivial trivial rfl rfl hn (nfLL_map (fun x => by simp [nfL, nfD])) ?_
      rw [List.append_assoc]
    · have d2 : decide (((X.length + A.length + (h - s) : Nat) : Int) < ((X.length + A.length + B.length : Nat) : Int)) = false := decide_eq_false (by omega)
      obtain rfl : B2 = [] := List.length_eq_zero_iff.1 (by omega)
      rw [List.append_nil, ssort_sorted sA2]
      repeat' (first
        | (refine auS ?_)
        | (simp only [d1, d2])
        | (refine auD ?_)
        | (with_reducible refine runR_b (fun h => ?_) (fun h => ?_) <;> first | exact auH | simp only [h, runR_t, runR_f])
        | (with_reducible refine condK_bl ?_ ?_)
        | (with_reducible refine condK_b (fun h => ?_) (fun h => ?_) <;> first | exact auH | skip)
        | fail)
      (all_goals first | exact auP | skip)
      refine ret_h1 trivial trivial rfl rfl hn (nfLL_map (fun x => by simp [nfL, nfD])) ?_
      rw [List.append_assoc]
      rfl
  · have d1 : decide (((X.length + h : Nat) : Int) < ((X.length + A.length + (h - s) : Nat) : Int)) = false := decide_eq_false (by omega)
    obtain rfl : A2 = [] := List.length_eq_zero_iff.1 (by omega)
    rw [List.nil_append, ssort_sorted sB2]
    repeat' (first
      | (refine auS ?_)
      | (simp only [d1])
      | (refine auD ?_)
      | (with_reducible refine runR_b (fun h => ?_) (fun h => ?_) <;> first | exact auH | simp only [h, runR_t, runR_f])
      | (with_reducible refine condK_bl ?_ ?_)
      | (with_reducible refine condK_b (fun h => ?_) (fun h => ?_) <;> first | exact auH | skip)
      | fail)
    (all_goals first | exact auP | skip)
    refine ret_h1 trivial trivial rfl rfl hn (nfLL_map (fun x => by simp [nfL, nfD])) ?_
    rw [List.append_assoc]
    rfl
end Go.Proofs.Ytecnjhmpipfldaa
