/-
  Set and Stop in the reference.
-/
import Derived.Test.YtecnjhmpipfldaaWheelW
namespace Go.Proofs.Ytecnjhmpipfldaa
set_option linter.unusedVariables false
set_option linter.unusedSimpArgs false
theorem rset1_spec (d : Du) (id : Int) : Spec Try.prog 22 [.agg d.enc, .rptr [.v (.int .i64 id)]] (.v (.bool (decide (d.id = id)))) := by
  refine hspec_fn Try.func22 rfl ok_custref_WheelSet_1 okr_custref_WheelSet_1 rfl (by kernel_rfl) ?_
  intro Γ hW0 hN0 hL0
  have hW := hW0 rfl
  clear hW0 hN0 hL0
  unfold x_custref_WheelSet_1 r_custref_WheelSet_1
  refine auC ?_
  dsimp only [Du.enc]
  repeat' (first
    | (refine auS ?_)
    | fail
    | (refine auD ?_)
    | (with_reducible refine runR_b (fun h => ?_) (fun h => ?_) <;> first | exact auH | simp only [h, runR_t, runR_f])
    | (with_reducible refine condK_bl ?_ ?_)
    | (with_reducible refine condK_b (fun h => ?_) (fun h => ?_) <;> first | exact auH | skip)
    | fail)
  all_goals refine auF ?_
  all_goals (try first | refine auR ?_ | exact auR0)
  all_goals (try simp only [hsM] at *)
theorem rstop1_spec (d : Du) (id : Int) : Spec Try.prog 27 [.agg d.enc, .rptr [.v (.int .i64 id)]] (.v (.bool (decide (d.id = id)))) := by
  refine hspec_fn Try.func27 rfl ok_custref_WheelStop_1 okr_custref_WheelStop_1 rfl (by kernel_rfl) ?_
  intro Γ hW0 hN0 hL0
  have hW := hW0 rfl
  clear hW0 hN0 hL0
  unfold x_custref_WheelStop_1 r_custref_WheelStop_1
  refine auC ?_
  dsimp only [Du.enc]
  repeat' (first
    | (refine auS ?_)
    | fail
    | (refine auD ?_)
    | (with_reducible refine runR_b (fun h => ?_) (fun h => ?_) <;> first | exact auH | simp only [h, runR_t, runR_f])
    | (with_reducible refine condK_bl ?_ ?_)
    | (with_reducible refine condK_b (fun h => ?_) (fun h => ?_) <;> first | exact auH | skip)
    | fail)
  all_goals refine auF ?_
  all_goals (try first | refine auR ?_ | exact auR0)
  all_goals (try simp only [hsM] at *)
set_option maxHeartbeats 4000000 in
theorem rset_bad2 (n : Nat) (id t : Int) (L : WL) (h96 : L.length = 96) (hz : ∀ l ∈ L, l.length ≤ 1407374) (h0 : wchk n L = 0) (ht : ¬ ((n : Int) + 1 ≤ t ∧ t ≤ 16777215)) : Spec Try.prog 6 [.agg (wcs n L), .v (.int .i64 id), .v (.int .i64 t)] (dW 0 noW 1) := by
  obtain ⟨c1, c2, c3, c4, c5⟩ := chk_zero h0
  have hchk := wright_spec n L h96 hz
  rw [h0] at hchk
  have hzm : ∀ l ∈ L, l.length ≤ maxLen := fun l hl => by have := hz l hl; unfold maxLen; omega
  obtain ⟨hA, hB, hL, hT, hG⟩ := snaps h96
  rw [ddrop0] at hT
  have hrep : (List.replicate 96 nilD).length = 96 := by simp
  have hra := rep_ones 96
  have hrb := lenB_of hrep
  have hzz := splice_len _ _ (Eq.refl (List.replicate 96 nilD).length)
  have hdz := dtake_of hrep
  have hall := allDue_spec 10 n L h96 hz
  have hfb : L.flatten.length ≤ maxLen := by unfold maxLen; omega
  have hxa : xtake (xdrop (L.flatten.map Du.enc) 0) L.flatten.length = L.flatten.map Du.enc := xall (List.length_map _).symm
  have hfl : (L.flatten.map Du.enc).length = L.flatten.length := List.length_map _
  have w1 : IntKind.i64.wrap ((n : Int) + 1) = (n : Int) + 1 := IntWalk.i64_in _ (by omega)
  have hbt := between_spec t (n + 1) 16777215
  have hcon := contains_spec (g := 22) (caps := [.rptr [.v (.int .i64 id)]]) (fun o => decide (o.id = id)) L.flatten false hfb (fun o _ => rset1_spec o id)
  rw [any_mem] at hcon
  have hfz : ∀ nl, frz2L ⟨nl, 2, L.flatten.map Du.enc⟩ [.sl 10 nl 2 0 L.flatten.length false, .fn (.func 22) [] [.rptr [.v (.int .i64 id)]]] [snapD L.flatten, .fn (.func 22) [] [.rptr [.v (.int .i64 id)]]] := fun nl => ⟨.inl ⟨rfl, rfl, by rw [List.length_map]; omega, by rw [hxa]⟩, ⟨rfl, rfl, rfl, rfl⟩, rfl⟩
  rw [decide_eq_false ht] at hbt
  refine bad_dW ?_
  unfold wcs at *
  generalize L.map snapD = X at *
  refine hspec_fn Try.func6 rfl ok_custref_WheelSet okr_custref_WheelSet rfl (by kernel_rfl) ?_
  intro Γ hW0 hN0 hL0
  have hW := hW0 rfl
  clear hW0 hN0 hL0
  unfold x_custref_WheelSet r_custref_WheelSet
  refine auC ?_
  repeat' (first
    | fail
    | (refine auS ?_)
    | (first | (simp only [hT, ddrop0, zv_eq, zv_len, hzz, splice_nil, w1]) | (with_reducible refine runR_call hchk ?_) | (with_reducible refine runR_callO 10 hall ?_) | (with_reducible refine runR_call hbt ?_))
    | (refine auD ?_)
    | (with_reducible refine runR_b (fun h => ?_) (fun h => ?_) <;> first | exact auH | simp only [h, runR_t, runR_f])
    | (with_reducible refine condK_bl ?_ ?_)
    | (with_reducible refine condK_b (fun h => ?_) (fun h => ?_) <;> first | exact auH | skip)
    | (first | (refine runR_n ⟨by simp only [hA, hB, allOne, lenB, oneD, oneV, andB], by decide⟩ ?_) | (refine runR_n ⟨by decide, by decide, by simp only [hra, hrb, allOne, lenB, oneD, oneV, andB]⟩ ?_) | fail))
  (all_goals first | exact auP | skip)
  have hnf : nfL Γ.g0 (dtake (List.replicate 96 nilD) 96) := by rw [hdz]; exact rep_nf _ _
  all_goals with_reducible refine ret_spec2 (by (try first | refine auR ?_ | exact auR0); (repeat' (first | exact trivial | exact rfl | exact hnf | decide | apply And.intro))) ?_
  all_goals (try first | refine auR ?_ | exact auR0)
  rw [hdz]
set_option maxHeartbeats 4000000 in
theorem rset_bad3 (n : Nat) (id t : Int) (L : WL) (h96 : L.length = 96) (hz : ∀ l ∈ L, l.length ≤ 1407374) (h0 : wchk n L = 0) (ht : (n : Int) + 1 ≤ t ∧ t ≤ 16777215) (hid : id ∈ L.flatten.map Du.id) : Spec Try.prog 6 [.agg (wcs n L), .v (.int .i64 id), .v (.int .i64 t)] (dW 0 noW 8) := by
  obtain ⟨c1, c2, c3, c4, c5⟩ := chk_zero h0
  have hchk := wright_spec n L h96 hz
  rw [h0] at hchk
  have hzm : ∀ l ∈ L, l.length ≤ maxLen := fun l hl => by have := hz l hl; unfold maxLen; omega
  obtain ⟨hA, hB, hL, hT, hG⟩ := snaps h96
  rw [ddrop0] at hT
  have hrep : (List.replicate 96 nilD).length = 96 := by simp
  have hra := rep_ones 96
  have hrb := lenB_of hrep
  have hzz := splice_len _ _ (Eq.refl (List.replicate 96 nilD).length)
  have hdz := dtake_of hrep
  have hall := allDue_spec 10 n L h96 hz
  have hfb : L.flatten.length ≤ maxLen := by unfold maxLen; omega
  have hxa : xtake (xdrop (L.flatten.map Du.enc) 0) L.flatten.length = L.flatten.map Du.enc := xall (List.length_map _).symm
  have hfl : (L.flatten.map Du.enc).length = L.flatten.length := List.length_map _
  have w1 : IntKind.i64.wrap ((n : Int) + 1) = (n : Int) + 1 := IntWalk.i64_in _ (by omega)
  have hbt := between_spec t (n + 1) 16777215
  have hcon := contains_spec (g := 22) (caps := [.rptr [.v (.int .i64 id)]]) (fun o => decide (o.id = id)) L.flatten false hfb (fun o _ => rset1_spec o id)
  rw [any_mem] at hcon
  have hfz : ∀ nl, frz2L ⟨nl, 2, L.flatten.map Du.enc⟩ [.sl 10 nl 2 0 L.flatten.length false, .fn (.func 22) [] [.rptr [.v (.int .i64 id)]]] [snapD L.flatten, .fn (.func 22) [] [.rptr [.v (.int .i64 id)]]] := fun nl => ⟨.inl ⟨rfl, rfl, by rw [List.length_map]; omega, by rw [hxa]⟩, ⟨rfl, rfl, rfl, rfl⟩, rfl⟩
  rw [decide_eq_true ht] at hbt
  rw [decide_eq_true hid] at hcon
  refine bad_dW ?_
  unfold wcs at *
  generalize L.map snapD = X at *
  refine hspec_fn Try.func6 rfl ok_custref_WheelSet okr_custref_WheelSet rfl (by kernel_rfl) ?_
  intro Γ hW0 hN0 hL0
  have hW := hW0 rfl
  clear hW0 hN0 hL0
  unfold x_custref_WheelSet r_custref_WheelSet
  refine auC ?_
  repeat' (first
    | (refine go_leG (leG_freezeP hW ⟨.d0, .d0, .d4⟩ rfl rfl ⟨rfl, rfl, Nat.succ_pos _⟩) ?_)
    | (refine auS ?_)
    | (first | (simp only [hT, ddrop0, zv_eq, zv_len, hzz, splice_nil, w1]) | (with_reducible refine runR_call hchk ?_) | (with_reducible refine runR_callO 10 hall ?_) | (with_reducible refine runR_call hbt ?_) | (refine runR_callF 10 rfl hcon (hfz _) rfl ?_))
    | (refine auD ?_)
    | (with_reducible refine runR_b (fun h => ?_) (fun h => ?_) <;> first | exact auH | simp only [h, runR_t, runR_f])
    | (with_reducible refine condK_bl ?_ ?_)
    | (with_reducible refine condK_b (fun h => ?_) (fun h => ?_) <;> first | exact auH | skip)
    | (first | (refine runR_n ⟨by simp only [hA, hB, allOne, lenB, oneD, oneV, andB], by decide⟩ ?_) | (refine runR_n ⟨by decide, by decide, by simp only [hra, hrb, allOne, lenB, oneD, oneV, andB]⟩ ?_) | fail))
  (all_goals first | exact auP | skip)
  have hnf : nfL Γ.g0 (dtake (List.replicate 96 nilD) 96) := by rw [hdz]; exact rep_nf _ _
  all_goals with_reducible refine ret_spec2 (by (try first | refine auR ?_ | exact auR0); (repeat' (first | exact trivial | exact rfl | exact hnf | decide | apply And.intro))) ?_
  all_goals (try first | refine auR ?_ | exact auR0)
  rw [hdz]
set_option maxHeartbeats 4000000 in
theorem rset_bad4 (n : Nat) (id t : Int) (L : WL) (h96 : L.length = 96) (hz : ∀ l ∈ L, l.length ≤ 1407374) (h0 : wchk n L = 0) (ht : (n : Int) + 1 ≤ t ∧ t ≤ 16777215) (hid : id ∉ L.flatten.map Du.id) (hlen : L.flatten.length = 500) : Spec Try.prog 6 [.agg (wcs n L), .v (.int .i64 id), .v (.int .i64 t)] (dW 0 noW 6) := by
  obtain ⟨c1, c2, c3, c4, c5⟩ := chk_zero h0
  have hchk := wright_spec n L h96 hz
  rw [h0] at hchk
  have hzm : ∀ l ∈ L, l.length ≤ maxLen := fun l hl => by have := hz l hl; unfold maxLen; omega
  obtain ⟨hA, hB, hL, hT, hG⟩ := snaps h96
  rw [ddrop0] at hT
  have hrep : (List.replicate 96 nilD).length = 96 := by simp
  have hra := rep_ones 96
  have hrb := lenB_of hrep
  have hzz := splice_len _ _ (Eq.refl (List.replicate 96 nilD).length)
  have hdz := dtake_of hrep
  have hall := allDue_spec 10 n L h96 hz
  have hfb : L.flatten.length ≤ maxLen := by unfold maxLen; omega
  have hxa : xtake (xdrop (L.flatten.map Du.enc) 0) L.flatten.length = L.flatten.map Du.enc := xall (List.length_map _).symm
  have hfl : (L.flatten.map Du.enc).length = L.flatten.length := List.length_map _
  have w1 : IntKind.i64.wrap ((n : Int) + 1) = (n : Int) + 1 := IntWalk.i64_in _ (by omega)
  have hbt := between_spec t (n + 1) 16777215
  have hcon := contains_spec (g := 22) (caps := [.rptr [.v (.int .i64 id)]]) (fun o => decide (o.id = id)) L.flatten false hfb (fun o _ => rset1_spec o id)
  rw [any_mem] at hcon
  have hfz : ∀ nl, frz2L ⟨nl, 2, L.flatten.map Du.enc⟩ [.sl 10 nl 2 0 L.flatten.length false, .fn (.func 22) [] [.rptr [.v (.int .i64 id)]]] [snapD L.flatten, .fn (.func 22) [] [.rptr [.v (.int .i64 id)]]] := fun nl => ⟨.inl ⟨rfl, rfl, by rw [List.length_map]; omega, by rw [hxa]⟩, ⟨rfl, rfl, rfl, rfl⟩, rfl⟩
  rw [decide_eq_true ht] at hbt
  rw [decide_eq_false hid] at hcon
  have q3 : decide (((L.flatten.length : Nat) : Int) = 500) = true := decide_eq_true (by omega)
  refine bad_dW ?_
  unfold wcs at *
  generalize L.map snapD = X at *
  refine hspec_fn Try.func6 rfl ok_custref_WheelSet okr_custref_WheelSet rfl (by kernel_rfl) ?_
  intro Γ hW0 hN0 hL0
  have hW := hW0 rfl
  clear hW0 hN0 hL0
  unfold x_custref_WheelSet r_custref_WheelSet
  refine auC ?_
  repeat' (first
    | (refine go_leG (leG_freezeP hW ⟨.d0, .d0, .d4⟩ rfl rfl ⟨rfl, rfl, Nat.succ_pos _⟩) ?_)
    | (refine auS ?_)
    | (first | (simp only [hT, ddrop0, zv_eq, zv_len, hzz, splice_nil, w1, q3]) | (with_reducible refine runR_call hchk ?_) | (with_reducible refine runR_callO 10 hall ?_) | (with_reducible refine runR_call hbt ?_) | (refine runR_callF 10 rfl hcon (hfz _) rfl ?_))
    | (refine auD ?_)
    | (with_reducible refine runR_b (fun h => ?_) (fun h => ?_) <;> first | exact auH | simp only [h, runR_t, runR_f])
    | (with_reducible refine condK_bl ?_ ?_)
    | (with_reducible refine condK_b (fun h => ?_) (fun h => ?_) <;> first | exact auH | skip)
    | (first | (refine runR_n ⟨by simp only [hA, hB, allOne, lenB, oneD, oneV, andB], by decide⟩ ?_) | (refine runR_n ⟨by decide, by decide, by simp only [hra, hrb, allOne, lenB, oneD, oneV, andB]⟩ ?_) | fail))
  (all_goals first | exact auP | skip)
  have hnf : nfL Γ.g0 (dtake (List.replicate 96 nilD) 96) := by rw [hdz]; exact rep_nf _ _
  all_goals with_reducible refine ret_spec2 (by (try first | refine auR ?_ | exact auR0); (repeat' (first | exact trivial | exact rfl | exact hnf | decide | apply And.intro))) ?_
  all_goals (try first | refine auR ?_ | exact auR0)
  rw [hdz]
set_option maxHeartbeats 4000000 in
theorem rset_good (n : Nat) (id t : Int) (L : WL) (h96 : L.length = 96) (hz : ∀ l ∈ L, l.length ≤ 1407374) (h0 : wchk n L = 0) (ht : (n : Int) + 1 ≤ t ∧ t ≤ 16777215) (hid : id ∉ L.flatten.map Du.id) (hlen : L.flatten.length ≠ 500) : Spec Try.prog 6 [.agg (wcs n L), .v (.int .i64 id), .v (.int .i64 t)] (dW n (wof n (L.flatten ++ [⟨id, t⟩])) 0) := by
  obtain ⟨c1, c2, c3, c4, c5⟩ := chk_zero h0
  have hchk := wright_spec n L h96 hz
  rw [h0] at hchk
  have hzm : ∀ l ∈ L, l.length ≤ maxLen := fun l hl => by have := hz l hl; unfold maxLen; omega
  obtain ⟨hA, hB, hL, hT, hG⟩ := snaps h96
  rw [ddrop0] at hT
  have hrep : (List.replicate 96 nilD).length = 96 := by simp
  have hra := rep_ones 96
  have hrb := lenB_of hrep
  have hzz := splice_len _ _ (Eq.refl (List.replicate 96 nilD).length)
  have hdz := dtake_of hrep
  have hall := allDue_spec 10 n L h96 hz
  have hfb : L.flatten.length ≤ maxLen := by unfold maxLen; omega
  have hxa : xtake (xdrop (L.flatten.map Du.enc) 0) L.flatten.length = L.flatten.map Du.enc := xall (List.length_map _).symm
  have hfl : (L.flatten.map Du.enc).length = L.flatten.length := List.length_map _
  have w1 : IntKind.i64.wrap ((n : Int) + 1) = (n : Int) + 1 := IntWalk.i64_in _ (by omega)
  have hbt := between_spec t (n + 1) 16777215
  have hcon := contains_spec (g := 22) (caps := [.rptr [.v (.int .i64 id)]]) (fun o => decide (o.id = id)) L.flatten false hfb (fun o _ => rset1_spec o id)
  rw [any_mem] at hcon
  have hfz : ∀ nl, frz2L ⟨nl, 2, L.flatten.map Du.enc⟩ [.sl 10 nl 2 0 L.flatten.length false, .fn (.func 22) [] [.rptr [.v (.int .i64 id)]]] [snapD L.flatten, .fn (.func 22) [] [.rptr [.v (.int .i64 id)]]] := fun nl => ⟨.inl ⟨rfl, rfl, by rw [List.length_map]; omega, by rw [hxa]⟩, ⟨rfl, rfl, rfl, rfl⟩, rfl⟩
  rw [decide_eq_true ht] at hbt
  rw [decide_eq_false hid] at hcon
  have q3 : decide (((L.flatten.length : Nat) : Int) = 500) = false := decide_eq_false (by omega)
  have hwo := fun nl => wheelOf_lent 4 n (by omega) (L.flatten ++ [Du.mk id t]) (by simp only [List.length_append, List.length_singleton]; omega) (fun d hd => by
    rcases List.mem_append.1 hd with hd | hd
    · exact c4.1 d hd
    · simp at hd
      subst hd
      exact ⟨by dsimp only; omega, ht.2⟩) nl
  simp only [List.length_append, List.length_singleton, List.map_append, List.map_cons, List.map_nil] at hwo
  have hrm : room (L.flatten.length + 1) 16 := room_due (by omega)
  refine hspec_fn Try.func6 rfl ok_custref_WheelSet okr_custref_WheelSet rfl (by kernel_rfl) ?_
  intro Γ hW0 hN0 hL0
  have hW := hW0 rfl
  clear hW0 hN0 hL0
  unfold x_custref_WheelSet r_custref_WheelSet
  refine auC ?_
  have hlen' := wof_len n (L.flatten ++ [Du.mk id t])
  have hnf := snaps_nf (wof n (L.flatten ++ [Du.mk id t])) Γ.g0
  obtain ⟨oA, oB, -, -, -⟩ := snaps hlen'
  have hdt' := dtake_of (show ((wof n (L.flatten ++ [Du.mk id t])).map snapD).length = 96 by rw [List.length_map]; exact hlen')
  have hnf2 : nfL Γ.g0 (dtake ((wof n (L.flatten ++ [Du.mk id t])).map snapD) 96) := by rw [hdt']; exact hnf
  have hs3 := splice_len (List.replicate 96 nilD) ((wof n (L.flatten ++ [Du.mk id t])).map snapD) (by rw [hrep, List.length_map]; exact hlen'.symm)
  unfold dW wcs at *
  generalize (wof n (L.flatten ++ [Du.mk id t])).map snapD = Z at *
  repeat' (first
    | (refine go_leG (leG_freezeP hW ⟨.d0, .d0, .d4⟩ rfl rfl ⟨rfl, rfl, Nat.succ_pos _⟩) ?_)
    | (refine auS ?_)
    | (first | (simp only [hT, ddrop0, zv_eq, zv_len, hzz, splice_nil, w1, q3, hs3, hfl]) | (with_reducible refine runR_call hchk ?_) | (with_reducible refine runR_callO 10 hall ?_) | (with_reducible refine runR_call hbt ?_) | (refine runR_callF 10 rfl hcon (hfz _) rfl ?_) | ((with_reducible refine runR_callH 4 ?_ (hwo _) (fun _ _ _ h => h) ?_); (exact rfl)))
    | (refine auD ?_)
    | (with_reducible refine runR_b (fun h => ?_) (fun h => ?_) <;> first | exact auH | simp only [h, runR_t, runR_f])
    | (with_reducible refine condK_bl ?_ ?_)
    | (with_reducible refine condK_b (fun h => ?_) (fun h => ?_) <;> first | exact auH | skip)
    | (first | (refine runR_n ⟨by simp only [hA, hB, allOne, lenB, oneD, oneV, andB], by decide⟩ ?_) | (refine runR_n ⟨by decide, by decide, by simp only [hra, hrb, oA, oB, allOne, lenB, oneD, oneV, andB]⟩ ?_) | (refine runR_n ⟨rfl, rfl, rfl, rfl, hfl.symm⟩ ?_) | (refine runR_n ⟨rfl, hrm⟩ ?_) | fail))
  (all_goals first | exact auP | skip)
  all_goals with_reducible refine ret_spec2 (by (try first | refine auR ?_ | exact auR0); (repeat' (first | exact trivial | exact rfl | exact hnf2 | decide | apply And.intro))) ?_
  all_goals (try first | refine auR ?_ | exact auR0)
  rw [hdt']
theorem filter_all {id : Int} {F : List Du} (h : id ∉ F.map Du.id) : F.filter (fun t => !decide (t.id = id)) = F := List.filter_eq_self.2 fun x hx => by
  have : ¬ x.id = id := fun e => h (List.mem_map.2 ⟨x, hx, e⟩)
  simp [this]
theorem filter_some {id : Int} {F : List Du} (h : id ∈ F.map Du.id) : (F.filter (fun t => !decide (t.id = id))).length < F.length := by
  obtain ⟨x, hx, he⟩ := List.mem_map.1 h
  refine Nat.lt_of_le_of_ne (List.length_filter_le _ _) fun e => ?_
  have := List.length_filter_eq_length_iff.1 e x hx
  simp [he] at this
set_option maxHeartbeats 4000000 in
theorem rstop_bad2 (n : Nat) (id : Int) (L : WL) (h96 : L.length = 96) (hz : ∀ l ∈ L, l.length ≤ 1407374) (h0 : wchk n L = 0) (hid : id ∉ L.flatten.map Du.id) : Spec Try.prog 8 [.agg (wcs n L), .v (.int .i64 id)] (dW 0 noW 7) := by
  obtain ⟨c1, c2, c3, c4, c5⟩ := chk_zero h0
  have hchk := wright_spec n L h96 hz
  rw [h0] at hchk
  have hzm : ∀ l ∈ L, l.length ≤ maxLen := fun l hl => by have := hz l hl; unfold maxLen; omega
  obtain ⟨hA, hB, hL, hT, hG⟩ := snaps h96
  rw [ddrop0] at hT
  have hrep : (List.replicate 96 nilD).length = 96 := by simp
  have hra := rep_ones 96
  have hrb := lenB_of hrep
  have hzz := splice_len _ _ (Eq.refl (List.replicate 96 nilD).length)
  have hdz := dtake_of hrep
  have hall := allDue_spec 10 n L h96 hz
  have hfb : L.flatten.length ≤ maxLen := by unfold maxLen; omega
  have hxa : xtake (xdrop (L.flatten.map Du.enc) 0) L.flatten.length = L.flatten.map Du.enc := xall (List.length_map _).symm
  have hfl : (L.flatten.map Du.enc).length = L.flatten.length := List.length_map _
  have w1 : IntKind.i64.wrap ((n : Int) + 1) = (n : Int) + 1 := IntWalk.i64_in _ (by omega)
  have hcl := duclone_spec 11 L.flatten false (room_due (by omega))
  have hdf := fun nl => dudeletef_spec 11 (g := 27) (caps := [.rptr [.v (.int .i64 id)]]) (fun o => decide (o.id = id)) L.flatten hfb nl (fun o _ => rstop1_spec o id)
  rw [filter_all hid] at hdf
  refine bad_dW ?_
  unfold wcs at *
  generalize L.map snapD = X at *
  have q3 : decide (((L.flatten.length : Nat) : Int) = (L.flatten.length : Nat)) = true := decide_eq_true rfl
  generalize hF : L.flatten = F at *
  refine hspec_fn Try.func8 rfl ok_custref_WheelStop okr_custref_WheelStop rfl (by kernel_rfl) ?_
  intro Γ hW0 hN0 hL0
  have hW := hW0 rfl
  clear hW0 hN0 hL0
  unfold x_custref_WheelStop r_custref_WheelStop
  refine auC ?_
  repeat' (first
    | (first | (refine go_leG (leG_freezeP hW ⟨.d0, .d0, .d3⟩ rfl rfl ⟨rfl, rfl, Nat.succ_pos _⟩) ?_) | (refine go_leG (leG_freeze hW ⟨.d0, .d0, .d7⟩ rfl rfl ⟨rfl, rfl, by rw [List.length_map]; omega⟩) ?_))
    | (refine auS ?_)
    | (first | (simp only [hT, ddrop0, zv_eq, zv_len, hzz, splice_nil, hxa, hfl, q3]) | (with_reducible refine runR_call hchk ?_) | (with_reducible refine runR_callO 10 hall ?_) | (with_reducible refine runR_callO 11 hcl ?_) | ((with_reducible refine runR_callH 11 ?_ (hdf _) (fun _ _ _ h => h) ?_); (exact rfl)))
    | (refine auD ?_)
    | (with_reducible refine runR_b (fun h => ?_) (fun h => ?_) <;> first | exact auH | simp only [h, runR_t, runR_f])
    | (with_reducible refine condK_bl ?_ ?_)
    | (with_reducible refine condK_b (fun h => ?_) (fun h => ?_) <;> first | exact auH | skip)
    | (first | (refine runR_n ⟨by simp only [hA, hB, allOne, lenB, oneD, oneV, andB], by decide⟩ ?_) | (refine runR_n ⟨by decide, by decide, by simp only [hra, hrb, allOne, lenB, oneD, oneV, andB]⟩ ?_) | fail))
  (all_goals first | exact auP | skip)
  have hnf : nfL Γ.g0 (dtake (List.replicate 96 nilD) 96) := by rw [hdz]; exact rep_nf _ _
  all_goals with_reducible refine ret_spec2 (by (try first | refine auR ?_ | exact auR0); (repeat' (first | exact trivial | exact rfl | exact hnf | decide | apply And.intro))) ?_
  all_goals (try first | refine auR ?_ | exact auR0)
  rw [hdz]
set_option maxHeartbeats 4000000 in
theorem rstop_good (n : Nat) (id : Int) (L : WL) (h96 : L.length = 96) (hz : ∀ l ∈ L, l.length ≤ 1407374) (h0 : wchk n L = 0) (hid : id ∈ L.flatten.map Du.id) : Spec Try.prog 8 [.agg (wcs n L), .v (.int .i64 id)] (dW n (wof n (L.flatten.filter fun x => !decide (x.id = id))) 0) := by
  obtain ⟨c1, c2, c3, c4, c5⟩ := chk_zero h0
  have hchk := wright_spec n L h96 hz
  rw [h0] at hchk
  have hzm : ∀ l ∈ L, l.length ≤ maxLen := fun l hl => by have := hz l hl; unfold maxLen; omega
  obtain ⟨hA, hB, hL, hT, hG⟩ := snaps h96
  rw [ddrop0] at hT
  have hrep : (List.replicate 96 nilD).length = 96 := by simp
  have hra := rep_ones 96
  have hrb := lenB_of hrep
  have hzz := splice_len _ _ (Eq.refl (List.replicate 96 nilD).length)
  have hdz := dtake_of hrep
  have hall := allDue_spec 10 n L h96 hz
  have hfb : L.flatten.length ≤ maxLen := by unfold maxLen; omega
  have hxa : xtake (xdrop (L.flatten.map Du.enc) 0) L.flatten.length = L.flatten.map Du.enc := xall (List.length_map _).symm
  have hfl : (L.flatten.map Du.enc).length = L.flatten.length := List.length_map _
  have w1 : IntKind.i64.wrap ((n : Int) + 1) = (n : Int) + 1 := IntWalk.i64_in _ (by omega)
  have hcl := duclone_spec 11 L.flatten false (room_due (by omega))
  have hdf := fun nl => dudeletef_spec 11 (g := 27) (caps := [.rptr [.v (.int .i64 id)]]) (fun o => decide (o.id = id)) L.flatten hfb nl (fun o _ => rstop1_spec o id)
  have hlt := filter_some hid
  have hwo := wheelOf_spec n (by omega) (L.flatten.filter fun x => !decide (x.id = id)) (by omega) (fun d hd => c4.1 d (List.mem_filter.1 hd).1)
  generalize hM : L.flatten.filter (fun x => !decide (x.id = id)) = M at *
  have hml : (M.map Du.enc).length = M.length := List.length_map _
  have hxm : xtake (xdrop (M.map Du.enc) 0) M.length = M.map Du.enc := xall (List.length_map _).symm
  have q3 : decide (((M.length : Nat) : Int) = (L.flatten.length : Nat)) = false := decide_eq_false (by omega)
  refine hspec_fn Try.func8 rfl ok_custref_WheelStop okr_custref_WheelStop rfl (by kernel_rfl) ?_
  intro Γ hW0 hN0 hL0
  have hW := hW0 rfl
  clear hW0 hN0 hL0
  unfold x_custref_WheelStop r_custref_WheelStop
  refine auC ?_
  have hlen' := wof_len n M
  have hnf := snaps_nf (wof n M) Γ.g0
  obtain ⟨oA, oB, -, -, -⟩ := snaps hlen'
  have hdt' := dtake_of (show ((wof n M).map snapD).length = 96 by rw [List.length_map]; exact hlen')
  have hnf2 : nfL Γ.g0 (dtake ((wof n M).map snapD) 96) := by rw [hdt']; exact hnf
  have hs3 := splice_len (List.replicate 96 nilD) ((wof n M).map snapD) (by rw [hrep, List.length_map]; exact hlen'.symm)
  unfold dW wcs at *
  generalize (wof n M).map snapD = Z at *
  repeat' (first
    | (first | (refine go_leG (leG_freezeP hW ⟨.d0, .d0, .d3⟩ rfl rfl ⟨rfl, rfl, Nat.succ_pos _⟩) ?_) | (refine go_leG (leG_freeze hW ⟨.d0, .d0, .d7⟩ rfl rfl ⟨rfl, rfl, by rw [List.length_map]; omega⟩) ?_) | (refine go_leG (leG_freeze hW ⟨.d0, .d1, .d0⟩ rfl rfl ⟨rfl, rfl, by rw [List.length_map]; omega⟩) ?_))
    | (refine auS ?_)
    | (first | (simp only [hT, ddrop0, zv_eq, zv_len, hzz, splice_nil, hxa, hxm, hfl, hml, q3, hs3]) | (with_reducible refine runR_call hchk ?_) | (with_reducible refine runR_callO 10 hall ?_) | (with_reducible refine runR_callO 11 hcl ?_) | ((with_reducible refine runR_callH 11 ?_ (hdf _) (fun _ _ _ h => h) ?_); (exact rfl)) | (with_reducible refine runR_call hwo ?_))
    | (refine auD ?_)
    | (with_reducible refine runR_b (fun h => ?_) (fun h => ?_) <;> first | exact auH | simp only [h, runR_t, runR_f])
    | (with_reducible refine condK_bl ?_ ?_)
    | (with_reducible refine condK_b (fun h => ?_) (fun h => ?_) <;> first | exact auH | skip)
    | (first | (refine runR_n ⟨by simp only [hA, hB, allOne, lenB, oneD, oneV, andB], by decide⟩ ?_) | (refine runR_n ⟨by decide, by decide, by simp only [hra, hrb, oA, oB, allOne, lenB, oneD, oneV, andB]⟩ ?_) | fail))
  (all_goals first | exact auP | skip)
  all_goals with_reducible refine ret_spec2 (by (try first | refine auR ?_ | exact auR0); (repeat' (first | exact trivial | exact rfl | exact hnf2 | decide | apply And.intro))) ?_
  all_goals (try first | refine auR ?_ | exact auR0)
  rw [hdt']
theorem rset_spec (now id t : Int) (L : WL) (h96 : L.length = 96) (hz : ∀ l ∈ L, l.length ≤ 1407374) : Spec Try.prog 6 [.agg (wcs now L), .v (.int .i64 id), .v (.int .i64 t)] (dR (setR now L id t)) := by
  unfold setR
  by_cases h0 : wchk now L = 0
  · obtain ⟨n, rfl⟩ : ∃ n : Nat, now = n := ⟨now.toNat, by have := chk_zero h0; omega⟩
    rw [if_neg (not_not_intro h0)]
    by_cases ht : (n : Int) + 1 ≤ t ∧ t ≤ 16777215
    · rw [if_neg (not_not_intro ht)]
      by_cases hid : id ∈ L.flatten.map Du.id
      · rw [if_pos hid]
        exact rset_bad3 n id t L h96 hz h0 ht hid
      · rw [if_neg hid]
        by_cases hlen : L.flatten.length = 500
        · rw [if_pos hlen]
          exact rset_bad4 n id t L h96 hz h0 ht hid hlen
        · rw [if_neg hlen]
          exact rset_good n id t L h96 hz h0 ht hid hlen
    · rw [if_pos ht]
      exact rset_bad2 n id t L h96 hz h0 ht
  · rw [if_pos h0]
    exact rset_bad1 now id t L h96 hz h0
theorem rstop_spec (now id : Int) (L : WL) (h96 : L.length = 96) (hz : ∀ l ∈ L, l.length ≤ 1407374) : Spec Try.prog 8 [.agg (wcs now L), .v (.int .i64 id)] (dR (stopR now L id)) := by
  unfold stopR
  by_cases h0 : wchk now L = 0
  · obtain ⟨n, rfl⟩ : ∃ n : Nat, now = n := ⟨now.toNat, by have := chk_zero h0; omega⟩
    rw [if_neg (not_not_intro h0)]
    by_cases hid : id ∈ L.flatten.map Du.id
    · rw [if_neg (not_not_intro hid)]
      exact rstop_good n id L h96 hz h0 hid
    · rw [if_pos hid]
      exact rstop_bad2 n id L h96 hz h0 hid
  · rw [if_pos h0]
    exact rstop_bad1 now id L h96 hz h0
end Go.Proofs.Ytecnjhmpipfldaa
