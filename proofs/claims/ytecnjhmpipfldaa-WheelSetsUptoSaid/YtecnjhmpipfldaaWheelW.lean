/-
  Stop, and what Set and Stop refuse, where the wheel is right: in the program.
-/
import Derived.Test.YtecnjhmpipfldaaWheelV
namespace Go.Proofs.Ytecnjhmpipfldaa
set_option linter.unusedVariables false
set_option linter.unusedSimpArgs false
set_option maxHeartbeats 4000000 in
theorem set_bad2 (n : Nat) (id t : Int) (L : WL) (h96 : L.length = 96) (hz : ∀ l ∈ L, l.length ≤ 1407374) (h0 : wchk n L = 0) (ht : ¬ ((n : Int) + 1 ≤ t ∧ t ≤ 16777215)) : Spec Try.prog 5 [.agg (wcs n L), .v (.int .i64 id), .v (.int .i64 t)] (dW 0 noW 1) := by
  obtain ⟨c1, c2, c3, c4, c5⟩ := chk_zero h0
  have hchk := wcheck_spec n L h96 hz
  rw [h0] at hchk
  have hzm : ∀ l ∈ L, l.length ≤ maxLen := fun l hl => by have := hz l hl; unfold maxLen; omega
  obtain ⟨hA, hB, hL, hT, hG⟩ := snaps h96
  rw [ddrop0] at hT
  have hrep : (List.replicate 96 nilD).length = 96 := by simp
  have hra := rep_ones 96
  have hrb := lenB_of hrep
  have hzz := splice_len _ _ (Eq.refl (List.replicate 96 nilD).length)
  have hdz := dtake_of hrep
  refine bad_dW ?_
  unfold wcs at *
  generalize L.map snapD = X at *
  by_cases q : t ≤ n
  · have q1 : decide (t ≤ ((n : Nat) : Int)) = true := decide_eq_true q
    refine hspec_fn Try.func5 rfl ok_wheel_Set okr_wheel_Set rfl (by kernel_rfl) ?_
    intro Γ hW0 hN0 hL0
    have hW := hW0 rfl
    clear hW0 hN0 hL0
    unfold x_wheel_Set r_wheel_Set
    refine auC ?_
    repeat' (first
      | fail
      | (refine auS ?_)
      | (first | (simp only [hT, ddrop0, zv_eq, zv_len, hzz, splice_nil, q1]) | (with_reducible refine runR_call hchk ?_))
      | (refine auD ?_)
      | (with_reducible refine runR_b (fun h => ?_) (fun h => ?_) <;> first | exact auH | simp only [h, runR_t, runR_f])
      | (with_reducible refine condK_bl ?_ ?_)
      | (with_reducible refine condK_b (fun h => ?_) (fun h => ?_) <;> first | exact auH | skip)
      | (first | (refine runR_n ⟨by simp only [hA, hB, allOne, lenB, oneD, oneV, andB], by decide⟩ ?_) | (refine runR_n ⟨by decide, by decide, by simp only [hra, hrb, allOne, lenB, oneD, oneV, andB]⟩ ?_) | fail))
    (all_goals first | exact auP | skip)
    have hnf : nfL Γ.g0 (dtake (List.replicate 96 nilD) 96) := by rw [hdz]; exact rep_nf _ _
    all_goals with_reducible refine ret_spec2 (by (try first | refine auR ?_ | exact auR0); (repeat' (first | exact trivial | exact rfl | exact hnf | decide | apply And.intro))) ?_
    all_goals (try first | refine auR ?_ | exact auR0)
    rw [hdz]
  · have q1 : decide (t ≤ ((n : Nat) : Int)) = false := decide_eq_false q
    have q2 : decide ((16777216 : Int) ≤ t) = true := decide_eq_true (by omega)
    refine hspec_fn Try.func5 rfl ok_wheel_Set okr_wheel_Set rfl (by kernel_rfl) ?_
    intro Γ hW0 hN0 hL0
    have hW := hW0 rfl
    clear hW0 hN0 hL0
    unfold x_wheel_Set r_wheel_Set
    refine auC ?_
    repeat' (first
      | fail
      | (refine auS ?_)
      | (first | (simp only [hT, ddrop0, zv_eq, zv_len, hzz, splice_nil, q1, q2]) | (with_reducible refine runR_call hchk ?_))
      | (refine auD ?_)
      | (with_reducible refine runR_b (fun h => ?_) (fun h => ?_) <;> first | exact auH | simp only [h, runR_t, runR_f])
      | (with_reducible refine condK_bl ?_ ?_)
      | (with_reducible refine condK_b (fun h => ?_) (fun h => ?_) <;> first | exact auH | skip)
      | (first | (refine runR_n ⟨by simp only [hA, hB, allOne, lenB, oneD, oneV, andB], by decide⟩ ?_) | (refine runR_n ⟨by decide, by decide, by simp only [hra, hrb, allOne, lenB, oneD, oneV, andB]⟩ ?_) | fail))
    (all_goals first | exact auP | skip)
    have hnf : nfL Γ.g0 (dtake (List.replicate 96 nilD) 96) := by rw [hdz]; exact rep_nf _ _
    all_goals with_reducible refine ret_spec2 (by (try first | refine auR ?_ | exact auR0); (repeat' (first | exact trivial | exact rfl | exact hnf | decide | apply And.intro))) ?_
    all_goals (try first | refine auR ?_ | exact auR0)
    rw [hdz]
set_option maxHeartbeats 4000000 in
theorem set_bad3 (n : Nat) (id t : Int) (L : WL) (h96 : L.length = 96) (hz : ∀ l ∈ L, l.length ≤ 1407374) (h0 : wchk n L = 0) (ht : (n : Int) + 1 ≤ t ∧ t ≤ 16777215) (hid : id ∈ L.flatten.map Du.id) : Spec Try.prog 5 [.agg (wcs n L), .v (.int .i64 id), .v (.int .i64 t)] (dW 0 noW 8) := by
  obtain ⟨c1, c2, c3, c4, c5⟩ := chk_zero h0
  have hchk := wcheck_spec n L h96 hz
  rw [h0] at hchk
  have hzm : ∀ l ∈ L, l.length ≤ maxLen := fun l hl => by have := hz l hl; unfold maxLen; omega
  obtain ⟨hA, hB, hL, hT, hG⟩ := snaps h96
  rw [ddrop0] at hT
  have hrep : (List.replicate 96 nilD).length = 96 := by simp
  have hra := rep_ones 96
  have hrb := lenB_of hrep
  have hzz := splice_len _ _ (Eq.refl (List.replicate 96 nilD).length)
  have hdz := dtake_of hrep
  obtain ⟨i, l, k, d, hl, hd, he, hf, hno⟩ := find_ex c4.2 hid
  have hfind := find_spec n id L h96 hzm i (by have := (List.getElem?_eq_some_iff.1 hl).1; omega) (i : Nat) (k : Nat) hno (.inr ⟨l, k, hl, hf, rfl, rfl⟩)
  refine bad_dW ?_
  unfold wcs at *
  generalize L.map snapD = X at *
  have q1 : decide (t ≤ ((n : Nat) : Int)) = false := decide_eq_false (by omega)
  have q2 : decide ((16777216 : Int) ≤ t) = false := decide_eq_false (by omega)
  have q3 : decide ((0 : Int) ≤ (i : Nat)) = true := decide_eq_true (by omega)
  refine hspec_fn Try.func5 rfl ok_wheel_Set okr_wheel_Set rfl (by kernel_rfl) ?_
  intro Γ hW0 hN0 hL0
  have hW := hW0 rfl
  clear hW0 hN0 hL0
  unfold x_wheel_Set r_wheel_Set
  refine auC ?_
  repeat' (first
    | fail
    | (refine auS ?_)
    | (first | (simp only [hT, ddrop0, zv_eq, zv_len, hzz, splice_nil, q1, q2, q3]) | (with_reducible refine runR_call hchk ?_) | (with_reducible refine runR_call hfind ?_))
    | (refine auD ?_)
    | (with_reducible refine runR_b (fun h => ?_) (fun h => ?_) <;> first | exact auH | simp only [h, runR_t, runR_f])
    | (with_reducible refine condK_bl ?_ ?_)
    | (with_reducible refine condK_b (fun h => ?_) (fun h => ?_) <;> first | exact auH | skip)
    | (first | (refine runR_n ⟨by simp only [hA, hB, allOne, lenB, oneD, oneV, andB], by decide⟩ ?_) | (refine runR_n ⟨by decide, by decide, by simp only [hra, hrb, allOne, lenB, oneD, oneV, andB]⟩ ?_) | fail))
  (all_goals first | exact auP | skip)
  have hnf : nfL Γ.g0 (dtake (List.replicate 96 nilD) 96) := by rw [hdz]; exact rep_nf _ _
  all_goals with_reducible refine ret_spec2 (by (try first | refine auR ?_ | exact auR0); (repeat' (first | exact trivial | exact rfl | exact hnf | decide | apply And.intro))) ?_
  all_goals (try first | refine auR ?_ | exact auR0)
  rw [hdz]
set_option maxHeartbeats 4000000 in
theorem set_bad4 (n : Nat) (id t : Int) (L : WL) (h96 : L.length = 96) (hz : ∀ l ∈ L, l.length ≤ 1407374) (h0 : wchk n L = 0) (ht : (n : Int) + 1 ≤ t ∧ t ≤ 16777215) (hid : id ∉ L.flatten.map Du.id) (hlen : L.flatten.length = 500) : Spec Try.prog 5 [.agg (wcs n L), .v (.int .i64 id), .v (.int .i64 t)] (dW 0 noW 6) := by
  obtain ⟨c1, c2, c3, c4, c5⟩ := chk_zero h0
  have hchk := wcheck_spec n L h96 hz
  rw [h0] at hchk
  have hzm : ∀ l ∈ L, l.length ≤ maxLen := fun l hl => by have := hz l hl; unfold maxLen; omega
  obtain ⟨hA, hB, hL, hT, hG⟩ := snaps h96
  rw [ddrop0] at hT
  have hrep : (List.replicate 96 nilD).length = 96 := by simp
  have hra := rep_ones 96
  have hrb := lenB_of hrep
  have hzz := splice_len _ _ (Eq.refl (List.replicate 96 nilD).length)
  have hdz := dtake_of hrep
  have hcnt := count_spec n L h96 hz
  have hfind := find_spec n id L h96 hzm 96 (Nat.le_refl _) (-1) 0 (fun j l _ hl d hd => no_id hid j l hl d hd) (.inl ⟨rfl, rfl, rfl⟩)
  refine bad_dW ?_
  unfold wcs at *
  generalize L.map snapD = X at *
  have q1 : decide (t ≤ ((n : Nat) : Int)) = false := decide_eq_false (by omega)
  have q2 : decide ((16777216 : Int) ≤ t) = false := decide_eq_false (by omega)
  have q3 : decide (((L.flatten.length : Nat) : Int) = 500) = true := decide_eq_true (by omega)
  refine hspec_fn Try.func5 rfl ok_wheel_Set okr_wheel_Set rfl (by kernel_rfl) ?_
  intro Γ hW0 hN0 hL0
  have hW := hW0 rfl
  clear hW0 hN0 hL0
  unfold x_wheel_Set r_wheel_Set
  refine auC ?_
  repeat' (first
    | fail
    | (refine auS ?_)
    | (first | (simp only [hT, ddrop0, zv_eq, zv_len, hzz, splice_nil, q1, q2, q3]) | (with_reducible refine runR_call hchk ?_) | (with_reducible refine runR_call hfind ?_) | (with_reducible refine runR_call hcnt ?_))
    | (refine auD ?_)
    | (with_reducible refine runR_b (fun h => ?_) (fun h => ?_) <;> first | exact auH | simp only [h, runR_t, runR_f])
    | (with_reducible refine condK_bl ?_ ?_)
    | (with_reducible refine condK_b (fun h => ?_) (fun h => ?_) <;> first | exact auH | skip)
    | (first | (refine runR_n ⟨by simp only [hA, hB, allOne, lenB, oneD, oneV, andB], by decide⟩ ?_) | (refine runR_n ⟨by decide, by decide, by simp only [hra, hrb, allOne, lenB, oneD, oneV, andB]⟩ ?_) | fail))
  (all_goals first | exact auP | skip)
  have hnf : nfL Γ.g0 (dtake (List.replicate 96 nilD) 96) := by rw [hdz]; exact rep_nf _ _
  all_goals with_reducible refine ret_spec2 (by (try first | refine auR ?_ | exact auR0); (repeat' (first | exact trivial | exact rfl | exact hnf | decide | apply And.intro))) ?_
  all_goals (try first | refine auR ?_ | exact auR0)
  rw [hdz]
set_option maxHeartbeats 4000000 in
theorem stop_bad2 (n : Nat) (id : Int) (L : WL) (h96 : L.length = 96) (hz : ∀ l ∈ L, l.length ≤ 1407374) (h0 : wchk n L = 0) (hid : id ∉ L.flatten.map Du.id) : Spec Try.prog 7 [.agg (wcs n L), .v (.int .i64 id)] (dW 0 noW 7) := by
  obtain ⟨c1, c2, c3, c4, c5⟩ := chk_zero h0
  have hchk := wcheck_spec n L h96 hz
  rw [h0] at hchk
  have hzm : ∀ l ∈ L, l.length ≤ maxLen := fun l hl => by have := hz l hl; unfold maxLen; omega
  obtain ⟨hA, hB, hL, hT, hG⟩ := snaps h96
  rw [ddrop0] at hT
  have hrep : (List.replicate 96 nilD).length = 96 := by simp
  have hra := rep_ones 96
  have hrb := lenB_of hrep
  have hzz := splice_len _ _ (Eq.refl (List.replicate 96 nilD).length)
  have hdz := dtake_of hrep
  have hfind := find_spec n id L h96 hzm 96 (Nat.le_refl _) (-1) 0 (fun j l _ hl d hd => no_id hid j l hl d hd) (.inl ⟨rfl, rfl, rfl⟩)
  refine bad_dW ?_
  unfold wcs at *
  generalize L.map snapD = X at *
  refine hspec_fn Try.func7 rfl ok_wheel_Stop okr_wheel_Stop rfl (by kernel_rfl) ?_
  intro Γ hW0 hN0 hL0
  have hW := hW0 rfl
  clear hW0 hN0 hL0
  unfold x_wheel_Stop r_wheel_Stop
  refine auC ?_
  repeat' (first
    | fail
    | (refine auS ?_)
    | (first | (simp only [hT, ddrop0, zv_eq, zv_len, hzz, splice_nil]) | (with_reducible refine runR_call hchk ?_) | (with_reducible refine runR_call hfind ?_))
    | (refine auD ?_)
    | (with_reducible refine runR_b (fun h => ?_) (fun h => ?_) <;> first | exact auH | simp only [h, runR_t, runR_f])
    | (with_reducible refine condK_bl ?_ ?_)
    | (with_reducible refine condK_b (fun h => ?_) (fun h => ?_) <;> first | exact auH | skip)
    | (first | (refine runR_n ⟨by simp only [hA, hB, allOne, lenB, oneD, oneV, andB], by decide⟩ ?_) | (refine runR_n ⟨by decide, by decide, by simp only [hra, hrb, allOne, lenB, oneD, oneV, andB]⟩ ?_) | fail))
  (all_goals first | exact auP | skip)
  have hnf : nfL Γ.g0 (dtake (List.replicate 96 nilD) 96) := by rw [hdz]; exact rep_nf _ _
  all_goals with_reducible refine ret_spec2 (by (try first | refine auR ?_ | exact auR0); (repeat' (first | exact trivial | exact rfl | exact hnf | decide | apply And.intro))) ?_
  all_goals (try first | refine auR ?_ | exact auR0)
  rw [hdz]
set_option maxHeartbeats 4000000 in
theorem stop_good (n : Nat) (id : Int) (L : WL) (h96 : L.length = 96) (hz : ∀ l ∈ L, l.length ≤ 1407374) (h0 : wchk n L = 0) (hid : id ∈ L.flatten.map Du.id) : Spec Try.prog 7 [.agg (wcs n L), .v (.int .i64 id)] (dW n (wof n (L.flatten.filter fun x => !decide (x.id = id))) 0) := by
  obtain ⟨c1, c2, c3, c4, c5⟩ := chk_zero h0
  have hchk := wcheck_spec n L h96 hz
  rw [h0] at hchk
  have hzm : ∀ l ∈ L, l.length ≤ maxLen := fun l hl => by have := hz l hl; unfold maxLen; omega
  obtain ⟨hA, hB, hL, hT, hG⟩ := snaps h96
  rw [ddrop0] at hT
  have hrep : (List.replicate 96 nilD).length = 96 := by simp
  have hra := rep_ones 96
  have hrb := lenB_of hrep
  have hzz := splice_len _ _ (Eq.refl (List.replicate 96 nilD).length)
  have hdz := dtake_of hrep
  obtain ⟨i, l, k, d, hl, hd, he, hf, hno⟩ := find_ex c4.2 hid
  have hi96 : i < 96 := by rw [← h96]; exact (List.getElem?_eq_some_iff.1 hl).1
  have hk := (List.getElem?_eq_some_iff.1 hd).1
  have hll := hz l (List.mem_of_getElem? hl)
  have hfind := find_spec n id L h96 hzm i (by omega) (i : Nat) (k : Nat) hno (.inr ⟨l, k, hl, hf, rfl, rfl⟩)
  have hdel := fun m => dudelete_spec (i + 5) l k (k + 1) (by omega) (by omega) (hzm l (List.mem_of_getElem? hl)) m
  have hw := wof_del h96 c5 c4.2 hl hd
  rw [he] at hw
  rw [hw]
  have hown := own_spec n L h96 hz (fun j => j + 5)
  have hXl : ∀ nm, (rowc (fun j => j + 5) nm 0 L).length = 96 := fun nm => by rw [rowc_len]; exact h96
  have hXl' : ∀ nm (l' : List Du), (rowc (fun j => j + 5) nm 0 (L.set i l')).length = 96 := fun nm l' => by rw [rowc_len, List.length_set]; exact h96
  have hTl : ∀ nm, (rowh nm 0 L).length = 96 := fun nm => by rw [rowh_len]; exact h96
  have hX96 : (L.map snapD).length = 96 := by simpa using h96
  have hs1 : ∀ nm, splice (L.map snapD) 0 (rowc (fun j => j + 5) nm 0 L) = rowc (fun j => j + 5) nm 0 L := fun nm => splice_len _ _ (by rw [hXl, hX96])
  have hs2 : ∀ nm (l' : List Du), splice (List.replicate 96 nilD) 0 (rowc (fun j => j + 5) nm 0 (L.set i l')) = rowc (fun j => j + 5) nm 0 (L.set i l') := fun nm l' => splice_len _ _ (by rw [hXl', hrep])
  have ho1 : ∀ nm (l' : WL), allOne (rowc (fun j => j + 5) nm 0 l') = true := fun nm l' => rowc_ones l' 0
  have hb1 : ∀ nm, lenB (rowc (fun j => j + 5) nm 0 L) 96 = true := fun nm => lenB_of (hXl nm)
  have hb2 : ∀ nm (l' : List Du), lenB (rowc (fun j => j + 5) nm 0 (L.set i l')) 96 = true := fun nm l' => lenB_of (hXl' nm l')
  have hd2 : ∀ nm (l' : List Du), dtake (rowc (fun j => j + 5) nm 0 (L.set i l')) 96 = rowc (fun j => j + 5) nm 0 (L.set i l') := fun nm l' => dtake_of (hXl' nm l')
  have hgl : ∀ nm, lget (rowh nm 0 L) i = some ⟨nm i, 2, l.map Du.enc⟩ := fun nm => by
    have := rowh_get (nm := nm) L 0 i l hl
    rwa [Nat.zero_add] at this
  have hX : ∀ nm, dget (ddrop (rowc (fun j => j + 5) nm 0 L) i) 0 = .sl (i + 5) (nm i) 2 0 l.length false := fun nm => by
    have := rowc_get (lb := fun j => j + 5) (nm := nm) L 0 i l hl
    rw [Nat.zero_add] at this
    exact dget_ddrop _ _ _ this
  have hset := fun nm => rowc_set (lb := fun j => j + 5) (nm := nm) (nm i) (l.take k ++ l.drop (k + 1)) L 0 i (by omega)
  have hrs := fun nm => rowh_set (nm := nm) (nm i) (l.take k ++ l.drop (k + 1)) L 0 i (by omega)
  simp only [Nat.zero_add, lset_lset] at hset hrs
  have w1 : IntKind.i64.wrap ((k : Int) + 1) = ((k + 1 : Nat) : Int) := by rw [IntWalk.i64_in _ (by omega)]; omega
  have q3 : decide (((i : Nat) : Int) < 0) = false := decide_eq_false (by omega)
  unfold wcs at hchk hfind
  refine hspec_fn Try.func7 rfl ok_wheel_Stop okr_wheel_Stop rfl (by kernel_rfl) ?_
  intro Γ hW0 hN0 hL0
  have hW := hW0 rfl
  clear hW0 hN0 hL0
  unfold x_wheel_Stop r_wheel_Stop
  refine auC ?_
  unfold wcs
  repeat' (first
    | (refine auS ?_)
    | (first | (simp only [hT, ddrop0, zv_eq, zv_len, hzz, splice_nil, hs1, hs2, hd2, q3, w1, Int.toNat_natCast, splice_one, ddrop_one, Nat.mul_one, hX, hset]) | (with_reducible refine runR_call hchk ?_) | (with_reducible refine runR_call hfind ?_) | (with_reducible refine runR_own hown (hTl _) ?_) | ((with_reducible refine runR_callH (i + 5) ?_ (hdel _) (fun _ _ _ h => h) ?_); (exact hgl _)))
    | (refine auD ?_)
    | (with_reducible refine runR_b (fun h => ?_) (fun h => ?_) <;> first | exact auH | simp only [h, runR_t, runR_f])
    | (with_reducible refine condK_bl ?_ ?_)
    | (with_reducible refine condK_b (fun h => ?_) (fun h => ?_) <;> first | exact auH | skip)
    | (first | (refine runR_n ⟨by simp only [hA, hB, allOne, lenB, oneD, oneV, andB], by decide⟩ ?_) | (refine runR_n ⟨by decide, by decide, by simp only [hra, hrb, ho1, hb1, hb2, allOne, lenB, oneD, oneV, andB]⟩ ?_) | (refine runR_n ⟨by omega, by omega⟩ ?_) | (refine runR_n ⟨by omega, by omega, rfl⟩ ?_) | fail))
  (all_goals first | exact auP | skip)
  rw [hrs]
  refine retq_le (leG_all hW _ _ _ _ _ _ _ _) ?_
  have hlen' : (L.set i (l.take k ++ l.drop (k + 1))).length = 96 := by rw [List.length_set]; exact h96
  have hnf := snaps_nf (L.set i (l.take k ++ l.drop (k + 1))) Γ.g0
  have hdt' := dtake_of (show ((L.set i (l.take k ++ l.drop (k + 1))).map snapD).length = 96 by rw [List.length_map]; exact hlen')
  have hnf2 : nfL Γ.g0 (dtake ((L.set i (l.take k ++ l.drop (k + 1))).map snapD) 96) := by rw [hdt']; exact hnf
  unfold dW wcs
  generalize (L.set i (l.take k ++ l.drop (k + 1))).map snapD = Z at *
  all_goals with_reducible refine ret_spec2 (by (try first | refine auR ?_ | exact auR0); (repeat' (first | exact trivial | exact rfl | exact hnf2 | decide | apply And.intro))) ?_
  all_goals (try first | refine auR ?_ | exact auR0)
  rw [hdt']
theorem set_spec (now id t : Int) (L : WL) (h96 : L.length = 96) (hz : ∀ l ∈ L, l.length ≤ 1407374) : Spec Try.prog 5 [.agg (wcs now L), .v (.int .i64 id), .v (.int .i64 t)] (dR (setR now L id t)) := by
  unfold setR
  by_cases h0 : wchk now L = 0
  · obtain ⟨n, rfl⟩ : ∃ n : Nat, now = n := ⟨now.toNat, by have := chk_zero h0; omega⟩
    rw [if_neg (not_not_intro h0)]
    by_cases ht : (n : Int) + 1 ≤ t ∧ t ≤ 16777215
    · rw [if_neg (not_not_intro ht)]
      by_cases hid : id ∈ L.flatten.map Du.id
      · rw [if_pos hid]
        exact set_bad3 n id t L h96 hz h0 ht hid
      · rw [if_neg hid]
        by_cases hlen : L.flatten.length = 500
        · rw [if_pos hlen]
          exact set_bad4 n id t L h96 hz h0 ht hid hlen
        · rw [if_neg hlen]
          exact set_good n id t L h96 hz h0 ht hid hlen
    · rw [if_pos ht]
      exact set_bad2 n id t L h96 hz h0 ht
  · rw [if_pos h0]
    exact set_bad1 now id t L h96 hz h0
theorem stop_spec (now id : Int) (L : WL) (h96 : L.length = 96) (hz : ∀ l ∈ L, l.length ≤ 1407374) : Spec Try.prog 7 [.agg (wcs now L), .v (.int .i64 id)] (dR (stopR now L id)) := by
  unfold stopR
  by_cases h0 : wchk now L = 0
  · obtain ⟨n, rfl⟩ : ∃ n : Nat, now = n := ⟨now.toNat, by have := chk_zero h0; omega⟩
    rw [if_neg (not_not_intro h0)]
    by_cases hid : id ∈ L.flatten.map Du.id
    · rw [if_neg (not_not_intro hid)]
      exact stop_good n id L h96 hz h0 hid
    · rw [if_pos hid]
      exact stop_bad2 n id L h96 hz h0 hid
  · rw [if_pos h0]
    exact stop_bad1 now id L h96 hz h0
end Go.Proofs.Ytecnjhmpipfldaa
