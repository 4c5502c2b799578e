/-
  The reference's answer, where the wheel is right.
-/
import Derived.Test.YtecnjhmpipfldaaTickY
namespace Go.Proofs.Ytecnjhmpipfldaa
set_option linter.unusedVariables false
set_option linter.unusedSimpArgs false
def dueP (τ : Int) (d : Du) : Bool := decide (d.t ≤ τ)
theorem filter_snoc {p : Du → Bool} {F : List Du} {k : Nat} {d : Du} (h : F[k]? = some d) : (F.take (k + 1)).filter p = (F.take k).filter p ++ (if p d then [d] else []) := by
  rw [take_snoc h, List.filter_append]
  cases q : p d <;> simp [q]
set_option maxRecDepth 4000 in
set_option maxHeartbeats 8000000 in
theorem rtick_good (n m : Nat) (L : WL) (h96 : L.length = 96) (hz : ∀ l ∈ L, l.length ≤ 1407374) (h0 : wchk n L = 0) (hm : m ≤ 10000) (hnm : n + m < 16777216) :
    Spec Try.prog 13 [.agg (wcs n L), .v (.int .i64 (m : Nat))] (dT ((n + m : Nat) : Int) (wof ((n + m : Nat) : Int) (L.flatten.filter fun d => !dueP ((n + m : Nat) : Int) d)) (ssort (L.flatten.filter (dueP ((n + m : Nat) : Int)))) 0) := by
  have hchk := wright_spec n L h96 hz
  obtain ⟨c1, c2, c3, c4, c5⟩ := chk_zero h0
  rw [h0] at hchk
  have hbt := between_spec m 0 10000
  rw [decide_eq_true (by omega : (0 : Int) ≤ (m : Nat) ∧ ((m : Nat) : Int) ≤ 10000)] at hbt
  have hall := allDue_spec 7 n L h96 hz
  have w1 : IntKind.i64.wrap ((n : Int) + (m : Nat)) = ((n + m : Nat) : Int) := by rw [IntWalk.i64_in _ (by omega)]; omega
  have q3 : decide (16777215 < ((n + m : Nat) : Int)) = false := decide_eq_false (by omega)
  obtain ⟨hA, hB, hL, hT, hG⟩ := snaps h96
  rw [ddrop0] at hT
  have hrep : (List.replicate 96 nilD).length = 96 := by simp
  have hra := rep_ones 96
  have hrb := lenB_of hrep
  have hzz := splice_len _ _ (Eq.refl (List.replicate 96 nilD).length)
  have hdz := dtake_of hrep
  have hFr : ∀ d ∈ L.flatten, InR d := fun d hd => by have := c4.1 d hd; exact ⟨by omega, this.2⟩
  unfold wcs at hchk hall
  generalize hF : L.flatten = F at *
  refine hspec_fn Try.func13 rfl ok_custref_WheelTick okr_custref_WheelTick rfl (by kernel_rfl) ?_
  intro Γ hW0 hN0 hL0
  have hW := hW0 rfl
  clear hW0 hN0 hL0
  unfold x_custref_WheelTick r_custref_WheelTick
  refine auC ?_
  unfold wcs
  repeat' (first
    | (refine auS ?_)
    | (first | (simp only [hT, ddrop0, zv_eq, zv_len, hzz, splice_nil, w1, q3]) | (with_reducible refine runR_call hchk ?_) | (with_reducible refine runR_call hbt ?_) | (with_reducible refine runR_callO 7 hall ?_))
    | (refine auD ?_)
    | (with_reducible refine runR_b (fun h => ?_) (fun h => ?_) <;> first | exact auH | simp only [h, runR_t, runR_f])
    | (with_reducible refine condK_bl ?_ ?_)
    | (with_reducible refine condK_b (fun h => ?_) (fun h => ?_) <;> first | exact auH | skip)
    | (first | (refine runR_n ⟨by simp only [hA, hB, allOne, lenB, oneD, oneV, andB], by decide⟩ ?_) | fail))
  apply go_le
  · exact le_row ⟨.d0, .d1, .d0⟩ 4 2 rfl rfl
  refine auL ?_
  apply go_le
  · exact le_row ⟨.d0, .d1, .d1⟩ 6 2 rfl rfl
  refine auL ?_
  have hw0 := snaps_nf L Γ.g0
  refine go_loopT (α := Nat × Nat × Nat × Nat) (fun x => [(⟨.d0, .d1, .d0⟩, .sl 4 x.2.1 2 0 ((F.take x.1).filter (dueP ((n + m : Nat) : Int))).length false), (⟨.d0, .d1, .d1⟩, .sl 6 x.2.2.1 2 0 ((F.take x.1).filter (fun d => !dueP ((n + m : Nat) : Int) d)).length false), (⟨.d0, .d4, .d0⟩, .v (.int .i64 (x.1 : Nat)))]) (fun x => [some ⟨Γ.g0, 97, [.v (.int .i64 (n : Nat)) :: L.map snapD]⟩, some ⟨Γ.g0 + 1, 97, [.v (.int .i64 0) :: List.replicate 96 nilD]⟩, none, none, some ⟨x.2.1, 2, ((F.take x.1).filter (dueP ((n + m : Nat) : Int))).map Du.enc⟩, none, some ⟨x.2.2.1, 2, ((F.take x.1).filter (fun d => !dueP ((n + m : Nat) : Int) d)).map Du.enc⟩, some ⟨Γ.g0 + 2, 2, F.map Du.enc⟩]) (fun x => x.2.2.2) (fun x => F.length - x.1) (fun x => x.1 ≤ F.length) (0, Γ.g0 + 3, Γ.g0 + 4, Γ.g0 + 5) (Nat.zero_le _) ?_ ?_
  · refine le_mk2 ?_ ?_ (Nat.le_refl _)
    · first | refine auE ?_ | exact auE0
      all_goals (repeat' (first | exact trivial | exact rfl | apply And.intro))
    · exact hs_refl _
  rintro ⟨k, dn, rn, gn⟩ hk
  dsimp only at hk ⊢
  refine auL ?_
  have hfl : (F.map Du.enc).length = F.length := List.length_map _
  by_cases hlt : k < F.length
  · obtain ⟨d, hd⟩ : ∃ d, F[k]? = some d := ⟨_, List.getElem?_eq_getElem hlt⟩
    have c0 : decide (((k : Nat) : Int) < ((F.length : Nat) : Int)) = true := decide_eq_true (by omega)
    have w2 : IntKind.i64.wrap ((k : Int) + 1) = ((k + 1 : Nat) : Int) := by rw [IntWalk.i64_in _ (by omega)]; omega
    have hxd := xget_du hd
    have f1 := filter_snoc (p := dueP ((n + m : Nat) : Int)) hd
    have f2 := filter_snoc (p := fun d => !dueP ((n + m : Nat) : Int) d) hd
    have b1 := List.length_filter_le (dueP ((n + m : Nat) : Int)) (F.take k)
    have b2 := List.length_filter_le (fun d => !dueP ((n + m : Nat) : Int) d) (F.take k)
    have b3 : (F.take k).length = k := by rw [List.length_take]; omega
    generalize hD1 : (F.take k).filter (dueP ((n + m : Nat) : Int)) = D1 at *
    generalize hR1 : (F.take k).filter (fun d => !dueP ((n + m : Nat) : Int) d) = R1 at *
    have hml1 : (D1.map Du.enc).length = D1.length := List.length_map _
    have hml2 : (R1.map Du.enc).length = R1.length := List.length_map _
    have hrm1 : room (D1.length + 1) 16 := room_due (by omega)
    have hrm2 : room (R1.length + 1) 16 := room_due (by omega)
    by_cases hdue : d.t ≤ ((n + m : Nat) : Int)
    · have c1 : decide (d.t ≤ ((n + m : Nat) : Int)) = true := decide_eq_true hdue
      have e : dueP ((n + m : Nat) : Int) d = true := c1
      simp only [e, Bool.not_true, if_true, Bool.false_eq_true, if_false, List.append_nil] at f1 f2
      repeat' (first
        | (refine auS ?_)
        | (simp only [c0, c1, w1, w2, Int.toNat_natCast, Nat.zero_add, hxd, hfl, hml1])
        | (refine auD ?_)
        | (with_reducible refine runR_b (fun h => ?_) (fun h => ?_) <;> first | exact auH | simp only [h, runR_t, runR_f])
        | (with_reducible refine condK_bl ?_ ?_)
        | (with_reducible refine condK_b (fun h => ?_) (fun h => ?_) <;> first | exact auH | skip)
        | (first | (refine runR_n ⟨rfl, rfl, rfl, rfl, hml1.symm⟩ ?_) | (refine runR_n ⟨rfl, hrm1⟩ ?_) | (refine runR_n ⟨by omega, by omega⟩ ?_) | fail))
      (all_goals first | exact auP | skip)
      refine nx_loop ⟨(k + 1, gn + 1 + 1, rn, gn + 3), hlt, Nat.sub_lt_sub_left hlt (Nat.lt_succ_self k), ?_⟩
      refine le_mk2 ?_ ?_ (Nat.le_refl _)
      · first | refine auE ?_ | exact auE0
        all_goals (repeat' (first | exact trivial | exact rfl | apply And.intro))
        all_goals (first | rw [f1] | rw [f2])
        all_goals (try simp)
      · dsimp only
        rw [f1, f2, List.map_append]
        exact hs_cons (.inl rfl) (hs_cons (.inl rfl) (hs_cons (.inr rfl) (hs_cons (.inr rfl) (hs_refl _))))
    · have c1 : decide (d.t ≤ ((n + m : Nat) : Int)) = false := decide_eq_false hdue
      have e : dueP ((n + m : Nat) : Int) d = false := c1
      simp only [e, Bool.not_false, if_true, Bool.false_eq_true, if_false, List.append_nil] at f1 f2
      repeat' (first
        | (refine auS ?_)
        | (simp only [c0, c1, w1, w2, Int.toNat_natCast, Nat.zero_add, hxd, hfl, hml2])
        | (refine auD ?_)
        | (with_reducible refine runR_b (fun h => ?_) (fun h => ?_) <;> first | exact auH | simp only [h, runR_t, runR_f])
        | (with_reducible refine condK_bl ?_ ?_)
        | (with_reducible refine condK_b (fun h => ?_) (fun h => ?_) <;> first | exact auH | skip)
        | (first | (refine runR_n ⟨rfl, rfl, rfl, rfl, hml2.symm⟩ ?_) | (refine runR_n ⟨rfl, hrm2⟩ ?_) | (refine runR_n ⟨by omega, by omega⟩ ?_) | fail))
      (all_goals first | exact auP | skip)
      refine nx_loop ⟨(k + 1, dn, gn + 1 + 1, gn + 3), hlt, Nat.sub_lt_sub_left hlt (Nat.lt_succ_self k), ?_⟩
      refine le_mk2 ?_ ?_ (Nat.le_refl _)
      · first | refine auE ?_ | exact auE0
        all_goals (repeat' (first | exact trivial | exact rfl | apply And.intro))
        all_goals (first | rw [f1] | rw [f2])
        all_goals (try simp)
      · dsimp only
        rw [f1, f2, List.map_append]
        exact hs_cons (.inl rfl) (hs_cons (.inl rfl) (hs_cons (.inr rfl) (hs_cons (.inl rfl) (hs_cons (.inl rfl) (hs_cons (.inr rfl) (hs_refl _))))))
  · obtain rfl : k = F.length := by omega
    have c0 : decide (((F.length : Nat) : Int) < ((F.length : Nat) : Int)) = false := decide_eq_false (by omega)
    rw [List.take_length]
    have b1 := List.length_filter_le (dueP ((n + m : Nat) : Int)) F
    have b2 := List.length_filter_le (fun d => !dueP ((n + m : Nat) : Int) d) F
    have hso := sort_spec 4 dn (F.filter (dueP ((n + m : Nat) : Int))) (fun d hd => hFr d ((List.mem_filter.1 hd).1)) _ rfl (by omega)
    have hwo := wheelOf_lent 6 (n + m) hnm (F.filter (fun d => !dueP ((n + m : Nat) : Int) d)) (by omega) (fun d hd => by
      obtain ⟨h1, h2⟩ := List.mem_filter.1 hd
      have h3 := c4.1 d h1
      simp [dueP] at h2
      exact ⟨by omega, h3.2⟩) rn
    have hwl := wof_len ((n + m : Nat) : Int) (F.filter (fun d => !dueP ((n + m : Nat) : Int) d))
    generalize F.filter (dueP ((n + m : Nat) : Int)) = D1 at *
    generalize wof ((n + m : Nat) : Int) (F.filter (fun d => !dueP ((n + m : Nat) : Int) d)) = W at *
    generalize F.filter (fun d => !dueP ((n + m : Nat) : Int) d) = R1 at *
    obtain ⟨oA, oB, -, -, -⟩ := snaps hwl
    have hs3 := splice_len (List.replicate 96 nilD) (W.map snapD) (by rw [hrep, List.length_map]; exact hwl.symm)
    have hdt' := dtake_of (show (W.map snapD).length = 96 by rw [List.length_map]; exact hwl)
    have hsl := ssort_len D1
    have hnf := snaps_nf W Γ.g0
    unfold wcs at hwo
    repeat' (first
      | (refine auS ?_)
      | (first | (simp only [c0, w1, splice_nil, hs3]) | ((with_reducible refine runR_callH 4 ?_ hso (fun _ _ _ h => h) ?_); (exact rfl)) | ((with_reducible refine runR_callH 6 ?_ hwo (fun _ _ _ h => h) ?_); (exact rfl)))
      | (refine auD ?_)
      | (with_reducible refine runR_b (fun h => ?_) (fun h => ?_) <;> first | exact auH | simp only [h, runR_t, runR_f])
      | (with_reducible refine condK_bl ?_ ?_)
      | (with_reducible refine condK_b (fun h => ?_) (fun h => ?_) <;> first | exact auH | skip)
      | (first | (refine runR_n ⟨by decide, by decide, by simp only [oA, oB, allOne, lenB, oneD, oneV, andB]⟩ ?_) | fail))
    (all_goals first | exact auP | skip)
    have hxt : xtake (xdrop ((ssort D1).map Du.enc) 0) D1.length = (ssort D1).map Du.enc := xall (by simp [hsl])
    refine retq_le (leG_freeze hW ⟨.d0, .d0, .d5⟩ rfl rfl ⟨rfl, rfl, by simp [hsl]⟩) ?_
    have hnf2 : nfL Γ.g0 (dtake (W.map snapD) 96) := by rw [hdt']; exact hnf
    have hnf3 : nfLL Γ.g0 ((ssort D1).map Du.enc) := nfLL_map (fun x => by simp [nfL, nfD])
    unfold dT wcs
    dsimp only
    rw [hxt]
    generalize W.map snapD = Z at *
    generalize hY : (ssort D1).map Du.enc = Y at *
    all_goals with_reducible refine ret_spec2 (by (try first | refine auR ?_ | exact auR0); (repeat' (first | exact trivial | exact rfl | exact hnf2 | exact hnf3 | decide | apply And.intro))) ?_
    all_goals (try first | refine auR ?_ | exact auR0)
    rw [hdt']
    subst hY
    rfl
end Go.Proofs.Ytecnjhmpipfldaa
