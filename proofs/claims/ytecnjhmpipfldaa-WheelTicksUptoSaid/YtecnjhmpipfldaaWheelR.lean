/-
  Is a wheel right? In the reference.
-/
import Derived.Test.YtecnjhmpipfldaaWheelF
import Derived.Test.YtecnjhmpipfldaaWheelC
namespace Go.Proofs.Ytecnjhmpipfldaa
set_option linter.unusedVariables false
set_option linter.unusedSimpArgs false
theorem first_any {α : Type} (p : α → Bool) (l : List α) : decide (0 ≤ firstI p l 0) = l.any p := by
  rcases firstI_cases p l 0 with ⟨h1, h2⟩ | ⟨i, t, h1, h2, h3, h4⟩
  · rw [h1]
    have : l.any p = false := by
      rw [List.any_eq_false]
      intro x hx
      rw [h2 x hx]
      simp
    rw [this]
    rfl
  · rw [h4]
    have : l.any p = true := List.any_eq_true.2 ⟨t, List.mem_of_getElem? h1, h2⟩
    rw [this]
    exact decide_eq_true (by omega)
theorem contains_spec {g : FuncId} {caps : List DV} (p : Du → Bool) (l : List Du) (c : Bool) (hl : l.length ≤ maxLen) (hg : ∀ t ∈ l, Spec Try.prog g (.agg t.enc :: caps) (.v (.bool (p t)))) : Spec Try.prog 21 [.snap 2 (l.map Du.enc) c, .fn (.func g) [] caps] (.v (.bool (l.any p))) := by
  have hi := duindexf_spec (g := g) (caps := caps) p l c hl hg
  have ha := first_any p l
  refine hspec_fn Try.func21 rfl ok_slices_ContainsFunc_api_Due okr_slices_ContainsFunc_api_Due rfl (by kernel_rfl) ?_
  intro Γ hW0 hN0 hL0
  have hW := hW0 rfl
  clear hW0 hN0 hL0
  unfold x_slices_ContainsFunc_api_Due r_slices_ContainsFunc_api_Due
  refine auC ?_
  repeat' (first
    | (refine auS ?_)
    | (with_reducible refine runR_call hi ?_)
    | (refine auD ?_)
    | (with_reducible refine runR_b (fun h => ?_) (fun h => ?_) <;> first | exact auH | simp only [h, runR_t, runR_f])
    | (with_reducible refine condK_bl ?_ ?_)
    | (with_reducible refine condK_b (fun h => ?_) (fun h => ?_) <;> first | exact auH | skip)
    | fail)
  all_goals refine auF ?_
  all_goals (try first | refine auR ?_ | exact auR0)
  all_goals (try simp only [hsM] at *)
  all_goals exact dbool ha
theorem right1_spec (o d : Du) : Spec Try.prog 29 [.agg o.enc, .rptr [.v (.int .i64 d.id), .v (.int .i64 d.t)]] (.v (.bool (decide (o.id = d.id)))) := by
  refine hspec_fn Try.func29 rfl ok_custref_WheelRight_1 okr_custref_WheelRight_1 rfl (by kernel_rfl) ?_
  intro Γ hW0 hN0 hL0
  have hW := hW0 rfl
  clear hW0 hN0 hL0
  unfold x_custref_WheelRight_1 r_custref_WheelRight_1
  refine auC ?_
  dsimp only [Du.enc]
  repeat' (first
    | (refine auS ?_)
    | fail
    | (refine auD ?_)
    | (with_reducible refine runR_b (fun h => ?_) (fun h => ?_) <;> first | exact auH | simp only [h, runR_t, runR_f])
    | (with_reducible refine condK_bl ?_ ?_)
    | (with_reducible refine condK_b (fun h => ?_) (fun h => ?_) <;> first | exact auH | skip)
    | fail)
  all_goals refine auF ?_
  all_goals (try first | refine auR ?_ | exact auR0)
  all_goals (try simp only [hsM] at *)
theorem any_mem (l : List Du) (id : Int) : l.any (fun o => decide (o.id = id)) = decide (id ∈ l.map Du.id) := by
  rw [Bool.eq_iff_iff, List.any_eq_true, decide_eq_true_iff, List.mem_map]
  constructor
  · rintro ⟨x, hx, h⟩
    exact ⟨x, hx, of_decide_eq_true h⟩
  · rintro ⟨x, hx, h⟩
    exact ⟨x, hx, decide_eq_true h⟩
theorem fair_bad {now : Int} {F : List Du} {k : Nat} {d : Du} (hd : F[k]? = some d) (h : ¬ (now < d.t ∧ d.t ≤ 16777215) ∨ d.id ∈ (F.take k).map Du.id) : ¬ Fair now F := by
  rintro ⟨h1, h2⟩
  rcases h with h | h
  · exact h (h1 d (List.mem_of_getElem? hd))
  · have hk := (List.getElem?_eq_some_iff.1 hd).1
    rw [← List.take_append_drop k F, List.drop_eq_getElem_cons hk, show F[k] = d from Option.some.inj ((List.getElem?_eq_getElem hk).symm.trans hd), List.map_append, List.map_cons, List.nodup_append] at h2
    exact h2.2.2 d.id h d.id (by simp) rfl
theorem fair_next {now : Int} {F : List Du} {k : Nat} {d : Du} (hd : F[k]? = some d) (h : Fair now (F.take k)) (hr : now < d.t ∧ d.t ≤ 16777215) (hn : d.id ∉ (F.take k).map Du.id) : Fair now (F.take (k + 1)) := by
  rw [take_snoc hd]
  refine ⟨fun x hx => ?_, ?_⟩
  · rcases List.mem_append.1 hx with hx | hx
    · exact h.1 x hx
    · simp at hx
      rw [hx]
      exact hr
  · rw [List.map_append, List.nodup_append]
    refine ⟨h.2, by simp, fun a ha b hb => ?_⟩
    simp at hb
    rintro rfl
    exact hn (hb ▸ ha)
set_option maxRecDepth 8000 in
set_option maxHeartbeats 4000000 in
theorem wright_spec (now : Int) (L : WL) (h96 : L.length = 96) (hz : ∀ l ∈ L, l.length ≤ 1407374) : Spec Try.prog 10 [.agg (wcs now L)] (.v (.int .i64 (wchk now L))) := by
  have hall := allDue_spec 10 now L h96 hz
  obtain ⟨hA, hB, hL, hT, hG⟩ := snaps h96
  have hbt := between_spec now 0 16777215
  rw [ddrop0] at hT
  have hxa : xtake (xdrop (L.flatten.map Du.enc) 0) L.flatten.length = L.flatten.map Du.enc := xall (List.length_map _).symm
  have hfl : (L.flatten.map Du.enc).length = L.flatten.length := List.length_map _
  have hfb : L.flatten.length ≤ 135107904 := by
    have := flat_bd h96 hz 96
    rwa [List.take_of_length_le (by omega)] at this
  rcases wchk_cases now L with ⟨h1, hw⟩ | ⟨h1, h2, hw⟩ | h12
  · rw [hw]
    have e1 : decide ((500 : Int) < (L.flatten.length : Nat)) = true := decide_eq_true (by omega)
    unfold wcs at *
    generalize L.map snapD = X at *
    refine hspec_fn Try.func10 rfl ok_custref_WheelRight okr_custref_WheelRight rfl (by kernel_rfl) ?_
    intro Γ hW0 hN0 hL0
    have hW := hW0 rfl
    clear hW0 hN0 hL0
    unfold x_custref_WheelRight r_custref_WheelRight
    refine auC ?_
    repeat' (first
      | (refine go_leG (leG_freeze hW ⟨.d0, .d0, .d3⟩ rfl rfl ⟨rfl, rfl, by rw [List.length_map]; omega⟩) ?_)
      | (refine auS ?_)
      | (first | (simp only [hT, ddrop0, e1, hxa, hfl]) | (with_reducible refine runR_callO 10 hall ?_))
      | (refine auD ?_)
      | (with_reducible refine runR_b (fun h => ?_) (fun h => ?_) <;> first | exact auH | simp only [h, runR_t, runR_f])
      | (with_reducible refine condK_bl ?_ ?_)
      | (with_reducible refine condK_b (fun h => ?_) (fun h => ?_) <;> first | exact auH | skip)
      | (first | (refine runR_n ⟨by simp only [hA, hB, allOne, lenB, oneD, oneV, andB], by decide⟩ ?_) | fail))
    (all_goals first | exact auP | skip)
    all_goals refine auF ?_
    all_goals (try first | refine auR ?_ | exact auR0)
    all_goals (try simp only [hsM] at *)
  · rw [hw]
    have e1 : decide ((500 : Int) < (L.flatten.length : Nat)) = false := decide_eq_false (by omega)
    rw [decide_eq_false h2] at hbt
    unfold wcs at *
    generalize L.map snapD = X at *
    refine hspec_fn Try.func10 rfl ok_custref_WheelRight okr_custref_WheelRight rfl (by kernel_rfl) ?_
    intro Γ hW0 hN0 hL0
    have hW := hW0 rfl
    clear hW0 hN0 hL0
    unfold x_custref_WheelRight r_custref_WheelRight
    refine auC ?_
    repeat' (first
      | (refine go_leG (leG_freeze hW ⟨.d0, .d0, .d3⟩ rfl rfl ⟨rfl, rfl, by rw [List.length_map]; omega⟩) ?_)
      | (refine auS ?_)
      | (first | (simp only [hT, ddrop0, e1, hxa, hfl]) | (with_reducible refine runR_callO 10 hall ?_) | (with_reducible refine runR_call hbt ?_))
      | (refine auD ?_)
      | (with_reducible refine runR_b (fun h => ?_) (fun h => ?_) <;> first | exact auH | simp only [h, runR_t, runR_f])
      | (with_reducible refine condK_bl ?_ ?_)
      | (with_reducible refine condK_b (fun h => ?_) (fun h => ?_) <;> first | exact auH | skip)
      | (first | (refine runR_n ⟨by simp only [hA, hB, allOne, lenB, oneD, oneV, andB], by decide⟩ ?_) | fail))
    (all_goals first | exact auP | skip)
    all_goals refine auF ?_
    all_goals (try first | refine auR ?_ | exact auR0)
    all_goals (try simp only [hsM] at *)
  have h1 : L.flatten.length ≤ 500 := by rcases h12 with h | h <;> exact h.1
  have h2 : 0 ≤ now ∧ now ≤ 16777215 := by rcases h12 with h | h <;> exact ⟨h.2.1, h.2.2.1⟩
  have hw0 : Fair now L.flatten ∧ Stands now L → wchk now L = 0 := fun q => by
    rcases h12 with h | h
    · exact h.2.2.2.2.2
    · exact absurd q h.2.2.2.1
  have hw4 : ¬ (Fair now L.flatten ∧ Stands now L) → wchk now L = 4 := fun q => by
    rcases h12 with h | h
    · exact absurd ⟨h.2.2.2.1, h.2.2.2.2.1⟩ q
    · exact h.2.2.2.2
  obtain ⟨n, rfl⟩ : ∃ n : Nat, now = n := ⟨now.toNat, by omega⟩
  have e1 : decide ((500 : Int) < (L.flatten.length : Nat)) = false := decide_eq_false (by omega)
  rw [decide_eq_true h2] at hbt
  have hwe := wof_eq n L h96
  have hsame := sameWheel_spec n n L (wof n L.flatten) h96 (wof_len _ _) (fun l hl => by have := hz l hl; unfold maxLen; omega)
  have hwo := wheelOf_spec n (by omega) L.flatten hfb
  unfold wcs at *
  generalize L.map snapD = X at *
  generalize (wof n L.flatten).map snapD = Y at *
  refine hspec_fn Try.func10 rfl ok_custref_WheelRight okr_custref_WheelRight rfl (by kernel_rfl) ?_
  intro Γ hW0 hN0 hL0
  have hW := hW0 rfl
  clear hW0 hN0 hL0
  unfold x_custref_WheelRight r_custref_WheelRight
  refine auC ?_
  repeat' (first
    | (refine go_leG (leG_freeze hW ⟨.d0, .d0, .d3⟩ rfl rfl ⟨rfl, rfl, by rw [List.length_map]; omega⟩) ?_)
    | (refine auS ?_)
    | (first | (simp only [hT, ddrop0, e1, hxa, hfl]) | (with_reducible refine runR_callO 10 hall ?_) | (with_reducible refine runR_call hbt ?_))
    | (refine auD ?_)
    | (with_reducible refine runR_b (fun h => ?_) (fun h => ?_) <;> first | exact auH | simp only [h, runR_t, runR_f])
    | (with_reducible refine condK_bl ?_ ?_)
    | (with_reducible refine condK_b (fun h => ?_) (fun h => ?_) <;> first | exact auH | skip)
    | (first | (refine runR_n ⟨by simp only [hA, hB, allOne, lenB, oneD, oneV, andB], by decide⟩ ?_) | fail))
  (all_goals first | exact auP | skip)
  refine go_loopH (α := Nat × Nat) (fun x => [(⟨.d0, .d2, .d1⟩, .v (.int .i64 (x.1 : Nat)))]) (fun x => [(1, none)]) (fun x => x.2) (fun x => L.flatten.length - x.1) (fun x => x.1 ≤ L.flatten.length ∧ Fair n (L.flatten.take x.1)) (0, Γ.g0 + 2) ⟨Nat.zero_le _, fun d hd => by simp at hd, by simp⟩ ?_ ?_
  · skip
    refine le_mk ?_ ?_ (Nat.le_refl _)
    all_goals first | refine auE ?_ | exact auE0
    all_goals (repeat' (first | exact trivial | exact rfl | apply And.intro))
  rintro ⟨k, gn⟩ ⟨hk, hf⟩
  dsimp only at hk hf ⊢
  refine auL ?_
  generalize hF : L.flatten = F at *
  by_cases hlt : k < F.length
  · obtain ⟨d, hd⟩ : ∃ d, F[k]? = some d := ⟨_, List.getElem?_eq_getElem hlt⟩
    have w1 : IntKind.i64.wrap ((k : Int) + 1) = ((k + 1 : Nat) : Int) := by rw [IntWalk.i64_in _ (by omega)]; omega
    have w2 : IntKind.i64.wrap ((n : Int) + 1) = (n : Int) + 1 := IntWalk.i64_in _ (by omega)
    have hbd := between_spec d.t (n + 1) 16777215
    have hcf := contains_spec (g := 29) (caps := [.rptr [.v (.int .i64 d.id), .v (.int .i64 d.t)]]) (fun o => decide (o.id = d.id)) (F.take k) false (by unfold maxLen; simp; omega) (fun o _ => right1_spec o d)
    rw [any_mem] at hcf
    have hxt : xtake (xdrop (F.map Du.enc) 0) k = (F.take k).map Du.enc := by
      rw [xdrop_eq, xtake_eq, List.drop_zero, List.map_take]
    by_cases q1 : (n : Int) + 1 ≤ d.t ∧ d.t ≤ 16777215
    · rw [decide_eq_true q1] at hbd
      by_cases q2 : d.id ∈ (F.take k).map Du.id
      · rw [decide_eq_true q2] at hcf
        rw [hw4 fun q => fair_bad hd (.inr q2) q.1]
        repeat' (first
          | (refine go_leG (leG_freezeP hW ⟨.d0, .d0, .d5⟩ rfl rfl ⟨rfl, rfl, Nat.succ_pos _⟩) ?_)
          | (refine auS ?_)
          | (first | (simp only [hfl, Int.toNat_natCast, Int.sub_zero, xget_du hd, w1, w2, hxt]) | (with_reducible refine runR_call hbd ?_) | (with_reducible refine runR_call hcf ?_))
          | (refine auD ?_)
          | (with_reducible refine runR_b (fun h => ?_) (fun h => ?_) <;> first | exact auH | simp only [h, runR_t, runR_f])
          | (with_reducible refine condK_bl ?_ ?_)
          | (with_reducible refine condK_b (fun h => ?_) (fun h => ?_) <;> first | exact auH | skip)
          | (first | (refine runR_n ⟨rfl, by omega, by omega, by omega⟩ ?_) | fail))
        (all_goals first | exact auP | skip)
        all_goals refine auF ?_
        all_goals (try first | refine auR ?_ | exact auR0)
        all_goals (try simp only [hsM] at *)
      · rw [decide_eq_false q2] at hcf
        repeat' (first
          | (refine go_leG (leG_freezeP hW ⟨.d0, .d0, .d5⟩ rfl rfl ⟨rfl, rfl, Nat.succ_pos _⟩) ?_)
          | (refine auS ?_)
          | (first | (simp only [hfl, Int.toNat_natCast, Int.sub_zero, xget_du hd, w1, w2, hxt]) | (with_reducible refine runR_call hbd ?_) | (with_reducible refine runR_call hcf ?_))
          | (refine auD ?_)
          | (with_reducible refine runR_b (fun h => ?_) (fun h => ?_) <;> first | exact auH | simp only [h, runR_t, runR_f])
          | (with_reducible refine condK_bl ?_ ?_)
          | (with_reducible refine condK_b (fun h => ?_) (fun h => ?_) <;> first | exact auH | skip)
          | (first | (refine runR_n ⟨rfl, by omega, by omega, by omega⟩ ?_) | fail))
        (all_goals first | exact auP | skip)
        refine nx_loop ⟨(k + 1, gn + 1), ⟨hlt, fair_next hd hf (by omega) q2⟩, Nat.sub_lt_sub_left hlt (Nat.lt_succ_self k), ?_⟩
        refine le_mk ?_ ?_ (Nat.le_refl _)
        all_goals first | refine auE ?_ | exact auE0
        all_goals (repeat' (first | exact trivial | exact rfl | apply And.intro))
    · rw [decide_eq_false q1] at hbd
      rw [hw4 fun q => fair_bad hd (.inl (by omega)) q.1]
      repeat' (first
        | (refine go_leG (leG_freezeP hW ⟨.d0, .d0, .d5⟩ rfl rfl ⟨rfl, rfl, Nat.succ_pos _⟩) ?_)
        | (refine auS ?_)
        | (first | (simp only [hfl, Int.toNat_natCast, Int.sub_zero, xget_du hd, w1, w2, hxt]) | (with_reducible refine runR_call hbd ?_))
        | (refine auD ?_)
        | (with_reducible refine runR_b (fun h => ?_) (fun h => ?_) <;> first | exact auH | simp only [h, runR_t, runR_f])
        | (with_reducible refine condK_bl ?_ ?_)
        | (with_reducible refine condK_b (fun h => ?_) (fun h => ?_) <;> first | exact auH | skip)
        | fail)
      (all_goals first | exact auP | skip)
      all_goals refine auF ?_
      all_goals (try first | refine auR ?_ | exact auR0)
      all_goals (try simp only [hsM] at *)
  · obtain rfl : k = F.length := by omega
    rw [List.take_length] at hf
    have hwo2 := hwo hf.1
    by_cases q : Stands n L
    · rw [hw0 ⟨hf, q⟩]
      rw [decide_eq_true (hwe.2 q).symm] at hsame
      simp only [decide_true, Bool.and_self] at hsame
      repeat' (first
        | (refine auS ?_)
        | (first | (simp only [hfl, hT]) | (with_reducible refine runR_call hwo2 ?_) | (with_reducible refine runR_call hsame ?_))
        | (refine auD ?_)
        | (with_reducible refine runR_b (fun h => ?_) (fun h => ?_) <;> first | exact auH | simp only [h, runR_t, runR_f])
        | (with_reducible refine condK_bl ?_ ?_)
        | (with_reducible refine condK_b (fun h => ?_) (fun h => ?_) <;> first | exact auH | skip)
        | fail)
      (all_goals first | exact auP | skip)
      all_goals refine auF ?_
      all_goals (try first | refine auR ?_ | exact auR0)
      all_goals (try simp only [hsM] at *)
    · rw [hw4 fun z => q z.2]
      rw [decide_eq_false fun z => q (hwe.1 z.symm), Bool.false_and] at hsame
      repeat' (first
        | (refine auS ?_)
        | (first | (simp only [hfl, hT]) | (with_reducible refine runR_call hwo2 ?_) | (with_reducible refine runR_call hsame ?_))
        | (refine auD ?_)
        | (with_reducible refine runR_b (fun h => ?_) (fun h => ?_) <;> first | exact auH | simp only [h, runR_t, runR_f])
        | (with_reducible refine condK_bl ?_ ?_)
        | (with_reducible refine condK_b (fun h => ?_) (fun h => ?_) <;> first | exact auH | skip)
        | fail)
      (all_goals first | exact auP | skip)
      all_goals refine auF ?_
      all_goals (try first | refine auR ?_ | exact auR0)
      all_goals (try simp only [hsM] at *)
end Go.Proofs.Ytecnjhmpipfldaa
