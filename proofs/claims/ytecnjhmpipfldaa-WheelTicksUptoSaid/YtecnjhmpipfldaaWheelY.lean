/-
  A wheel of what is due: counted, gathered, compared, searched.
-/
import Derived.Test.YtecnjhmpipfldaaWheelX
import Derived.Test.YtecnjhmpipfldaaMapC
namespace Go.Proofs.Ytecnjhmpipfldaa
set_option linter.unusedVariables false
set_option linter.unusedSimpArgs false
abbrev snapD (l : List Du) : DV := .snap 2 (l.map Du.enc) false
/-- The cells of a wheel. -/
abbrev wcs (now : Int) (L : WL) : List DV := .v (.int .i64 now) :: L.map snapD
theorem dget_ddrop : ∀ (X : List DV) (i : Nat) (d : DV), X[i]? = some d → dget (ddrop X i) 0 = d
  | [], i, d, h => by simp at h
  | x :: r, 0, d, h => by
    simp at h
    exact h
  | x :: r, i + 1, d, h => dget_ddrop r i d (by simpa using h)
theorem ddrop0 : ∀ X : List DV, ddrop X 0 = X
  | [] => rfl
  | _ :: _ => rfl
theorem lenB_len : ∀ (X : List DV), lenB X X.length = true
  | [] => rfl
  | x :: r => lenB_len r
theorem dtake_all : ∀ (X : List DV), dtake X X.length = X
  | [] => rfl
  | x :: r => by
    show x :: dtake r r.length = x :: r
    rw [dtake_all r]
theorem allOne_snap : ∀ (L : WL), allOne (L.map snapD) = true
  | [] => rfl
  | l :: r => allOne_snap r
theorem snaps {L : WL} (h96 : L.length = 96) : allOne (L.map snapD) = true ∧ lenB (L.map snapD) 96 = true ∧ (L.map snapD).length = 96 ∧ dtake (ddrop (L.map snapD) 0) 96 = L.map snapD ∧ ∀ (i : Nat) (l : List Du), L[i]? = some l → dget (ddrop (L.map snapD) i) 0 = snapD l := by
  have hl : (L.map snapD).length = 96 := by simpa using h96
  refine ⟨allOne_snap L, ?_, hl, ?_, fun i l hi => dget_ddrop _ i _ (by rw [List.getElem?_map, hi]; rfl)⟩
  · have := lenB_len (L.map snapD)
    rwa [hl] at this
  · have := dtake_all (L.map snapD)
    rw [hl] at this
    rw [ddrop0]
    exact this
theorem flat_le {B : Nat} : ∀ {L : WL}, (∀ l ∈ L, l.length ≤ B) → L.flatten.length ≤ L.length * B
  | [], _ => by simp
  | l :: r, h => by
    have h1 := h l (by simp)
    have h2 := flat_le (L := r) (fun x hx => h x (by simp [hx]))
    rw [List.flatten_cons, List.length_append, List.length_cons, Nat.succ_mul]
    omega
theorem flat_take {L : WL} {i : Nat} {l : List Du} (h : L[i]? = some l) : (L.take (i + 1)).flatten = (L.take i).flatten ++ l := by rw [take_snoc h]; simp
theorem flat_bd {L : WL} (h96 : L.length = 96) (hz : ∀ l ∈ L, l.length ≤ 1407374) (i : Nat) : (L.take i).flatten.length ≤ 135107904 := by
  have h1 := flat_le (L := L.take i) (B := 1407374) (fun l hl => hz l (List.mem_of_mem_take hl))
  have h2 : (L.take i).length ≤ 96 := by simp; omega
  have h3 := Nat.mul_le_mul_right 1407374 h2
  omega
theorem xget_du {l : List Du} {k : Nat} {t : Du} (ht : l[k]? = some t) : xget (l.map Du.enc) k = [.v (.int .i64 t.id), .v (.int .i64 t.t)] := xget_map Du.enc l k t ht
theorem count_spec (now : Int) (L : WL) (h96 : L.length = 96) (hz : ∀ l ∈ L, l.length ≤ 1407374) : Spec Try.prog 16 [.agg (wcs now L)] (.v (.int .i64 (L.flatten.length : Nat))) := by
  obtain ⟨hA, hB, hL, hT, hG⟩ := snaps h96
  unfold wcs
  generalize L.map snapD = X at *
  refine hspec_fn Try.func16 rfl ok_wheel_count okr_wheel_count rfl (by kernel_rfl) ?_
  intro Γ hW0 hN0 hL0
  have hW := hW0 rfl
  clear hW0 hN0 hL0
  unfold x_wheel_count r_wheel_count
  refine auC ?_
  repeat' (first
    | (refine auS ?_)
    | (simp only [hT])
    | (refine auD ?_)
    | (with_reducible refine runR_b (fun h => ?_) (fun h => ?_) <;> first | exact auH | simp only [h, runR_t, runR_f])
    | (with_reducible refine condK_bl ?_ ?_)
    | (with_reducible refine condK_b (fun h => ?_) (fun h => ?_) <;> first | exact auH | skip)
    | (first | (refine runR_n ⟨by simp only [hA, hB, allOne, lenB, oneD, oneV, andB], by decide⟩ ?_) | fail))
  refine go_loopH (α := Nat) (fun i => [(⟨.d0, .d0, .d3⟩, .v (.int .i64 ((L.take i).flatten.length : Nat))), (⟨.d0, .d1, .d0⟩, .v (.int .i64 (i : Nat)))]) (fun _ => []) (fun _ => Γ.g0 + 1) (fun i => 96 - i) (fun i => i ≤ 96) 0 (Nat.zero_le _) ?_ ?_
  · skip
    refine le_mk ?_ ?_ (Nat.le_refl _)
    all_goals first | refine auE ?_ | exact auE0
    all_goals (repeat' (first | exact trivial | exact rfl | apply And.intro))
  intro i hi
  dsimp only at hi ⊢
  refine auL ?_
  have hbd := flat_bd h96 hz i
  by_cases hlt : i < 96
  · obtain ⟨l, hl⟩ : ∃ l, L[i]? = some l := ⟨_, List.getElem?_eq_getElem (by omega)⟩
    have hg := hG i l hl
    have hft := congrArg List.length (flat_take hl)
    rw [List.length_append] at hft
    have hll := hz l (List.mem_of_getElem? hl)
    have w1 : IntKind.i64.wrap ((i : Int) + 1) = ((i + 1 : Nat) : Int) := by rw [IntWalk.i64_in _ (by omega)]; omega
    have hdl : (l.map Du.enc).length = l.length := List.length_map _
    have w2 : IntKind.i64.wrap (((L.take i).flatten.length : Nat) + (l.length : Nat)) = (((L.take (i + 1)).flatten.length : Nat) : Int) := by rw [IntWalk.i64_in _ (by omega)]; omega
    have hn1 : i * 1 + 1 ≤ X.length := by omega
    repeat' (first
      | (refine auS ?_)
      | (simp only [hL, Int.toNat_natCast, Nat.mul_one, hg, hdl, w1, w2])
      | (refine auD ?_)
      | (with_reducible refine runR_b (fun h => ?_) (fun h => ?_) <;> first | exact auH | simp only [h, runR_t, runR_f])
      | (with_reducible refine condK_bl ?_ ?_)
      | (with_reducible refine condK_b (fun h => ?_) (fun h => ?_) <;> first | exact auH | skip)
      | (first | (refine runR_n (by omega) ?_) | fail))
    (all_goals first | exact auP | skip)
    refine nx_loop ⟨i + 1, hlt, by omega, ?_⟩
    refine le_mk ?_ ?_ (Nat.le_refl _)
    all_goals first | refine auE ?_ | exact auE0
    all_goals (repeat' (first | exact trivial | exact rfl | apply And.intro))
  · obtain rfl : i = 96 := by omega
    rw [List.take_of_length_le (by omega)]
    repeat' (first
      | (refine auS ?_)
      | fail
      | (refine auD ?_)
      | (with_reducible refine runR_b (fun h => ?_) (fun h => ?_) <;> first | exact auH | simp only [h, runR_t, runR_f])
      | (with_reducible refine condK_bl ?_ ?_)
      | (with_reducible refine condK_b (fun h => ?_) (fun h => ?_) <;> first | exact auH | skip)
      | fail)
    (all_goals first | exact auP | skip)
    all_goals refine auF ?_
    all_goals (try first | refine auR ?_ | exact auR0)
    all_goals (try simp only [hsM] at *)
theorem room_due {n : Nat} (h : n ≤ 135107904) : room n 16 := by
  unfold room maxLen
  omega
theorem ones_du (l : List Du) : allOnes (l.map Du.enc) = true := allOnes_map (fun x => rfl) l
theorem allDue0 (now : Int) (L : WL) (h96 : L.length = 96) (hz : ∀ l ∈ L, l.length ≤ 1407374) : OSpec Try.prog 19 [.agg (wcs now L)] [] (fun n d H => d = .sl 1 n 2 0 L.flatten.length false ∧ H = [some ⟨n, 2, L.flatten.map Du.enc⟩]) := by
  obtain ⟨hA, hB, hL, hT, hG⟩ := snaps h96
  unfold wcs
  generalize L.map snapD = X at *
  refine ospec_fn Try.func19 rfl ok_custref_AllDue okr_custref_AllDue rfl (by kernel_rfl) ?_
  intro Γ hW0 hN0 hL0
  have hW := hW0 rfl
  clear hW0 hN0 hL0
  unfold x_custref_AllDue r_custref_AllDue
  refine auC ?_
  repeat' (first
    | (refine auS ?_)
    | (simp only [hT])
    | (refine auD ?_)
    | (with_reducible refine runR_b (fun h => ?_) (fun h => ?_) <;> first | exact auH | simp only [h, runR_t, runR_f])
    | (with_reducible refine condK_bl ?_ ?_)
    | (with_reducible refine condK_b (fun h => ?_) (fun h => ?_) <;> first | exact auH | skip)
    | (first | (refine runR_n ⟨by simp only [hA, hB, allOne, lenB, oneD, oneV, andB], by decide⟩ ?_) | fail))
  apply go_le
  · exact le_row ⟨.d0, .d0, .d3⟩ 1 2 rfl rfl
  refine auL ?_
  refine go_loopH (α := Nat × Nat × Nat) (fun x => [(⟨.d0, .d0, .d3⟩, .sl 1 x.2.1 2 0 (L.take x.1).flatten.length false), (⟨.d0, .d1, .d0⟩, .v (.int .i64 (x.1 : Nat)))]) (fun x => [(1, some ⟨x.2.1, 2, (L.take x.1).flatten.map Du.enc⟩)]) (fun x => x.2.2) (fun x => 96 - x.1) (fun x => x.1 ≤ 96 ∧ Γ.g0 ≤ x.2.1 ∧ Γ.g0 ≤ x.2.2) (0, Γ.g0 + 1, Γ.g0 + 2) ⟨Nat.zero_le _, by dsimp only; omega, by dsimp only; omega⟩ ?_ ?_
  · skip
    refine le_mk ?_ ?_ (Nat.le_refl _)
    all_goals first | refine auE ?_ | exact auE0
    all_goals (repeat' (first | exact trivial | exact rfl | apply And.intro))
  rintro ⟨i, nm, gn⟩ ⟨hi, hnm, hgn⟩
  dsimp only at hi hnm hgn ⊢
  refine auL ?_
  have hbd := flat_bd h96 hz (i + 1)
  by_cases hlt : i < 96
  · obtain ⟨l, hl⟩ : ∃ l, L[i]? = some l := ⟨_, List.getElem?_eq_getElem (by omega)⟩
    have hg := hG i l hl
    have hft := flat_take hl
    have hll := congrArg List.length hft
    rw [List.length_append] at hll
    have w1 : IntKind.i64.wrap ((i : Int) + 1) = ((i + 1 : Nat) : Int) := by rw [IntWalk.i64_in _ (by omega)]; omega
    have hone := ones_du l
    have hn1 : i * 1 + 1 ≤ X.length := by omega
    have hln : ((L.take i).flatten.map Du.enc).length = (L.take i).flatten.length := List.length_map _
    have hdl : (l.map Du.enc).length = l.length := List.length_map _
    have hrm : room ((L.take i).flatten.length + l.length) 16 := room_due (by omega)
    rw [hll] at hbd
    repeat' (first
      | (refine auS ?_)
      | (simp only [hL, Int.toNat_natCast, Nat.mul_one, hg, hln, hdl, w1])
      | (refine auD ?_)
      | (with_reducible refine runR_b (fun h => ?_) (fun h => ?_) <;> first | exact auH | simp only [h, runR_t, runR_f])
      | (with_reducible refine condK_bl ?_ ?_)
      | (with_reducible refine condK_b (fun h => ?_) (fun h => ?_) <;> first | exact auH | skip)
      | (first | (refine runR_n (by omega) ?_) | (refine runR_n ⟨rfl, rfl, rfl, rfl, hln.symm⟩ ?_) | (refine runR_n ⟨hone, hrm⟩ ?_) | fail))
    (all_goals first | exact auP | skip)
    refine nx_loop ⟨(i + 1, gn, gn + 1), ⟨hlt, by dsimp only; omega, by dsimp only; omega⟩, by dsimp only; omega, ?_⟩
    refine le_mk ?_ ?_ (Nat.le_refl _)
    all_goals first | refine auE ?_ | exact auE0
    all_goals (repeat' (first | exact trivial | exact rfl | apply And.intro))
    · rw [hll]
    · rw [hft, List.map_append]
  · obtain rfl : i = 96 := by omega
    rw [List.take_of_length_le (by omega)]
    repeat' (first
      | (refine auS ?_)
      | fail
      | (refine auD ?_)
      | (with_reducible refine runR_b (fun h => ?_) (fun h => ?_) <;> first | exact auH | simp only [h, runR_t, runR_f])
      | (with_reducible refine condK_bl ?_ ?_)
      | (with_reducible refine condK_b (fun h => ?_) (fun h => ?_) <;> first | exact auH | skip)
      | fail)
    (all_goals first | exact auP | skip)
    refine ret_ospec 1 (fun n => .sl 1 n 2 0 L.flatten.length false) trivial rfl hnm (nfLL_map (fun x => by simp [Du.enc, nfL, nfD])) (fun n => .inl ⟨rfl, rfl⟩) (fun n => ⟨rfl, rfl⟩)
theorem allDue_spec (j : Nat) (now : Int) (L : WL) (h96 : L.length = 96) (hz : ∀ l ∈ L, l.length ≤ 1407374) : OSpec Try.prog 19 [.agg (wcs now L)] [] (fun n d H => d = .sl j n 2 0 L.flatten.length false ∧ H = [some ⟨n, 2, L.flatten.map Du.enc⟩]) :=
  ospec_as (allDue0 now L h96 hz) (fun K w n v h => sl_label h)
end Go.Proofs.Ytecnjhmpipfldaa
