/-
  The library's functions over parts and heaps.
-/
import Derived.Test.YtidogmmfakcfgaaFeedP
import Derived.Test.YtidogmmfakcfgaaCallG
namespace Go.Proofs.Ytidogmmfakcfgaa
set_option linter.unusedVariables false
set_option linter.unusedSimpArgs false
@[simp] theorem pt_nf (g : Nat) (l : List Pt) : nfLL g (l.map Pt.enc) := nfLL_map (fun x => by simp [nfL, nfD])
@[simp] theorem hp_nf (g : Nat) (l : List Hp) : nfLL g (l.map Hp.enc) := nfLL_map (fun x => by simp [nfL, nfD])
set_option maxHeartbeats 1000000 in
theorem ptclone1 (l : List Pt) (c : Bool) (hl : room l.length 32) : OSpec Try.prog 23 [.snap 3 (l.map Pt.enc) c] [] (fun n d H => d = .sl 1 n 3 0 l.length false ∧ H = [some ⟨n, 3, l.map Pt.enc⟩]) := by
  have hones : ∀ r : List Pt, allOnes (r.map Pt.enc) = true := allOnes_map (fun x => rfl)
  cases l with
  | nil =>
    refine ospec_fn Try.func23 rfl ok_slices_Clone_api_Part okr_slices_Clone_api_Part rfl (by kernel_rfl) ?_
    intro Γ hW0 hN0 hL0
    have hW := hW0 rfl
    clear hW0 hN0 hL0
    unfold x_slices_Clone_api_Part r_slices_Clone_api_Part
    with_reducible refine auC ?_
    dsimp only [List.map]
    repeat' (first
      | (with_reducible refine auS ?_)
      | (with_reducible refine runR_l ?_)
      | (with_reducible refine auD ?_)
      | ((with_reducible refine auB ?_ ?_); all_goals first | ((with_reducible intro h); first | exact auH | simp only [h, runR_t, runR_f] | skip) | skip)
      | fail)
    · refine retqo_le (le_leG (le_row ⟨.d0, .d0, .d2⟩ 1 3 rfl rfl)) ?_
      exact ret_ospec 1 (fun n => .sl 1 n 3 0 0 false) trivial rfl (Nat.le_refl _) trivial (fun n => .inl ⟨rfl, rfl⟩) (fun n => ⟨rfl, rfl⟩)
    · exact ret_ospec 1 (fun n => .sl 1 n 3 0 0 false) trivial rfl (by show Γ.g0 ≤ Γ.g0 + 1; omega) trivial (fun n => .inl ⟨rfl, rfl⟩) (fun n => ⟨rfl, rfl⟩)
  | cons x r =>
    refine ospec_fn Try.func23 rfl ok_slices_Clone_api_Part okr_slices_Clone_api_Part rfl (by kernel_rfl) ?_
    intro Γ hW0 hN0 hL0
    have hW := hW0 rfl
    clear hW0 hN0 hL0
    unfold x_slices_Clone_api_Part r_slices_Clone_api_Part
    with_reducible refine auC ?_
    dsimp only [List.map]
    repeat' (first
      | (with_reducible refine auS ?_)
      | (with_reducible refine runR_l ?_)
      | (with_reducible refine auD ?_)
      | ((with_reducible refine auB ?_ ?_); all_goals first | ((with_reducible intro h); first | exact auH | simp only [h, runR_t, runR_f] | skip) | skip)
      | (refine runR_n ⟨Or.inl (by omega), rfl, hones _, by simp only [room, maxLen, List.length_map, List.length_cons] at hl ⊢; omega⟩ ?_))
    refine ret_ospec 1 (fun n => .sl 1 n 3 0 (x :: r).length false) trivial rfl (by show Γ.g0 ≤ Γ.g0 + 1; omega) ?_ (fun n => .inl ⟨rfl, ?_⟩) (fun n => ⟨rfl, rfl⟩)
    · exact (nfLL_map (fun x => by simp [nfL, nfD]) : nfLL Γ.g0 ((x :: r).map Pt.enc))
    · simp [List.length_map]
theorem ptclone_spec (j : Nat) (l : List Pt) (c : Bool) (hl : room l.length 32) : OSpec Try.prog 23 [.snap 3 (l.map Pt.enc) c] [] (fun n d H => d = .sl j n 3 0 l.length false ∧ H = [some ⟨n, 3, l.map Pt.enc⟩]) :=
  ospec_as (ptclone1 l c hl) (fun K w n v h => sl_label h)
set_option maxHeartbeats 1000000 in
theorem ptclonef_spec (l : List Pt) (c : Bool) (hl : room l.length 32) : Spec Try.prog 23 [.snap 3 (l.map Pt.enc) c] (.snap 3 (l.map Pt.enc) false) := by
  have hones : ∀ r : List Pt, allOnes (r.map Pt.enc) = true := allOnes_map (fun x => rfl)
  have hnf : ∀ g, nfLL g (l.map Pt.enc) := fun g => nfLL_map (fun x => by simp [nfL, nfD])
  cases l with
  | nil =>
    refine hspec_fn Try.func23 rfl ok_slices_Clone_api_Part okr_slices_Clone_api_Part rfl (by kernel_rfl) ?_
    intro Γ hW0 hN0 hL0
    have hW := hW0 rfl
    clear hW0 hN0 hL0
    unfold x_slices_Clone_api_Part r_slices_Clone_api_Part
    with_reducible refine auC ?_
    dsimp only [List.map]
    repeat' (first
      | (with_reducible refine auS ?_)
      | (with_reducible refine runR_l ?_)
      | (with_reducible refine auD ?_)
      | ((with_reducible refine auB ?_ ?_); all_goals first | ((with_reducible intro h); first | exact auH | simp only [h, runR_t, runR_f] | skip) | skip)
      | fail)
    · refine retq_le (le_leG (le_row ⟨.d0, .d0, .d2⟩ 1 3 rfl rfl)) (retq_le (leG_freeze hW ⟨.d0, .d0, .d2⟩ rfl rfl ⟨rfl, rfl, by exact Nat.le_refl _⟩) ?_)
      dsimp only [xtake, xdrop]
      all_goals with_reducible refine auF ?_
      all_goals (try first | with_reducible refine auR ?_ | exact auR0)
      all_goals (try simp only [hsM] at *)
    · refine retq_le (leG_freeze hW ⟨.d0, .d0, .d2⟩ rfl rfl ⟨rfl, rfl, by exact Nat.le_refl _⟩) ?_
      rw [show xtake (xdrop (([] : List (List DV)) ++ []) 0) 0 = [] from rfl]
      all_goals with_reducible refine auF ?_
      all_goals (try first | with_reducible refine auR ?_ | exact auR0)
      all_goals (try simp only [hsM] at *)
  | cons x r =>
    refine hspec_fn Try.func23 rfl ok_slices_Clone_api_Part okr_slices_Clone_api_Part rfl (by kernel_rfl) ?_
    intro Γ hW0 hN0 hL0
    have hW := hW0 rfl
    clear hW0 hN0 hL0
    unfold x_slices_Clone_api_Part r_slices_Clone_api_Part
    with_reducible refine auC ?_
    dsimp only [List.map]
    repeat' (first
      | (with_reducible refine auS ?_)
      | (with_reducible refine runR_l ?_)
      | (with_reducible refine auD ?_)
      | ((with_reducible refine auB ?_ ?_); all_goals first | ((with_reducible intro h); first | exact auH | simp only [h, runR_t, runR_f] | skip) | skip)
      | (refine runR_n ⟨Or.inl (by omega), rfl, hones _, by simp only [room, maxLen, List.length_map, List.length_cons] at hl ⊢; omega⟩ ?_))
    refine retq_le (leG_freeze hW ⟨.d0, .d0, .d2⟩ rfl rfl ⟨rfl, rfl, by simp⟩) ?_
    rw [show xtake (xdrop ([] ++ Pt.enc x :: r.map Pt.enc) 0) (0 + ((r.map Pt.enc).length + 1)) = (x :: r).map Pt.enc from xall (by simp)]
    have hnf1 := hnf Γ.g0
    all_goals with_reducible refine auF ?_
    all_goals (try first | with_reducible refine auR ?_ | exact auR0)
    all_goals (try simp only [hsM] at *)
    all_goals rfl
set_option maxHeartbeats 1000000 in
theorem pteq_same (l : List Pt) (c c' : Bool) (hl : l.length ≤ maxLen) : Spec Try.prog 32 [.snap 3 (l.map Pt.enc) c, .snap 3 (l.map Pt.enc) c'] (.v (.bool true)) := by
  unfold maxLen at hl
  refine hspec_fn Try.func32 rfl ok_slices_Equal_api_Part okr_slices_Equal_api_Part rfl (by kernel_rfl) ?_
  intro Γ hW0 hN0 hL0
  have hW := hW0 rfl
  clear hW0 hN0 hL0
  unfold x_slices_Equal_api_Part r_slices_Equal_api_Part
  with_reducible refine auC ?_
  repeat' (first
    | (with_reducible refine auS ?_)
    | fail
    | (with_reducible refine auD ?_)
    | ((with_reducible refine auB ?_ ?_); all_goals first | ((with_reducible intro h); first | exact auH | simp only [h, runR_t, runR_f] | skip) | skip)
    | fail)
  refine go_loopH (α := Nat) (fun k => [(⟨.d0, .d1, .d5⟩, .v (.int .i64 (k : Nat)))]) (fun _ => []) (fun _ => Γ.g0) (fun k => l.length - k) (fun k => k ≤ l.length) 0 (Nat.zero_le _) ?_ ?_
  · skip
    refine le_mk ?_ ?_ (Nat.le_refl _)
    all_goals first | with_reducible refine auE ?_ | exact auE0
    all_goals (repeat' (first | exact trivial | exact rfl | apply And.intro))
  · rintro k hk
    with_reducible refine auL ?_
    by_cases hlt : k < l.length
    · obtain ⟨t, ht⟩ : ∃ t, l[k]? = some t := ⟨_, List.getElem?_eq_getElem hlt⟩
      have ex := xget_map Pt.enc l k t ht
      repeat' (first
        | (with_reducible refine auS ?_)
        | fail
        | (with_reducible refine auD ?_)
        | ((with_reducible refine auB ?_ ?_); all_goals first | ((with_reducible intro h); first | exact auH | simp only [h, runR_t, runR_f] | skip) | skip)
        | (simp only [Int.toNat_natCast, ex]))
      (all_goals first | exact auP | skip)
      all_goals first
        | (exfalso; simp at h; done)
        | (refine nx_loop ⟨k + 1, Nat.succ_le_of_lt hlt, Nat.sub_lt_sub_left hlt (Nat.lt_succ_self k), ?_⟩
           (refine le_mk ?_ ?_ (Nat.le_refl _)); (all_goals first | with_reducible refine auE ?_ | exact auE0); (all_goals (repeat' (first | exact trivial | exact rfl | apply And.intro)))
           all_goals exact dint ((IntWalk.i64_in _ (by omega)).trans (by omega)))
    · skip
      repeat' (first
        | (with_reducible refine auS ?_)
        | fail
        | (with_reducible refine auD ?_)
        | ((with_reducible refine auB ?_ ?_); all_goals first | ((with_reducible intro h); first | exact auH | simp only [h, runR_t, runR_f] | skip) | skip)
        | fail)
      (all_goals first | exact auP | skip)
      all_goals with_reducible refine auF ?_
      all_goals (try first | with_reducible refine auR ?_ | exact auR0)
      all_goals (try simp only [hsM] at *)
set_option maxHeartbeats 1000000 in
theorem hpclone1 (l : List Hp) (c : Bool) (hl : room l.length 80) : OSpec Try.prog 21 [.snap 8 (l.map Hp.enc) c] [] (fun n d H => d = .sl 1 n 8 0 l.length false ∧ H = [some ⟨n, 8, l.map Hp.enc⟩]) := by
  have hones : ∀ r : List Hp, allOnes (r.map Hp.enc) = true := allOnes_map (fun x => rfl)
  cases l with
  | nil =>
    refine ospec_fn Try.func21 rfl ok_slices_Clone_api_Heap okr_slices_Clone_api_Heap rfl (by kernel_rfl) ?_
    intro Γ hW0 hN0 hL0
    have hW := hW0 rfl
    clear hW0 hN0 hL0
    unfold x_slices_Clone_api_Heap r_slices_Clone_api_Heap
    with_reducible refine auC ?_
    dsimp only [List.map]
    repeat' (first
      | (with_reducible refine auS ?_)
      | (with_reducible refine runR_l ?_)
      | (with_reducible refine auD ?_)
      | ((with_reducible refine auB ?_ ?_); all_goals first | ((with_reducible intro h); first | exact auH | simp only [h, runR_t, runR_f] | skip) | skip)
      | fail)
    · refine retqo_le (le_leG (le_row ⟨.d0, .d0, .d2⟩ 1 8 rfl rfl)) ?_
      exact ret_ospec 1 (fun n => .sl 1 n 8 0 0 false) trivial rfl (Nat.le_refl _) trivial (fun n => .inl ⟨rfl, rfl⟩) (fun n => ⟨rfl, rfl⟩)
    · exact ret_ospec 1 (fun n => .sl 1 n 8 0 0 false) trivial rfl (by show Γ.g0 ≤ Γ.g0 + 1; omega) trivial (fun n => .inl ⟨rfl, rfl⟩) (fun n => ⟨rfl, rfl⟩)
  | cons x r =>
    refine ospec_fn Try.func21 rfl ok_slices_Clone_api_Heap okr_slices_Clone_api_Heap rfl (by kernel_rfl) ?_
    intro Γ hW0 hN0 hL0
    have hW := hW0 rfl
    clear hW0 hN0 hL0
    unfold x_slices_Clone_api_Heap r_slices_Clone_api_Heap
    with_reducible refine auC ?_
    dsimp only [List.map]
    repeat' (first
      | (with_reducible refine auS ?_)
      | (with_reducible refine runR_l ?_)
      | (with_reducible refine auD ?_)
      | ((with_reducible refine auB ?_ ?_); all_goals first | ((with_reducible intro h); first | exact auH | simp only [h, runR_t, runR_f] | skip) | skip)
      | (refine runR_n ⟨Or.inl (by omega), rfl, hones _, by simp only [room, maxLen, List.length_map, List.length_cons] at hl ⊢; omega⟩ ?_))
    refine ret_ospec 1 (fun n => .sl 1 n 8 0 (x :: r).length false) trivial rfl (by show Γ.g0 ≤ Γ.g0 + 1; omega) ?_ (fun n => .inl ⟨rfl, ?_⟩) (fun n => ⟨rfl, rfl⟩)
    · exact (nfLL_map (fun x => by simp [nfL, nfD]) : nfLL Γ.g0 ((x :: r).map Hp.enc))
    · simp [List.length_map]
theorem hpclone_spec (j : Nat) (l : List Hp) (c : Bool) (hl : room l.length 80) : OSpec Try.prog 21 [.snap 8 (l.map Hp.enc) c] [] (fun n d H => d = .sl j n 8 0 l.length false ∧ H = [some ⟨n, 8, l.map Hp.enc⟩]) :=
  ospec_as (hpclone1 l c hl) (fun K w n v h => sl_label h)
set_option maxHeartbeats 1000000 in
theorem hpclonef_spec (l : List Hp) (c : Bool) (hl : room l.length 80) : Spec Try.prog 21 [.snap 8 (l.map Hp.enc) c] (.snap 8 (l.map Hp.enc) false) := by
  have hones : ∀ r : List Hp, allOnes (r.map Hp.enc) = true := allOnes_map (fun x => rfl)
  have hnf : ∀ g, nfLL g (l.map Hp.enc) := fun g => nfLL_map (fun x => by simp [nfL, nfD])
  cases l with
  | nil =>
    refine hspec_fn Try.func21 rfl ok_slices_Clone_api_Heap okr_slices_Clone_api_Heap rfl (by kernel_rfl) ?_
    intro Γ hW0 hN0 hL0
    have hW := hW0 rfl
    clear hW0 hN0 hL0
    unfold x_slices_Clone_api_Heap r_slices_Clone_api_Heap
    with_reducible refine auC ?_
    dsimp only [List.map]
    repeat' (first
      | (with_reducible refine auS ?_)
      | (with_reducible refine runR_l ?_)
      | (with_reducible refine auD ?_)
      | ((with_reducible refine auB ?_ ?_); all_goals first | ((with_reducible intro h); first | exact auH | simp only [h, runR_t, runR_f] | skip) | skip)
      | fail)
    · refine retq_le (le_leG (le_row ⟨.d0, .d0, .d2⟩ 1 8 rfl rfl)) (retq_le (leG_freeze hW ⟨.d0, .d0, .d2⟩ rfl rfl ⟨rfl, rfl, by exact Nat.le_refl _⟩) ?_)
      dsimp only [xtake, xdrop]
      all_goals with_reducible refine auF ?_
      all_goals (try first | with_reducible refine auR ?_ | exact auR0)
      all_goals (try simp only [hsM] at *)
    · refine retq_le (leG_freeze hW ⟨.d0, .d0, .d2⟩ rfl rfl ⟨rfl, rfl, by exact Nat.le_refl _⟩) ?_
      rw [show xtake (xdrop (([] : List (List DV)) ++ []) 0) 0 = [] from rfl]
      all_goals with_reducible refine auF ?_
      all_goals (try first | with_reducible refine auR ?_ | exact auR0)
      all_goals (try simp only [hsM] at *)
  | cons x r =>
    refine hspec_fn Try.func21 rfl ok_slices_Clone_api_Heap okr_slices_Clone_api_Heap rfl (by kernel_rfl) ?_
    intro Γ hW0 hN0 hL0
    have hW := hW0 rfl
    clear hW0 hN0 hL0
    unfold x_slices_Clone_api_Heap r_slices_Clone_api_Heap
    with_reducible refine auC ?_
    dsimp only [List.map]
    repeat' (first
      | (with_reducible refine auS ?_)
      | (with_reducible refine runR_l ?_)
      | (with_reducible refine auD ?_)
      | ((with_reducible refine auB ?_ ?_); all_goals first | ((with_reducible intro h); first | exact auH | simp only [h, runR_t, runR_f] | skip) | skip)
      | (refine runR_n ⟨Or.inl (by omega), rfl, hones _, by simp only [room, maxLen, List.length_map, List.length_cons] at hl ⊢; omega⟩ ?_))
    refine retq_le (leG_freeze hW ⟨.d0, .d0, .d2⟩ rfl rfl ⟨rfl, rfl, by simp⟩) ?_
    rw [show xtake (xdrop ([] ++ Hp.enc x :: r.map Hp.enc) 0) (0 + ((r.map Hp.enc).length + 1)) = (x :: r).map Hp.enc from xall (by simp)]
    have hnf1 := hnf Γ.g0
    all_goals with_reducible refine auF ?_
    all_goals (try first | with_reducible refine auR ?_ | exact auR0)
    all_goals (try simp only [hsM] at *)
    all_goals rfl
set_option maxHeartbeats 1000000 in
theorem hpdelete0 (l : List Hp) (i j : Nat) (hij : i ≤ j) (hj : j ≤ l.length) (hl : l.length ≤ maxLen) (n : Nat) : HSpec Try.prog 15 [.sl 0 n 8 0 l.length false, .v (.int .i64 i), .v (.int .i64 j)] [some ⟨n, 8, l.map Hp.enc⟩] (fun d H => d = .sl 0 n 8 0 (l.take i ++ l.drop j).length false ∧ H = [some ⟨n, 8, (l.take i ++ l.drop j).map Hp.enc⟩]) := by
  have hones : ∀ r : List Hp, allOnes (r.map Hp.enc) = true := allOnes_map (fun x => rfl)
  have ej : xtake (xdrop (l.map Hp.enc) j) ((l.length : Int) - j).toNat = (l.drop j).map Hp.enc := by rw [xtake_eq, xdrop_eq, ← List.map_drop, ← List.map_take, List.take_of_length_le (by rw [List.length_drop]; omega)]
  have hlen : (xtake (l.map Hp.enc) i ++ ((l.drop j).map Hp.enc ++ xdrop (l.map Hp.enc) (i + (l.length - j)))).length = l.length := by rw [xtake_eq, xdrop_eq]; simp; omega
  unfold maxLen at hl
  refine hspec_fn Try.func15 rfl ok_slices_Delete_api_Heap okr_slices_Delete_api_Heap rfl (by kernel_rfl) ?_
  intro Γ hW0 hN0 hL0
  clear hW0
  unfold x_slices_Delete_api_Heap r_slices_Delete_api_Heap
  with_reducible refine auC ?_
  have hn : n < Γ.g0 := hN0 0 _ rfl
  repeat' (first
    | (with_reducible refine auS ?_)
    | fail
    | (with_reducible refine auD ?_)
    | ((with_reducible refine auB ?_ ?_); all_goals first | ((with_reducible intro h); first | exact auH | simp only [h, runR_t, runR_f] | skip) | skip)
    | (first | (simp only [Int.toNat_natCast, Nat.zero_add, ej, List.length_map, List.length_drop]) | (refine runR_n ⟨by trivial, by trivial, by trivial, by omega, hones _⟩ ?_) | (refine runR_n ⟨by trivial, by trivial, by trivial, by omega, by omega, by omega, by (rw [hlen]; omega)⟩ ?_) | (refine runR_n ⟨by trivial, by trivial, by trivial, by (rw [hlen]; omega), by trivial⟩ ?_) | fail))
  · have hij2 : i = j := by (simp only [hsL, reduceCtorEq] at * <;> omega)
    subst hij2
    rw [List.take_append_drop]
    exact ret_h1 trivial hn rfl rfl hn (nfLL_map (fun x => by simp [nfL, nfD])) rfl
  · refine retq_le (le_leG (le_slr ⟨.d0, .d0, .d6⟩ rfl)) (retq_le (le_leG (le_trim 0 (i + (l.length - j)) rfl)) (ret_h1 trivial hn ?_ rfl hn (nfLL_map (fun x => by simp [nfL, nfD])) ?_))
    · have e : (l.take i ++ l.drop j).length = i + (l.length - j) := by simp; omega
      rw [e]
      rfl
    · refine (del_eq (by rw [xtake_eq]; simp; omega)).trans ?_
      rw [xtake_eq, List.map_append, List.map_take]
theorem hpdelete_spec (k : Nat) (l : List Hp) (i j : Nat) (hij : i ≤ j) (hj : j ≤ l.length) (hl : l.length ≤ maxLen) (n : Nat) : HSpec Try.prog 15 [.sl k n 8 0 l.length false, .v (.int .i64 i), .v (.int .i64 j)] [some ⟨n, 8, l.map Hp.enc⟩] (fun d H => d = .sl k n 8 0 (l.take i ++ l.drop j).length false ∧ H = [some ⟨n, 8, (l.take i ++ l.drop j).map Hp.enc⟩]) :=
  hspec_sl k (hspec_as (hpdelete0 l i j hij hj hl n) (fun _ _ _ => sl_label))
set_option maxHeartbeats 1000000 in
theorem hpindexf_spec {g : FuncId} {caps : List DV} (p : Hp → Bool) (l : List Hp) (c : Bool) (hl : l.length ≤ maxLen) (hg : ∀ t ∈ l, Spec Try.prog g (.agg (Hp.enc t) :: caps) (.v (.bool (p t)))) : Spec Try.prog 12 [.snap 8 (l.map Hp.enc) c, .fn (.func g) [] caps] (.v (.int .i64 (firstI p l 0))) := by
  unfold maxLen at hl
  refine hspec_fn Try.func12 rfl ok_slices_IndexFunc_api_Heap okr_slices_IndexFunc_api_Heap rfl (by kernel_rfl) ?_
  intro Γ hW0 hN0 hL0
  have hW := hW0 rfl
  clear hW0 hN0 hL0
  unfold x_slices_IndexFunc_api_Heap r_slices_IndexFunc_api_Heap
  with_reducible refine auC ?_
  repeat' (first
    | (with_reducible refine auS ?_)
    | fail
    | (with_reducible refine auD ?_)
    | ((with_reducible refine auB ?_ ?_); all_goals first | ((with_reducible intro h); first | exact auH | simp only [h, runR_t, runR_f] | skip) | skip)
    | fail)
  refine go_loopH (α := Nat) (fun k => [(⟨.d0, .d1, .d0⟩, .v (.int .i64 (k : Nat)))]) (fun _ => []) (fun _ => Γ.g0) (fun k => l.length - k) (fun k => k ≤ l.length ∧ firstI p l 0 = firstI p (l.drop k) k) 0 ⟨Nat.zero_le _, rfl⟩ ?_ ?_
  · skip
    refine le_mk ?_ ?_ (Nat.le_refl _)
    all_goals first | with_reducible refine auE ?_ | exact auE0
    all_goals (repeat' (first | exact trivial | exact rfl | apply And.intro))
  · rintro k ⟨hk, hp⟩
    with_reducible refine auL ?_
    by_cases hlt : k < l.length
    · obtain ⟨t, ht⟩ : ∃ t, l[k]? = some t := ⟨_, List.getElem?_eq_getElem hlt⟩
      have ex := xget_map Hp.enc l k t ht
      have hgt := hg t (List.mem_of_getElem? ht)
      rw [List.drop_eq_getElem_cons hlt, show l[k] = t from Option.some.inj ((List.getElem?_eq_getElem hlt).symm.trans ht)] at hp
      repeat' (first
        | (with_reducible refine auS ?_)
        | (with_reducible refine runR_call hgt ?_)
        | (with_reducible refine auD ?_)
        | ((with_reducible refine auB ?_ ?_); all_goals first | ((with_reducible intro h); first | exact auH | simp only [h, runR_t, runR_f] | skip) | skip)
        | (simp only [Int.toNat_natCast, ex]))
      (all_goals first | exact auP | skip)
      · skip
        all_goals with_reducible refine auF ?_
        all_goals (try first | with_reducible refine auR ?_ | exact auR0)
        all_goals (try simp only [hsM] at *)
        rw [hp]
        simp [firstI, *]
      · refine nx_loop ?_
        refine ⟨k + 1, ⟨Nat.succ_le_of_lt hlt, by rw [hp]; simp [firstI, *]⟩, Nat.sub_lt_sub_left hlt (Nat.lt_succ_self k), ?_⟩
        refine le_mk ?_ ?_ (Nat.le_refl _)
        all_goals first | with_reducible refine auE ?_ | exact auE0
        all_goals (repeat' (first | exact trivial | exact rfl | apply And.intro))
        exact dint ((IntWalk.i64_in _ (by omega)).trans (by omega))
    · skip
      repeat' (first
        | (with_reducible refine auS ?_)
        | fail
        | (with_reducible refine auD ?_)
        | ((with_reducible refine auB ?_ ?_); all_goals first | ((with_reducible intro h); first | exact auH | simp only [h, runR_t, runR_f] | skip) | skip)
        | fail)
      (all_goals first | exact auP | skip)
      all_goals with_reducible refine auF ?_
      all_goals (try first | with_reducible refine auR ?_ | exact auR0)
      all_goals (try simp only [hsM] at *)
      obtain rfl : k = l.length := by omega
      rw [hp, List.drop_length]
      rfl
theorem containsH_spec {g : FuncId} {caps : List DV} (p : Hp → Bool) (l : List Hp) (c : Bool) (hl : l.length ≤ maxLen) (hg : ∀ t ∈ l, Spec Try.prog g (.agg t.enc :: caps) (.v (.bool (p t)))) : Spec Try.prog 27 [.snap 8 (l.map Hp.enc) c, .fn (.func g) [] caps] (.v (.bool (l.any p))) := by
  have hi := hpindexf_spec p l c hl hg
  refine hspec_fn Try.func27 rfl ok_slices_ContainsFunc_api_Heap okr_slices_ContainsFunc_api_Heap rfl (by kernel_rfl) ?_
  intro Γ hW0 hN0 hL0
  have hW := hW0 rfl
  clear hW0 hN0 hL0
  unfold x_slices_ContainsFunc_api_Heap r_slices_ContainsFunc_api_Heap
  with_reducible refine auC ?_
  repeat' (first
    | (with_reducible refine auS ?_)
    | (with_reducible refine runR_call hi ?_)
    | (with_reducible refine auD ?_)
    | ((with_reducible refine auB ?_ ?_); all_goals first | ((with_reducible intro h); first | exact auH | simp only [h, runR_t, runR_f] | skip) | skip)
    | fail)
  all_goals with_reducible refine auF ?_
  all_goals (try first | with_reducible refine auR ?_ | exact auR0)
  all_goals (try simp only [hsM] at *)
  refine dbool ?_
  rcases firstI_cases p l 0 with ⟨h1, h2⟩ | ⟨i, t, h1, h2, h3, h4⟩
  · rw [h1, List.any_eq_false.2 (fun t ht => by simp [h2 t ht])]
    rfl
  · rw [h4, List.any_eq_true.2 ⟨t, List.mem_of_getElem? h1, h2⟩]
    (simp; try omega)
theorem eqPt_iff (n t : Pt) : decide (n = t) = (decide (n.at' = t.at') && (decide (mkS n.data = mkS t.data) && (n.last == t.last))) := by
  obtain ⟨a, b, c⟩ := n
  obtain ⟨a', b', c'⟩ := t
  have e : (mkS b = mkS b') = (b = b') := propext mkS_inj
  simp only [Pt.mk.injEq, e]
  by_cases h1 : a = a' <;> by_cases h2 : b = b' <;> cases c <;> cases c' <;> simp [h1, h2]
theorem indexP_spec (l : List Pt) (v : Pt) (c : Bool) (hl : l.length ≤ maxLen) : Spec Try.prog 47 [.snap 3 (l.map Pt.enc) c, .agg v.enc] (.v (.int .i64 (firstI (fun x : Pt => decide (v = x)) l 0))) := by
  unfold maxLen at hl
  refine hspec_fn Try.func47 rfl ok_slices_Index_api_Part okr_slices_Index_api_Part rfl (by kernel_rfl) ?_
  intro Γ hW0 hN0 hL0
  have hW := hW0 rfl
  clear hW0 hN0 hL0
  unfold x_slices_Index_api_Part r_slices_Index_api_Part
  with_reducible refine auC ?_
  repeat' (first
    | (with_reducible refine auS ?_)
    | fail
    | (with_reducible refine auD ?_)
    | ((with_reducible refine auB ?_ ?_); all_goals first | ((with_reducible intro h); first | exact auH | simp only [h, runR_t, runR_f] | skip) | skip)
    | fail)
  refine go_loopH (α := Nat) (fun k => [(⟨.d0, .d1, .d0⟩, .v (.int .i64 (k : Nat)))]) (fun _ => [(0, some ⟨Γ.g0, 3, [v.enc]⟩)]) (fun _ => Γ.g0 + 1) (fun k => l.length - k) (fun k => k ≤ l.length ∧ firstI (fun x : Pt => decide (v = x)) l 0 = firstI (fun x : Pt => decide (v = x)) (l.drop k) k) 0 ⟨Nat.zero_le _, rfl⟩ ?_ ?_
  · skip
    refine le_mk ?_ ?_ (Nat.le_refl _)
    all_goals first | with_reducible refine auE ?_ | exact auE0
    all_goals (repeat' (first | exact trivial | exact rfl | apply And.intro))
  · rintro k ⟨hk, hp⟩
    with_reducible refine auL ?_
    by_cases hlt : k < l.length
    · obtain ⟨t, ht⟩ : ∃ t, l[k]? = some t := ⟨_, List.getElem?_eq_getElem hlt⟩
      have ex := xget_map Pt.enc l k t ht
      rw [List.drop_eq_getElem_cons hlt, show l[k] = t from Option.some.inj ((List.getElem?_eq_getElem hlt).symm.trans ht)] at hp
      have hq := eqPt_iff v t
      repeat' (first
        | (with_reducible refine auS ?_)
        | fail
        | (with_reducible refine auD ?_)
        | ((with_reducible refine auB ?_ ?_); all_goals first | ((with_reducible intro h); first | exact auH | simp only [h, runR_t, runR_f] | skip) | skip)
        | (simp only [Int.toNat_natCast, ex]))
      (all_goals first | exact auP | skip)
      · skip
        all_goals with_reducible refine auF ?_
        all_goals (try first | with_reducible refine auR ?_ | exact auR0)
        all_goals (try simp only [hsM] at *)
        rw [hp]
        simp only [firstI]
        rw [if_pos (by rw [hq]; simpa using h)]
      · refine nx_loop ?_
        refine ⟨k + 1, ⟨Nat.succ_le_of_lt hlt, by rw [hp]; simp only [firstI]; rw [if_neg (by rw [hq, h]; simp)]⟩, Nat.sub_lt_sub_left hlt (Nat.lt_succ_self k), ?_⟩
        refine le_mk ?_ ?_ (Nat.le_refl _)
        all_goals first | with_reducible refine auE ?_ | exact auE0
        all_goals (repeat' (first | exact trivial | exact rfl | apply And.intro))
        exact dint ((IntWalk.i64_in _ (by omega)).trans (by omega))
    · skip
      repeat' (first
        | (with_reducible refine auS ?_)
        | fail
        | (with_reducible refine auD ?_)
        | ((with_reducible refine auB ?_ ?_); all_goals first | ((with_reducible intro h); first | exact auH | simp only [h, runR_t, runR_f] | skip) | skip)
        | fail)
      (all_goals first | exact auP | skip)
      all_goals with_reducible refine auF ?_
      all_goals (try first | with_reducible refine auR ?_ | exact auR0)
      all_goals (try simp only [hsM] at *)
      obtain rfl : k = l.length := by omega
      rw [hp, List.drop_length]
      rfl
theorem containsP_spec (l : List Pt) (v : Pt) (c : Bool) (hl : l.length ≤ maxLen) : Spec Try.prog 22 [.snap 3 (l.map Pt.enc) c, .agg v.enc] (.v (.bool (decide (v ∈ l)))) := by
  have hi := indexP_spec l v c hl
  refine hspec_fn Try.func22 rfl ok_slices_Contains_api_Part okr_slices_Contains_api_Part rfl (by kernel_rfl) ?_
  intro Γ hW0 hN0 hL0
  have hW := hW0 rfl
  clear hW0 hN0 hL0
  unfold x_slices_Contains_api_Part r_slices_Contains_api_Part
  with_reducible refine auC ?_
  repeat' (first
    | (with_reducible refine auS ?_)
    | (with_reducible refine runR_call hi ?_)
    | (with_reducible refine auD ?_)
    | ((with_reducible refine auB ?_ ?_); all_goals first | ((with_reducible intro h); first | exact auH | simp only [h, runR_t, runR_f] | skip) | skip)
    | fail)
  all_goals with_reducible refine auF ?_
  all_goals (try first | with_reducible refine auR ?_ | exact auR0)
  all_goals (try simp only [hsM] at *)
  refine dbool ?_
  rcases firstI_cases (fun x : Pt => decide (v = x)) l 0 with ⟨h1, h2⟩ | ⟨i, t, h1, h2, h3, h4⟩
  · have hn : ¬ v ∈ l := fun q => by simpa using h2 v q
    rw [h1, decide_eq_false hn]
    rfl
  · have hm : v ∈ l := by
      obtain rfl : v = t := by simpa using h2
      exact List.mem_of_getElem? h1
    rw [h4, decide_eq_true hm]
    (simp; try omega)
end Go.Proofs.Ytidogmmfakcfgaa
