/-
  A guard at work: what is old goes; a talk is heard, or leaves.
-/
import Derived.Test.YtegejpieedckiaaProxX
namespace Go.Proofs.Ytegejpieedckiaa
set_option linter.unusedVariables false
set_option linter.unusedSimpArgs false
/-- Two objects are lent, rows of its own come back. -/
theorem runR_callHHM {P : Program} {F : List XOp → St → List Rec → Prop} {r : List XOp} {st : St} {dst : Option Sl} {tr : List Rec} {f : FuncId} {ds : List DV} {c : Nat} {D : Nat → DV} {H1 : Nat → HL} {o p : Option AObj} (j k : Nat) (ns : List Nat) (hns : (j :: k :: ns).Nodup) (hl : (H1 st.gen).length = ns.length + 2) (hj : lget st.H j = o) (hk : lget st.H k = p) (h1 : MSpec P f ds [o, p] c (fun n d H => d = D n ∧ H = H1 n)) (h2 : F r ⟨putE st.tm dst (D st.gen), updL st.H (zipO (j :: k :: ns) (H1 st.gen)), st.gen + c⟩ (⟨j :: k :: ns, j :: k :: ns⟩ :: tr)) : runR P F r st dst tr (.call f ds) := by
  refine .inr (.inr ⟨[j, k], ns, ds, c, D, H1, fun _ _ _ h => h, hns, hl, ?_, h2⟩)
  have e : lgets st.H [j, k] = [o, p] := by rw [← hj, ← hk]; rfl
  rw [e]
  exact h1
theorem ret_h2 {Γ : Gm} {xr : List XR} {D : DV} {st : St} {o1 o2 : AObj} (h1 : resOk st xr) (h2 : nfD Γ.g0 (resV (resDs st xr))) (h3 : resV (resDs st xr) = D) (h0 : htake 2 st.H = [some o1, some o2]) (n1 : o1.n < Γ.g0) (x1 : nfLL Γ.g0 o1.xs) (n2 : o2.n < Γ.g0) (x2 : nfLL Γ.g0 o2.xs) : RetQ Γ xr 2 (fun d H => d = D ∧ H = [some o1, some o2]) st :=
  retq_now ⟨h1, h2, by rw [h0]; exact ⟨⟨n1, x1⟩, ⟨n2, x2⟩, trivial⟩, h3, h0⟩
theorem nf_gd (g : Nat) (l : List Gd) : nfLL g (l.map Gd.enc) := nfLL_map (fun x => by simp [Gd.enc, nfL, nfD])
set_option maxHeartbeats 1000000 in
theorem gdclone1 (l : List Gd) (c : Bool) (hl : room l.length 48) : OSpec Try.prog 13 [.snap 9 (l.map Gd.enc) c] [] (fun n d H => d = .sl 1 n 9 0 l.length false ∧ H = [some ⟨n, 9, l.map Gd.enc⟩]) := by
  have hones : ∀ r : List Gd, allOnes (r.map Gd.enc) = true := allOnes_map (fun x => rfl)
  cases l with
  | nil =>
    refine ospec_fn Try.func13 rfl ok_slices_Clone_api_Guarded okr_slices_Clone_api_Guarded rfl (by kernel_rfl) ?_
    intro Γ hW0 hN0 hL0
    have hW := hW0 rfl
    clear hW0 hN0 hL0
    unfold x_slices_Clone_api_Guarded r_slices_Clone_api_Guarded
    refine auC ?_
    dsimp only [List.map]
    repeat' (first
      | (refine auS ?_)
      | (with_reducible refine runR_l ?_)
      | (refine auD ?_)
      | (with_reducible refine runR_b (fun h => ?_) (fun h => ?_) <;> first | exact auH | simp only [h, runR_t, runR_f])
      | (with_reducible refine condK_bl ?_ ?_)
      | (with_reducible refine condK_b (fun h => ?_) (fun h => ?_) <;> first | exact auH | skip)
      | fail)
    · refine retqo_le (le_leG (le_row ⟨.d0, .d0, .d2⟩ 1 9 rfl rfl)) ?_
      exact ret_ospec 1 (fun n => .sl 1 n 9 0 0 false) trivial rfl (Nat.le_refl _) trivial (fun n => .inl ⟨rfl, rfl⟩) (fun n => ⟨rfl, rfl⟩)
    · exact ret_ospec 1 (fun n => .sl 1 n 9 0 0 false) trivial rfl (by show Γ.g0 ≤ Γ.g0 + 1; omega) trivial (fun n => .inl ⟨rfl, rfl⟩) (fun n => ⟨rfl, rfl⟩)
  | cons x r =>
    refine ospec_fn Try.func13 rfl ok_slices_Clone_api_Guarded okr_slices_Clone_api_Guarded rfl (by kernel_rfl) ?_
    intro Γ hW0 hN0 hL0
    have hW := hW0 rfl
    clear hW0 hN0 hL0
    unfold x_slices_Clone_api_Guarded r_slices_Clone_api_Guarded
    refine auC ?_
    dsimp only [List.map]
    repeat' (first
      | (refine auS ?_)
      | (with_reducible refine runR_l ?_)
      | (refine auD ?_)
      | (with_reducible refine runR_b (fun h => ?_) (fun h => ?_) <;> first | exact auH | simp only [h, runR_t, runR_f])
      | (with_reducible refine condK_bl ?_ ?_)
      | (with_reducible refine condK_b (fun h => ?_) (fun h => ?_) <;> first | exact auH | skip)
      | (refine runR_n ⟨Or.inl (by omega), rfl, hones _, by simp only [room, maxLen, List.length_map, List.length_cons] at hl ⊢; omega⟩ ?_))
    refine ret_ospec 1 (fun n => .sl 1 n 9 0 (x :: r).length false) trivial rfl (by show Γ.g0 ≤ Γ.g0 + 1; omega) ?_ (fun n => .inl ⟨rfl, ?_⟩) (fun n => ⟨rfl, rfl⟩)
    · exact (nfLL_map (fun x => by simp [nfL, nfD]) : nfLL Γ.g0 ((x :: r).map Gd.enc))
    · simp [List.length_map]
theorem gdclone_spec (j : Nat) (l : List Gd) (c : Bool) (hl : room l.length 48) : OSpec Try.prog 13 [.snap 9 (l.map Gd.enc) c] [] (fun n d H => d = .sl j n 9 0 l.length false ∧ H = [some ⟨n, 9, l.map Gd.enc⟩]) :=
  ospec_as (gdclone1 l c hl) (fun K w n v h => sl_label h)
set_option maxHeartbeats 1000000 in
theorem gdclonef_spec (l : List Gd) (c : Bool) (hl : room l.length 48) : Spec Try.prog 13 [.snap 9 (l.map Gd.enc) c] (.snap 9 (l.map Gd.enc) false) := by
  have hones : ∀ r : List Gd, allOnes (r.map Gd.enc) = true := allOnes_map (fun x => rfl)
  have hnf : ∀ g, nfLL g (l.map Gd.enc) := fun g => nfLL_map (fun x => by simp [nfL, nfD])
  cases l with
  | nil =>
    refine hspec_fn Try.func13 rfl ok_slices_Clone_api_Guarded okr_slices_Clone_api_Guarded rfl (by kernel_rfl) ?_
    intro Γ hW0 hN0 hL0
    have hW := hW0 rfl
    clear hW0 hN0 hL0
    unfold x_slices_Clone_api_Guarded r_slices_Clone_api_Guarded
    refine auC ?_
    dsimp only [List.map]
    repeat' (first
      | (refine auS ?_)
      | (with_reducible refine runR_l ?_)
      | (refine auD ?_)
      | (with_reducible refine runR_b (fun h => ?_) (fun h => ?_) <;> first | exact auH | simp only [h, runR_t, runR_f])
      | (with_reducible refine condK_bl ?_ ?_)
      | (with_reducible refine condK_b (fun h => ?_) (fun h => ?_) <;> first | exact auH | skip)
      | fail)
    · refine retq_le (le_leG (le_row ⟨.d0, .d0, .d2⟩ 1 9 rfl rfl)) (retq_le (leG_freeze hW ⟨.d0, .d0, .d2⟩ rfl rfl ⟨rfl, rfl, by exact Nat.le_refl _⟩) ?_)
      dsimp only [xtake, xdrop]
      all_goals refine auF ?_
      all_goals (try first | refine auR ?_ | exact auR0)
      all_goals (try simp only [hsM] at *)
    · refine retq_le (leG_freeze hW ⟨.d0, .d0, .d2⟩ rfl rfl ⟨rfl, rfl, by exact Nat.le_refl _⟩) ?_
      rw [show xtake (xdrop (([] : List (List DV)) ++ []) 0) 0 = [] from rfl]
      all_goals refine auF ?_
      all_goals (try first | refine auR ?_ | exact auR0)
      all_goals (try simp only [hsM] at *)
  | cons x r =>
    refine hspec_fn Try.func13 rfl ok_slices_Clone_api_Guarded okr_slices_Clone_api_Guarded rfl (by kernel_rfl) ?_
    intro Γ hW0 hN0 hL0
    have hW := hW0 rfl
    clear hW0 hN0 hL0
    unfold x_slices_Clone_api_Guarded r_slices_Clone_api_Guarded
    refine auC ?_
    dsimp only [List.map]
    repeat' (first
      | (refine auS ?_)
      | (with_reducible refine runR_l ?_)
      | (refine auD ?_)
      | (with_reducible refine runR_b (fun h => ?_) (fun h => ?_) <;> first | exact auH | simp only [h, runR_t, runR_f])
      | (with_reducible refine condK_bl ?_ ?_)
      | (with_reducible refine condK_b (fun h => ?_) (fun h => ?_) <;> first | exact auH | skip)
      | (refine runR_n ⟨Or.inl (by omega), rfl, hones _, by simp only [room, maxLen, List.length_map, List.length_cons] at hl ⊢; omega⟩ ?_))
    refine retq_le (leG_freeze hW ⟨.d0, .d0, .d2⟩ rfl rfl ⟨rfl, rfl, by simp⟩) ?_
    rw [show xtake (xdrop ([] ++ Gd.enc x :: r.map Gd.enc) 0) (0 + ((r.map Gd.enc).length + 1)) = (x :: r).map Gd.enc from xall (by simp)]
    have hnf1 := hnf Γ.g0
    all_goals refine auF ?_
    all_goals (try first | refine auR ?_ | exact auR0)
    all_goals (try simp only [hsM] at *)
    all_goals rfl
set_option maxHeartbeats 1000000 in
theorem gddelete0 (l : List Gd) (i j : Nat) (hij : i ≤ j) (hj : j ≤ l.length) (hl : l.length ≤ maxLen) (n : Nat) : HSpec Try.prog 74 [.sl 0 n 9 0 l.length false, .v (.int .i64 i), .v (.int .i64 j)] [some ⟨n, 9, l.map Gd.enc⟩] (fun d H => d = .sl 0 n 9 0 (l.take i ++ l.drop j).length false ∧ H = [some ⟨n, 9, (l.take i ++ l.drop j).map Gd.enc⟩]) := by
  have hones : ∀ r : List Gd, allOnes (r.map Gd.enc) = true := allOnes_map (fun x => rfl)
  have ej : xtake (xdrop (l.map Gd.enc) j) ((l.length : Int) - j).toNat = (l.drop j).map Gd.enc := by rw [xtake_eq, xdrop_eq, ← List.map_drop, ← List.map_take, List.take_of_length_le (by rw [List.length_drop]; omega)]
  have hlen : (xtake (l.map Gd.enc) i ++ ((l.drop j).map Gd.enc ++ xdrop (l.map Gd.enc) (i + (l.length - j)))).length = l.length := by rw [xtake_eq, xdrop_eq]; simp; omega
  unfold maxLen at hl
  refine hspec_fn Try.func74 rfl ok_slices_Delete_api_Guarded okr_slices_Delete_api_Guarded rfl (by kernel_rfl) ?_
  intro Γ hW0 hN0 hL0
  clear hW0
  unfold x_slices_Delete_api_Guarded r_slices_Delete_api_Guarded
  refine auC ?_
  have hn : n < Γ.g0 := hN0 0 _ rfl
  repeat' (first
    | (refine auS ?_)
    | fail
    | (refine auD ?_)
    | (with_reducible refine runR_b (fun h => ?_) (fun h => ?_) <;> first | exact auH | simp only [h, runR_t, runR_f])
    | (with_reducible refine condK_bl ?_ ?_)
    | (with_reducible refine condK_b (fun h => ?_) (fun h => ?_) <;> first | exact auH | skip)
    | (first | (simp only [Int.toNat_natCast, Nat.zero_add, ej, List.length_map, List.length_drop]) | (refine runR_n ⟨by trivial, by trivial, by trivial, by omega, hones _⟩ ?_) | (refine runR_n ⟨by trivial, by trivial, by trivial, by omega, by omega, by omega, by (rw [hlen]; omega)⟩ ?_) | (refine runR_n ⟨by trivial, by trivial, by trivial, by (rw [hlen]; omega), by trivial⟩ ?_) | fail))
  · have hij2 : i = j := by (simp only [hsL, reduceCtorEq] at * <;> omega)
    subst hij2
    rw [List.take_append_drop]
    exact ret_h1 trivial hn rfl rfl hn (nfLL_map (fun x => by simp [nfL, nfD])) rfl
  · refine retq_le (le_leG (le_slr ⟨.d0, .d0, .d6⟩ rfl)) (retq_le (le_leG (le_trim 0 (i + (l.length - j)) rfl)) (ret_h1 trivial hn ?_ rfl hn (nfLL_map (fun x => by simp [nfL, nfD])) ?_))
    · have e : (l.take i ++ l.drop j).length = i + (l.length - j) := by simp; omega
      rw [e]
      rfl
    · refine (del_eq (by rw [xtake_eq]; simp; omega)).trans ?_
      rw [xtake_eq, List.map_append, List.map_take]
theorem gddelete_spec (k : Nat) (l : List Gd) (i j : Nat) (hij : i ≤ j) (hj : j ≤ l.length) (hl : l.length ≤ maxLen) (n : Nat) : HSpec Try.prog 74 [.sl k n 9 0 l.length false, .v (.int .i64 i), .v (.int .i64 j)] [some ⟨n, 9, l.map Gd.enc⟩] (fun d H => d = .sl k n 9 0 (l.take i ++ l.drop j).length false ∧ H = [some ⟨n, 9, (l.take i ++ l.drop j).map Gd.enc⟩]) :=
  hspec_sl k (hspec_as (gddelete0 l i j hij hj hl n) (fun _ _ _ => sl_label))
set_option maxHeartbeats 1000000 in
theorem gdindexl0 {g : FuncId} {caps : List DV} (p : Gd → Bool) (l : List Gd) (hl : l.length ≤ maxLen) (n : Nat) (hg : ∀ t ∈ l, Spec Try.prog g (.agg (Gd.enc t) :: caps) (.v (.bool (p t)))) : HSpec Try.prog 44 [.sl 0 n 9 0 l.length false, .fn (.func g) [] caps] [some ⟨n, 9, l.map Gd.enc⟩] (fun d H => d = .v (.int .i64 (firstI p l 0)) ∧ H = [some ⟨n, 9, l.map Gd.enc⟩]) := by
  unfold maxLen at hl
  refine hspec_fn Try.func44 rfl ok_slices_IndexFunc_api_Guarded okr_slices_IndexFunc_api_Guarded rfl (by kernel_rfl) ?_
  intro Γ hW0 hN0 hL0
  clear hW0
  unfold x_slices_IndexFunc_api_Guarded r_slices_IndexFunc_api_Guarded
  refine auC ?_
  have hn : n < Γ.g0 := hN0 0 _ rfl
  repeat' (first
    | (refine auS ?_)
    | fail
    | (refine auD ?_)
    | (with_reducible refine runR_b (fun h => ?_) (fun h => ?_) <;> first | exact auH | simp only [h, runR_t, runR_f])
    | (with_reducible refine condK_bl ?_ ?_)
    | (with_reducible refine condK_b (fun h => ?_) (fun h => ?_) <;> first | exact auH | skip)
    | fail)
  refine go_loopH (α := Nat) (fun k => [(⟨.d0, .d1, .d0⟩, .v (.int .i64 (k : Nat)))]) (fun _ => []) (fun _ => Γ.g0) (fun k => l.length - k) (fun k => k ≤ l.length ∧ firstI p l 0 = firstI p (l.drop k) k) 0 ⟨Nat.zero_le _, rfl⟩ ?_ ?_
  · skip
    refine le_mk ?_ ?_ (Nat.le_refl _)
    all_goals first | refine auE ?_ | exact auE0
    all_goals (repeat' (first | exact trivial | exact rfl | apply And.intro))
  · rintro k ⟨hk, hp⟩
    refine auL ?_
    by_cases hlt : k < l.length
    · obtain ⟨t, ht⟩ : ∃ t, l[k]? = some t := ⟨_, List.getElem?_eq_getElem hlt⟩
      have ex := xget_map Gd.enc l k t ht
      have hgt := hg t (List.mem_of_getElem? ht)
      rw [List.drop_eq_getElem_cons hlt, show l[k] = t from Option.some.inj ((List.getElem?_eq_getElem hlt).symm.trans ht)] at hp
      repeat' (first
        | (refine auS ?_)
        | (with_reducible refine runR_call hgt ?_)
        | (refine auD ?_)
        | (with_reducible refine runR_b (fun h => ?_) (fun h => ?_) <;> first | exact auH | simp only [h, runR_t, runR_f])
        | (with_reducible refine condK_bl ?_ ?_)
        | (with_reducible refine condK_b (fun h => ?_) (fun h => ?_) <;> first | exact auH | skip)
        | (first | simp only [Int.toNat_natCast, ex, Nat.zero_add] | (refine runR_n ⟨by simpa using hlt, by trivial⟩ ?_) | fail))
      (all_goals first | exact auP | skip)
      · refine ret_h1 trivial trivial ?_ rfl hn (nfLL_map (fun x => by simp [nfL, nfD])) rfl
        rw [hp]
        simp [firstI, *]
        rfl
      · refine nx_loop ?_
        refine ⟨k + 1, ⟨Nat.succ_le_of_lt hlt, by rw [hp]; simp [firstI, *]⟩, Nat.sub_lt_sub_left hlt (Nat.lt_succ_self k), ?_⟩
        refine le_mk ?_ ?_ (Nat.le_refl _)
        all_goals first | refine auE ?_ | exact auE0
        all_goals (repeat' (first | exact trivial | exact rfl | apply And.intro))
        exact dint ((IntWalk.i64_in _ (by omega)).trans (by omega))
    · skip
      repeat' (first
        | (refine auS ?_)
        | fail
        | (refine auD ?_)
        | (with_reducible refine runR_b (fun h => ?_) (fun h => ?_) <;> first | exact auH | simp only [h, runR_t, runR_f])
        | (with_reducible refine condK_bl ?_ ?_)
        | (with_reducible refine condK_b (fun h => ?_) (fun h => ?_) <;> first | exact auH | skip)
        | fail)
      (all_goals first | exact auP | skip)
      refine ret_h1 trivial trivial ?_ rfl hn (nfLL_map (fun x => by simp [nfL, nfD])) rfl
      obtain rfl : k = l.length := by omega
      rw [hp, List.drop_length]
      rfl
theorem gdindexl_spec (k : Nat) {g : FuncId} {caps : List DV} (p : Gd → Bool) (l : List Gd) (hl : l.length ≤ maxLen) (n : Nat) (hg : ∀ t ∈ l, Spec Try.prog g (.agg (Gd.enc t) :: caps) (.v (.bool (p t)))) : HSpec Try.prog 44 [.sl k n 9 0 l.length false, .fn (.func g) [] caps] [some ⟨n, 9, l.map Gd.enc⟩] (fun d H => d = .v (.int .i64 (firstI p l 0)) ∧ H = [some ⟨n, 9, l.map Gd.enc⟩]) :=
  hspec_sl k (gdindexl0 p l hl n hg)
set_option maxHeartbeats 2000000 in
theorem gddeletef0 {g : FuncId} {caps : List DV} (p : Gd → Bool) (l : List Gd) (hl : l.length ≤ maxLen) (n : Nat) (hg : ∀ t ∈ l, Spec Try.prog g (.agg (Gd.enc t) :: caps) (.v (.bool (p t)))) : HSpec Try.prog 41 [.sl 0 n 9 0 l.length false, .fn (.func g) [] caps] [some ⟨n, 9, l.map Gd.enc⟩] (fun d H => d = .sl 0 n 9 0 (l.filter (fun t => !p t)).length false ∧ H = [some ⟨n, 9, (l.filter (fun t => !p t)).map Gd.enc⟩]) := by
  have hidx := gdindexl0 (g := g) (caps := caps) p l hl n hg
  unfold maxLen at hl
  rcases firstI_cases p l 0 with ⟨h1, h2⟩ | ⟨i0, t0, h1, h2, h3, h4⟩
  · rw [h1] at hidx
    refine hspec_fn Try.func41 rfl ok_slices_DeleteFunc_api_Guarded okr_slices_DeleteFunc_api_Guarded rfl (by kernel_rfl) ?_
    intro Γ hW0 hN0 hL0
    clear hW0
    unfold x_slices_DeleteFunc_api_Guarded r_slices_DeleteFunc_api_Guarded
    refine auC ?_
    have hn : n < Γ.g0 := hN0 0 _ rfl
    repeat' (first
      | (refine auS ?_)
      | ((with_reducible refine runR_callH 0 ?_ hidx (fun _ _ _ h => h) ?_); (exact rfl))
      | (refine auD ?_)
      | (with_reducible refine runR_b (fun h => ?_) (fun h => ?_) <;> first | exact auH | simp only [h, runR_t, runR_f])
      | (with_reducible refine condK_bl ?_ ?_)
      | (with_reducible refine condK_b (fun h => ?_) (fun h => ?_) <;> first | exact auH | skip)
      | fail)
    rw [filter_none h2]
    exact ret_h1 trivial hn rfl rfl hn (nfLL_map (fun x => by simp [nfL, nfD])) rfl
  · rw [h4, Nat.zero_add] at hidx
    have hi0 : i0 < l.length := (List.getElem?_eq_some_iff.1 h1).1
    have hf0 : (l.take (i0 + 1)).filter (fun t => !p t) = l.take i0 := by
      rw [List.take_add_one, h1, List.filter_append, filter_none h3]
      simp [h2]
    refine hspec_fn Try.func41 rfl ok_slices_DeleteFunc_api_Guarded okr_slices_DeleteFunc_api_Guarded rfl (by kernel_rfl) ?_
    intro Γ hW0 hN0 hL0
    clear hW0
    unfold x_slices_DeleteFunc_api_Guarded r_slices_DeleteFunc_api_Guarded
    refine auC ?_
    have hn : n < Γ.g0 := hN0 0 _ rfl
    repeat' (first
      | (refine auS ?_)
      | ((with_reducible refine runR_callH 0 ?_ hidx (fun _ _ _ h => h) ?_); (exact rfl))
      | (refine auD ?_)
      | (with_reducible refine runR_b (fun h => ?_) (fun h => ?_) <;> first | exact auH | simp only [h, runR_t, runR_f])
      | (with_reducible refine condK_bl ?_ ?_)
      | (with_reducible refine condK_b (fun h => ?_) (fun h => ?_) <;> first | exact auH | skip)
      | fail)
    refine go_loopH (α := Nat × Nat × List (List DV)) (fun a => [(⟨.d0, .d0, .d5⟩, .v (.int .i64 (((l.take a.1).filter (fun t => !p t)).length : Nat))), (⟨.d0, .d0, .d6⟩, .v (.int .i64 (a.1 : Nat)))]) (fun a => [(0, some ⟨n, 9, ((l.take a.1).filter (fun t => !p t)).map Gd.enc ++ (a.2.2 ++ (l.drop a.1).map Gd.enc)⟩), (1, none)]) (fun a => a.2.1) (fun a => l.length - a.1)
      (fun a => a.1 ≤ l.length ∧ ((l.take a.1).filter (fun t => !p t)).length + a.2.2.length = a.1 ∧ 0 < a.2.2.length ∧ ∀ x ∈ a.2.2, ∃ t : Gd, x = Gd.enc t) (i0 + 1, Γ.g0, [Gd.enc t0]) ⟨hi0, by rw [hf0, List.length_take]; simp; omega, by simp, fun x hx => ⟨t0, by simpa using hx⟩⟩ ?_ ?_
    · skip
      refine le_mk ?_ ?_ (Nat.le_refl _)
      all_goals first | refine auE ?_ | exact auE0
      all_goals (repeat' (first | exact trivial | exact rfl | apply And.intro))
      all_goals first
        | exact dint (by rw [hf0, List.length_take]; omega)
        | exact dint ((IntWalk.i64_in _ (by omega)).trans (by omega))
        | (refine congrArg some (congrArg (AObj.mk n 9) ?_)
           have : t0 :: l.drop (i0 + 1) = l.drop i0 := by rw [List.drop_eq_getElem_cons hi0, show l[i0] = t0 from Option.some.inj ((List.getElem?_eq_getElem hi0).symm.trans h1)]
           rw [hf0, show [Gd.enc t0] ++ (l.drop (i0 + 1)).map Gd.enc = (t0 :: l.drop (i0 + 1)).map Gd.enc from rfl, this, ← List.map_append, List.take_append_drop])
    · rintro ⟨j, gn, G⟩ ⟨hj, hlen, hG0, hG⟩
      dsimp only at hj hlen hG0 hG ⊢
      refine auL ?_
      by_cases hlt : j < l.length
      · obtain ⟨t, ht⟩ : ∃ t, l[j]? = some t := ⟨_, List.getElem?_eq_getElem hlt⟩
        have hgt := hg t (List.mem_of_getElem? ht)
        have ex := xget_app (f := Gd.enc) (((l.take j).filter (fun t => !p t)).map Gd.enc) G ht (by simpa using hlen)
        have hdrop : (l.drop j).map Gd.enc = Gd.enc t :: (l.drop (j + 1)).map Gd.enc := by rw [List.drop_eq_getElem_cons hlt, show l[j] = t from Option.some.inj ((List.getElem?_eq_getElem hlt).symm.trans ht)]; rfl
        have htake : l.take (j + 1) = l.take j ++ [t] := by rw [List.take_add_one, ht]; rfl
        have hobl : (((l.take j).filter (fun t => !p t)).map Gd.enc ++ (G ++ (l.drop j).map Gd.enc)).length = l.length := by simp; omega
        repeat' (first
          | (refine auS ?_)
          | (with_reducible refine runR_call hgt ?_)
          | (refine auD ?_)
          | (with_reducible refine runR_b (fun h => ?_) (fun h => ?_) <;> first | exact auH | simp only [h, runR_t, runR_f])
          | (with_reducible refine condK_bl ?_ ?_)
          | (with_reducible refine condK_b (fun h => ?_) (fun h => ?_) <;> first | exact auH | skip)
          | (first | simp only [Int.toNat_natCast, ex, Nat.zero_add] | (refine runR_n ⟨by (rw [hobl]; omega), by trivial⟩ ?_) | fail))
        (all_goals first | exact auP | skip)
        · obtain ⟨x, G', rfl⟩ : ∃ x G', G = x :: G' := by
            cases G with
            | nil => simp at hG0
            | cons x G' => exact ⟨x, G', rfl⟩
          obtain ⟨t', rfl⟩ := hG x (by simp)
          have hpt : p t = false := by simpa using h
          have hft : (l.take (j + 1)).filter (fun t => !p t) = (l.take j).filter (fun t => !p t) ++ [t] := by rw [htake, List.filter_append]; simp [hpt]
          have hxx := xset_app (Gd.enc t') (Gd.enc t) G' ((l.drop j).map Gd.enc) (((l.take j).filter (fun t => !p t)).map Gd.enc)
          rw [List.length_map] at hxx
          have hxg : xget (((l.take j).filter (fun t => !p t)).map Gd.enc ++ (Gd.enc t' :: G' ++ (l.drop j).map Gd.enc)) ((l.take j).filter (fun t => !p t)).length = Gd.enc t' := by
            rw [xget_get, List.getElem?_append_right (by simp)]
            simp
          refine nx_loop ⟨(j + 1, gn + 1, G' ++ [Gd.enc t]), ⟨hlt, by rw [hft]; simp only [List.length_append, List.length_cons, List.length_nil] at hlen ⊢; omega, by simp, fun y hy => ?_⟩, Nat.sub_lt_sub_left hlt (Nat.lt_succ_self j), ?_⟩
          · rcases List.mem_append.1 hy with hy | hy
            · exact hG y (List.mem_cons_of_mem _ hy)
            · exact ⟨t, by simpa using hy⟩
          refine le_mk ?_ ?_ (Nat.le_refl _)
          all_goals first | refine auE ?_ | exact auE0
          all_goals (repeat' (first | exact trivial | exact rfl | apply And.intro))
          all_goals first
            | exact dint ((IntWalk.i64_in _ (by omega)).trans (by rw [hft]; simp))
            | exact dint ((IntWalk.i64_in _ (by omega)).trans (by omega))
            | (refine congrArg some (congrArg (AObj.mk n 9) ?_)
               rw [hxg]
               refine hxx.trans ?_
               rw [hdrop, hft]
               simp)
        · have hpt : p t = true := by simpa using h
          have hft : (l.take (j + 1)).filter (fun t => !p t) = (l.take j).filter (fun t => !p t) := by rw [htake, List.filter_append]; simp [hpt]
          refine nx_loop ⟨(j + 1, gn + 1, G ++ [Gd.enc t]), ⟨hlt, by rw [hft]; simp only [List.length_append, List.length_cons, List.length_nil] at hlen ⊢; omega, by simp, fun y hy => ?_⟩, Nat.sub_lt_sub_left hlt (Nat.lt_succ_self j), ?_⟩
          · rcases List.mem_append.1 hy with hy | hy
            · exact hG y hy
            · exact ⟨t, by simpa using hy⟩
          refine le_mk ?_ ?_ (Nat.le_refl _)
          all_goals first | refine auE ?_ | exact auE0
          all_goals (repeat' (first | exact trivial | exact rfl | apply And.intro))
          all_goals first
            | exact dint (by rw [hft])
            | exact dint ((IntWalk.i64_in _ (by omega)).trans (by omega))
            | (refine congrArg some (congrArg (AObj.mk n 9) ?_)
               rw [hdrop, hft]
               simp)
      · obtain rfl : j = l.length := by omega
        rw [List.take_length] at hlen
        simp only [List.take_length, List.drop_length, List.map_nil, List.append_nil]
        have hobl : ((l.filter (fun t => !p t)).map Gd.enc ++ G).length = l.length := by simp; omega
        repeat' (first
          | (refine auS ?_)
          | fail
          | (refine auD ?_)
          | (with_reducible refine runR_b (fun h => ?_) (fun h => ?_) <;> first | exact auH | simp only [h, runR_t, runR_f])
          | (with_reducible refine condK_bl ?_ ?_)
          | (with_reducible refine condK_b (fun h => ?_) (fun h => ?_) <;> first | exact auH | skip)
          | (first | (refine runR_n ⟨by trivial, by trivial, by trivial, by (simp only [Int.toNat_natCast, Nat.zero_add]; rw [hobl]; omega), by trivial⟩ ?_) | fail))
        (all_goals first | exact auP | skip)
        refine retq_le (le_leG (le_trim 0 (l.filter (fun t => !p t)).length rfl)) (ret_h1 trivial hn ?_ rfl hn (nfLL_map (fun x => by simp [nfL, nfD])) ?_)
        · exact congrArg (fun q => DV.sl 0 n 9 0 q false) (by omega)
        · dsimp only
          rw [xtake_eq, xtake_eq, Int.toNat_natCast, Nat.zero_add, List.take_left' (by simp), List.take_left' (by simp)]
theorem gddeletef_spec (k : Nat) {g : FuncId} {caps : List DV} (p : Gd → Bool) (l : List Gd) (hl : l.length ≤ maxLen) (n : Nat) (hg : ∀ t ∈ l, Spec Try.prog g (.agg (Gd.enc t) :: caps) (.v (.bool (p t)))) : HSpec Try.prog 41 [.sl k n 9 0 l.length false, .fn (.func g) [] caps] [some ⟨n, 9, l.map Gd.enc⟩] (fun d H => d = .sl k n 9 0 (l.filter (fun t => !p t)).length false ∧ H = [some ⟨n, 9, (l.filter (fun t => !p t)).map Gd.enc⟩]) :=
  hspec_sl k (hspec_as (gddeletef0 p l hl n hg) (fun _ _ _ => sl_label))
def oldG (now : Int) (t : Gd) : Bool := decide ((if t.op = true then 3000 else 30) < now - t.at')
def yngG (now : Int) (ms : List Gd) : List Gd := ms.filter (fun t => !oldG now t)
theorem old_spec (t : Gd) (now : Int) (hn : 0 ≤ now ∧ now ≤ 1099511627776) (ha : 0 ≤ t.at' ∧ t.at' ≤ 1099511627776) : Spec Try.prog 43 [.agg t.enc, .v (.int .i64 now)] (.v (.bool (oldG now t))) := by
  have e : IntKind.i64.wrap (now - t.at') = now - t.at' := IntWalk.i64_in _ (by omega)
  unfold oldG
  cases ho : t.op with
  | true =>
    refine hspec_fn Try.func43 rfl ok_proxy_old okr_proxy_old rfl (by kernel_rfl) ?_
    intro Γ hW0 hN0 hL0
    have hW := hW0 rfl
    clear hW0 hN0 hL0
    unfold x_proxy_old r_proxy_old
    refine auC ?_
    repeat' (first
      | (refine auS ?_)
      | (simp only [ho, e])
      | (refine auD ?_)
      | (with_reducible refine runR_b (fun h => ?_) (fun h => ?_) <;> first | exact auH | simp only [h, runR_t, runR_f])
      | (with_reducible refine condK_bl ?_ ?_)
      | (with_reducible refine condK_b (fun h => ?_) (fun h => ?_) <;> first | exact auH | skip)
      | fail)
    (all_goals first | exact auP | skip)
    all_goals refine auF ?_
    all_goals (try first | refine auR ?_ | exact auR0)
    all_goals (try simp only [hsM] at *)
    all_goals rfl
  | false =>
    refine hspec_fn Try.func43 rfl ok_proxy_old okr_proxy_old rfl (by kernel_rfl) ?_
    intro Γ hW0 hN0 hL0
    have hW := hW0 rfl
    clear hW0 hN0 hL0
    unfold x_proxy_old r_proxy_old
    refine auC ?_
    repeat' (first
      | (refine auS ?_)
      | (simp only [ho, e])
      | (refine auD ?_)
      | (with_reducible refine runR_b (fun h => ?_) (fun h => ?_) <;> first | exact auH | simp only [h, runR_t, runR_f])
      | (with_reducible refine condK_bl ?_ ?_)
      | (with_reducible refine condK_b (fun h => ?_) (fun h => ?_) <;> first | exact auH | skip)
      | fail)
    (all_goals first | exact auP | skip)
    all_goals refine auF ?_
    all_goals (try first | refine auR ?_ | exact auR0)
    all_goals (try simp only [hsM] at *)
    all_goals rfl
theorem begun1_spec (t : Gd) (now : Int) (hn : 0 ≤ now ∧ now ≤ 1099511627776) (ha : 0 ≤ t.at' ∧ t.at' ≤ 1099511627776) : Spec Try.prog 42 [.agg t.enc, .rptr [.v (.int .i64 now)]] (.v (.bool (oldG now t))) := by
  have h1 := old_spec t now hn ha
  refine hspec_fn Try.func42 rfl ok_proxy_begun_1 okr_proxy_begun_1 rfl (by kernel_rfl) ?_
  intro Γ hW0 hN0 hL0
  have hW := hW0 rfl
  clear hW0 hN0 hL0
  unfold x_proxy_begun_1 r_proxy_begun_1
  refine auC ?_
  repeat' (first
    | (refine auS ?_)
    | (with_reducible refine runR_call h1 ?_)
    | (refine auD ?_)
    | (with_reducible refine runR_b (fun h => ?_) (fun h => ?_) <;> first | exact auH | simp only [h, runR_t, runR_f])
    | (with_reducible refine condK_bl ?_ ?_)
    | (with_reducible refine condK_b (fun h => ?_) (fun h => ?_) <;> first | exact auH | skip)
    | fail)
  (all_goals first | exact auP | skip)
  all_goals refine auF ?_
  all_goals (try first | refine auR ?_ | exact auR0)
  all_goals (try simp only [hsM] at *)
abbrev cGu (k0 k1 sz now : Int) (tk cl sv : DV) : List DV := [.v (.int .u64 k0), .v (.int .u64 k1), .v (.int .i64 sz), tk, .v (.int .i64 now), cl, sv]
abbrev nilS : DV := .v (.slice none 0 0)
set_option maxHeartbeats 1000000 in
theorem begun_spec (k0 k1 sz now : Int) (ms : List Gd) (hn : 0 ≤ now ∧ now ≤ 1099511627776) (hl : ms.length ≤ 64) (ha : ∀ t ∈ ms, 0 ≤ t.at' ∧ t.at' ≤ 1099511627776) : MSpec Try.prog 15 [dPx k0 k1 sz ms, .v (.int .i64 now)] [] 2 (fun n d H => d = .ptr 0 n 7 0 0 ∧ H = [some ⟨n, 7, [cGu k0 k1 sz now (.sl 1 (n + 1) 9 0 (yngG now ms).length false) nilS nilS]⟩, some ⟨n + 1, 9, (yngG now ms).map Gd.enc⟩]) := by
  have hml : ms.length ≤ maxLen := by unfold maxLen; omega
  have hdf := fun n => gddeletef_spec (g := 42) (caps := [.rptr [.v (.int .i64 now)]]) 5 (oldG now) ms hml n (fun t ht => begun1_spec t now hn (ha t ht))
  refine mspec_fn Try.func15 rfl ok_proxy_begun okr_proxy_begun rfl (by kernel_rfl) ?_
  intro Γ hW0 hN0 hL0
  have hW := hW0 rfl
  clear hW0 hN0 hL0
  unfold x_proxy_begun r_proxy_begun
  refine auC ?_
  repeat' (first
    | (refine go_leG (leG_freezeP hW ⟨.d0, .d0, .d3⟩ rfl rfl ⟨rfl, rfl, Nat.succ_pos _⟩) ?_)
    | (refine auS ?_)
    | (first | (with_reducible refine runR_callO 5 (gdclone_spec 5 ms _ (by unfold room maxLen; omega)) ?_) | ((with_reducible refine runR_callH 5 ?_ (hdf _) (fun _ _ _ h => h) ?_); (exact rfl)))
    | (refine auD ?_)
    | (with_reducible refine runR_b (fun h => ?_) (fun h => ?_) <;> first | exact auH | simp only [h, runR_t, runR_f])
    | (with_reducible refine condK_bl ?_ ?_)
    | (with_reducible refine condK_b (fun h => ?_) (fun h => ?_) <;> first | exact auH | skip)
    | fail)
  (all_goals first | exact auP | skip)
  refine ret_m [2, 5] [Γ.g0 + 3, Γ.g0 + 2] trivial (by decide) rfl (fun a ha => ?_) (fun n => ?_) (fun n => ?_)
  · rcases List.mem_cons.1 ha with rfl | ha
    · exact ⟨2, _, rfl, rfl⟩
    · obtain rfl := List.mem_singleton.1 ha
      exact ⟨5, _, rfl, rfl⟩
  · exact ⟨0, n, .inl ⟨0, rfl, rfl⟩, rfl⟩
  · exact ⟨⟨.inl ⟨0, rfl, rfl⟩, rfl, ⟨⟨rfl, trivial⟩, ⟨rfl, trivial⟩, ⟨rfl, trivial⟩, ⟨1, n + 1, .inl ⟨1, rfl, rfl⟩, rfl⟩, ⟨rfl, trivial⟩, ⟨rfl, trivial⟩, ⟨rfl, trivial⟩, rfl⟩, rfl⟩, ⟨.inl ⟨1, rfl, rfl⟩, rfl, renMLL_nf _ (nf_gd _ _)⟩, rfl⟩
def butI (i : Nat) (ms : List Gd) : List Gd := ms.take i ++ ms.drop (i + 1)
theorem leaves_spec (k0 k1 sz now : Int) (ms : List Gd) (n m i : Nat) (hi : i < ms.length) (hl : ms.length ≤ 64) : HSpec Try.prog 48 [.ptr 0 n 7 0 0, .v (.int .i64 (i : Nat))] [some ⟨n, 7, [cGu k0 k1 sz now (.sl 1 m 9 0 ms.length false) nilS nilS]⟩, some ⟨m, 9, ms.map Gd.enc⟩] (fun d H => d = .tup [] ∧ H = [some ⟨n, 7, [cGu k0 k1 sz now (.sl 1 m 9 0 (butI i ms).length false) nilS nilS]⟩, some ⟨m, 9, (butI i ms).map Gd.enc⟩]) := by
  have hd := gddelete_spec 1 ms i (i + 1) (Nat.le_succ i) hi (by unfold maxLen; omega) m
  have hw : IntKind.i64.wrap ((i : Int) + 1) = ((i + 1 : Nat) : Int) := (IntWalk.i64_in _ (by omega)).trans (by omega)
  rw [show ms.take i ++ ms.drop (i + 1) = butI i ms from rfl] at hd
  generalize butI i ms = E at *
  refine hspec_fn Try.func48 rfl ok_proxy_guard_leaves okr_proxy_guard_leaves rfl (by kernel_rfl) ?_
  intro Γ hW0 hN0 hL0
  clear hW0
  unfold x_proxy_guard_leaves r_proxy_guard_leaves
  refine auC ?_
  have hn := hN0 0 _ rfl
  have hm := hN0 1 _ rfl
  repeat' (first
    | (refine auS ?_)
    | (first | (simp only [hw]) | ((with_reducible refine runR_callH 1 ?_ hd (fun _ _ _ h => h) ?_); (exact rfl)))
    | (refine auD ?_)
    | (with_reducible refine runR_b (fun h => ?_) (fun h => ?_) <;> first | exact auH | simp only [h, runR_t, runR_f])
    | (with_reducible refine condK_bl ?_ ?_)
    | (with_reducible refine condK_b (fun h => ?_) (fun h => ?_) <;> first | exact auH | skip)
    | fail)
  (all_goals first | exact auP | skip)
  refine ret_h2 trivial trivial rfl rfl hn ?_ hm (nf_gd _ _)
  exact ⟨⟨trivial, trivial, trivial, hm, trivial, trivial, trivial, trivial⟩, trivial⟩
abbrev Gd.heardAt (now : Int) (t : Gd) : Gd := ⟨t.fr, t.to, t.fp, t.tp, t.seq, t.ck, t.dl, t.op, now⟩
set_option maxHeartbeats 1000000 in
theorem heard_spec (k0 k1 sz now : Int) (ms : List Gd) (n m i : Nat) (t : Gd) (hi : i < ms.length) (hl : ms.length ≤ 64) : MSpec Try.prog 49 [.ptr 0 n 7 0 0, .v (.int .i64 (i : Nat)), .agg t.enc] [some ⟨n, 7, [cGu k0 k1 sz now (.sl 1 m 9 0 ms.length false) nilS nilS]⟩, some ⟨m, 9, ms.map Gd.enc⟩] 1 (fun q d H => d = .tup [] ∧ H = [some ⟨n, 7, [cGu k0 k1 sz now (.sl 9 q 9 0 (butI i ms ++ [t.heardAt now]).length false) nilS nilS]⟩, none, some ⟨q, 9, (butI i ms ++ [t.heardAt now]).map Gd.enc⟩]) := by
  have hd := gddelete_spec 1 ms i (i + 1) (Nat.le_succ i) hi (by unfold maxLen; omega) m
  have hw : IntKind.i64.wrap ((i : Int) + 1) = ((i + 1 : Nat) : Int) := (IntWalk.i64_in _ (by omega)).trans (by omega)
  have hel : (butI i ms).length ≤ 64 := by unfold butI; simp; omega
  rw [show ms.take i ++ ms.drop (i + 1) = butI i ms from rfl] at hd
  generalize butI i ms = E at *
  have hEl : (E.map Gd.enc).length = E.length := List.length_map _
  have hcat : E.map Gd.enc ++ [(t.heardAt now).enc] = (E ++ [t.heardAt now]).map Gd.enc := by simp
  have hcl : (E ++ [t.heardAt now]).length = E.length + 1 := by simp
  refine mspec_fn Try.func49 rfl ok_proxy_guard_heard okr_proxy_guard_heard rfl (by kernel_rfl) ?_
  intro Γ hW0 hN0 hL0
  clear hW0
  unfold x_proxy_guard_heard r_proxy_guard_heard
  refine auC ?_
  have hn := hN0 0 _ rfl
  have hm := hN0 1 _ rfl
  repeat' (first
    | (refine auS ?_)
    | (first | (simp only [hw]) | ((with_reducible refine runR_callH 1 ?_ hd (fun _ _ _ h => h) ?_); (exact rfl)))
    | (refine auD ?_)
    | (with_reducible refine runR_b (fun h => ?_) (fun h => ?_) <;> first | exact auH | simp only [h, runR_t, runR_f])
    | (with_reducible refine condK_bl ?_ ?_)
    | (with_reducible refine condK_b (fun h => ?_) (fun h => ?_) <;> first | exact auH | skip)
    | (first | (refine runR_n ⟨by trivial, by trivial, by trivial, by trivial, hEl.symm⟩ ?_) | (refine runR_n ⟨by trivial, by unfold room maxLen; rw [hEl]; simp; omega⟩ ?_) | fail))
  (all_goals first | exact auP | skip)
  simp only [hEl, hcat, ← hcl]
  refine ret_m [0, 1, 4] [Γ.g0 + 1 + 1] trivial (by decide) rfl (fun a ha => ?_) (fun q => ?_) (fun q => ?_)
  · obtain rfl := List.mem_singleton.1 ha
    exact ⟨4, _, rfl, rfl⟩
  · exact rfl
  · exact ⟨⟨.inr ⟨hn, rfl⟩, rfl, ⟨⟨rfl, trivial⟩, ⟨rfl, trivial⟩, ⟨rfl, trivial⟩, ⟨9, q, .inl ⟨0, rfl, rfl⟩, rfl⟩, ⟨rfl, trivial⟩, ⟨rfl, trivial⟩, ⟨rfl, trivial⟩, rfl⟩, rfl⟩, ⟨.inl ⟨0, rfl, rfl⟩, rfl, renMLL_nf _ (nf_gd _ _)⟩, rfl⟩
end Go.Proofs.Ytegejpieedckiaa
