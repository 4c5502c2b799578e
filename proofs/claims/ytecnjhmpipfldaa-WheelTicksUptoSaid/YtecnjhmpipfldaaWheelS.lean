/-
  A wheel of one's own, and one more put into it: as contracts of the walk.
-/
import Derived.Test.YtecnjhmpipfldaaWheelR
namespace Go.Proofs.Ytecnjhmpipfldaa
set_option linter.unusedVariables false
set_option linter.unusedSimpArgs false
set_option maxHeartbeats 1000000 in
theorem duclone1 (l : List Du) (c : Bool) (hl : room l.length 16) : OSpec Try.prog 26 [.snap 2 (l.map Du.enc) c] [] (fun n d H => d = .sl 1 n 2 0 l.length false ∧ H = [some ⟨n, 2, l.map Du.enc⟩]) := by
  have hones : ∀ r : List Du, allOnes (r.map Du.enc) = true := allOnes_map (fun x => rfl)
  cases l with
  | nil =>
    refine ospec_fn Try.func26 rfl ok_slices_Clone_api_Due okr_slices_Clone_api_Due rfl (by kernel_rfl) ?_
    intro Γ hW0 hN0 hL0
    have hW := hW0 rfl
    clear hW0 hN0 hL0
    unfold x_slices_Clone_api_Due r_slices_Clone_api_Due
    refine auC ?_
    dsimp only [List.map]
    repeat' (first
      | (refine auS ?_)
      | (with_reducible refine runR_l ?_)
      | (refine auD ?_)
      | (with_reducible refine runR_b (fun h => ?_) (fun h => ?_) <;> first | exact auH | simp only [h, runR_t, runR_f])
      | (with_reducible refine condK_bl ?_ ?_)
      | (with_reducible refine condK_b (fun h => ?_) (fun h => ?_) <;> first | exact auH | skip)
      | fail)
    · refine retqo_le (le_leG (le_row ⟨.d0, .d0, .d2⟩ 1 2 rfl rfl)) ?_
      exact ret_ospec 1 (fun n => .sl 1 n 2 0 0 false) trivial rfl (Nat.le_refl _) trivial (fun n => .inl ⟨rfl, rfl⟩) (fun n => ⟨rfl, rfl⟩)
    · exact ret_ospec 1 (fun n => .sl 1 n 2 0 0 false) trivial rfl (by show Γ.g0 ≤ Γ.g0 + 1; omega) trivial (fun n => .inl ⟨rfl, rfl⟩) (fun n => ⟨rfl, rfl⟩)
  | cons x r =>
    refine ospec_fn Try.func26 rfl ok_slices_Clone_api_Due okr_slices_Clone_api_Due rfl (by kernel_rfl) ?_
    intro Γ hW0 hN0 hL0
    have hW := hW0 rfl
    clear hW0 hN0 hL0
    unfold x_slices_Clone_api_Due r_slices_Clone_api_Due
    refine auC ?_
    dsimp only [List.map]
    repeat' (first
      | (refine auS ?_)
      | (with_reducible refine runR_l ?_)
      | (refine auD ?_)
      | (with_reducible refine runR_b (fun h => ?_) (fun h => ?_) <;> first | exact auH | simp only [h, runR_t, runR_f])
      | (with_reducible refine condK_bl ?_ ?_)
      | (with_reducible refine condK_b (fun h => ?_) (fun h => ?_) <;> first | exact auH | skip)
      | (refine runR_n ⟨Or.inl (by omega), rfl, hones _, by simp only [room, maxLen, List.length_map, List.length_cons] at hl ⊢; omega⟩ ?_))
    refine ret_ospec 1 (fun n => .sl 1 n 2 0 (x :: r).length false) trivial rfl (by show Γ.g0 ≤ Γ.g0 + 1; omega) ?_ (fun n => .inl ⟨rfl, ?_⟩) (fun n => ⟨rfl, rfl⟩)
    · exact (nfLL_map (fun x => by simp [nfL, nfD]) : nfLL Γ.g0 ((x :: r).map Du.enc))
    · simp [List.length_map]
theorem duclone_spec (j : Nat) (l : List Du) (c : Bool) (hl : room l.length 16) : OSpec Try.prog 26 [.snap 2 (l.map Du.enc) c] [] (fun n d H => d = .sl j n 2 0 l.length false ∧ H = [some ⟨n, 2, l.map Du.enc⟩]) :=
  ospec_as (duclone1 l c hl) (fun K w n v h => sl_label h)
/-! Names of the callee's, names of the caller's. -/
theorem renC {g n : Nat} {ns : List Nat} {lb lb' nm nm' : Nat → Nat} : ∀ (L : WL) (j : Nat), (∀ k, j ≤ k → k < j + L.length → renN g ns n (nm k) (nm' k)) → renML g ns n (rowc lb nm j L) (rowc lb' nm' j L)
  | [], _, _ => by simp only [rowc, renML]
  | l :: r, j, h => by
    simp only [rowc, renML]
    refine ⟨?_, renC r (j + 1) (fun k hk hk2 => h k (by omega) (by simp; omega))⟩
    simp only [renM]
    exact ⟨_, _, h j (Nat.le_refl _) (by simp), rfl⟩
theorem ren_du {g n : Nat} {ns : List Nat} (l : List Du) : renMLL g ns n (l.map Du.enc) (l.map Du.enc) := renMLL_nf _ (nfLL_map (fun x => by simp [nfL, nfD]))
theorem renHr {g n : Nat} {ns : List Nat} {nm nm' : Nat → Nat} : ∀ (L : WL) (j : Nat), (∀ k, j ≤ k → k < j + L.length → renN g ns n (nm k) (nm' k)) → renH g ns n (rowh nm j L) (rowh nm' j L)
  | [], _, _ => rfl
  | l :: r, j, h => ⟨⟨h j (Nat.le_refl _) (by simp), rfl, ren_du l⟩, renHr r (j + 1) (fun k hk hk2 => h k (by omega) (by simp; omega))⟩
theorem lgets_map (H : HL) : ∀ ks : List Nat, lgets H ks = ks.map (lget H)
  | [] => rfl
  | k :: r => by
    show lget H k :: lgets H r = _
    rw [lgets_map H r]
    rfl
theorem lget_app (A : HL) (T : HL) : ∀ i, lget (A ++ T) (A.length + i) = lget T i := by
  intro i
  induction A with
  | nil => simp
  | cons a r ih =>
    rw [List.length_cons, show r.length + 1 + i = (r.length + i) + 1 by omega]
    exact ih
theorem lget_at : ∀ (T : HL) (i : Nat), i < T.length → T[i]? = some (lget T i)
  | [], _, h => by simp at h
  | x :: r, 0, _ => rfl
  | x :: r, i + 1, h => lget_at r i (by simpa using h)
theorem lgets_tail (A T : HL) : lgets (A ++ T) (List.range' A.length T.length) = T := by
  rw [lgets_map]
  apply List.ext_getElem?
  intro i
  by_cases h : i < T.length
  · rw [List.getElem?_map, List.getElem?_range' h]
    simp only [Option.map_some, Nat.one_mul]
    rw [lget_app, lget_at T i h]
  · rw [List.getElem?_eq_none (by simp; omega), List.getElem?_eq_none (by omega)]
theorem hs_pad (a b : Option AObj) : leHS [a, b] (a :: b :: none :: none :: none :: []) := hs_cons (.inl rfl) (hs_cons (.inl rfl) fun k o h => by
  match k, h with
  | 0, h | 1, h | 2, h => cases h
  | k + 3, h => simp [lget] at h)
theorem cell_mid (z x : DV) (A B : List DV) (i : Nat) (h : A.length = i) : dget (ddrop (z :: (A ++ x :: B)) (1 + i)) 0 = x := by
  rw [ddrop_one]
  exact dget_ddrop _ _ _ (by rw [List.getElem?_append_right (by omega), h, Nat.sub_self]; rfl)
theorem splice_mid (z x y : DV) (B : List DV) (A : List DV) (i : Nat) (h : A.length = i) : splice (z :: (A ++ x :: B)) (1 + i) [y] = z :: (A ++ y :: B) := by
  rw [splice_one]
  congr 1
  subst h
  induction A with
  | nil =>
    show y :: splice B 0 [] = _
    rw [splice_nil]
    rfl
  | cons a r ih =>
    show a :: splice (r ++ x :: B) r.length [y] = _
    rw [ih]
    rfl
theorem range96 {i : Nat} (h : i < 96) (nm : Nat → Nat) : ((List.range 96).map nm)[i]? = some (nm i) := by
  rw [List.getElem?_map, List.getElem?_range h]
  rfl
set_option maxHeartbeats 4000000 in
theorem own_spec (now : Int) (L : WL) (h96 : L.length = 96) (hz : ∀ l ∈ L, l.length ≤ 1407374) (lb : Nat → Nat) : MSpec Try.prog 17 [.agg (wcs now L)] [] 96 (fun n d H => d = .agg (.v (.int .i64 now) :: rowc lb (fun j => n + j) 0 L) ∧ H = rowh (fun j => n + j) 0 L) := by
  obtain ⟨hA, hB, hL, -, hG⟩ := snaps h96
  have hrep : (List.replicate 96 nilD).length = 96 := by simp
  refine mspec_fn Try.func17 rfl ok_wheel_own okr_wheel_own rfl (by kernel_rfl) ?_
  intro Γ hW0 hN0 hL0
  have hW := hW0 rfl
  clear hW0 hN0 hL0
  unfold x_wheel_own r_wheel_own
  refine auC ?_
  repeat' (first
    | (refine auS ?_)
    | (simp only [zv_eq, zv_len])
    | (refine auD ?_)
    | (with_reducible refine runR_b (fun h => ?_) (fun h => ?_) <;> first | exact auH | simp only [h, runR_t, runR_f])
    | (with_reducible refine condK_bl ?_ ?_)
    | (with_reducible refine condK_b (fun h => ?_) (fun h => ?_) <;> first | exact auH | skip)
    | (first | (refine runR_n ⟨by simp only [hA, hB, allOne, lenB, oneD, oneV, andB], by decide⟩ ?_) | fail))
  refine go_loopT (α := Nat × (Nat → Nat) × Nat) (fun x => [(⟨.d0, .d0, .d4⟩, .v (.int .i64 (x.1 : Nat)))]) (fun x => some ⟨Γ.g0, 97, [.v (.int .i64 now) :: (rowc (fun _ => 4) x.2.1 0 (L.take x.1) ++ (L.drop x.1).map snapD)]⟩ :: some ⟨Γ.g0 + 1, 97, [.v (.int .i64 0) :: List.replicate 96 nilD]⟩ :: none :: none :: none :: rowh x.2.1 0 (L.take x.1)) (fun x => x.2.2) (fun x => 96 - x.1) (fun x => x.1 ≤ 96) (0, (fun _ => 0), Γ.g0 + 2) (Nat.zero_le _) ?_ ?_
  · refine le_mk2 ?_ ?_ (Nat.le_refl _)
    · first | refine auE ?_ | exact auE0
      all_goals (repeat' (first | exact trivial | exact rfl | apply And.intro))
    · dsimp only
      rw [List.take_zero, List.drop_zero]
      exact hs_pad _ _
  rintro ⟨i, nm, gn⟩ hi
  dsimp only at hi ⊢
  refine auL ?_
  by_cases hlt : i < 96
  · obtain ⟨l, hl⟩ : ∃ l, L[i]? = some l := ⟨_, List.getElem?_eq_getElem (by omega)⟩
    have hd : L.drop i = l :: L.drop (i + 1) := by rw [List.drop_eq_getElem_cons (by omega), show L[i] = l from Option.some.inj ((List.getElem?_eq_getElem (by omega)).symm.trans hl)]
    have hcl := duclone_spec 4 l false (room_due (by have := hz l (List.mem_of_getElem? hl); omega))
    have w1 : IntKind.i64.wrap ((i : Int) + 1) = ((i + 1 : Nat) : Int) := by rw [IntWalk.i64_in _ (by omega)]; omega
    have htl : (L.take i).length = i := by simp; omega
    have hal : (rowc (fun _ => 4) nm 0 (L.take i)).length = i := by rw [rowc_len]; exact htl
    rw [hd, List.map_cons]
    have hcell := cell_mid (.v (.int .i64 now)) (snapD l) (rowc (fun _ => 4) nm 0 (L.take i)) ((L.drop (i + 1)).map snapD) i hal
    have hspl := fun y => splice_mid (.v (.int .i64 now)) (snapD l) y ((L.drop (i + 1)).map snapD) (rowc (fun _ => 4) nm 0 (L.take i)) i hal
    have hrow : rowc (fun _ => 4) (upd nm i gn) 0 (L.take (i + 1)) = rowc (fun _ => 4) nm 0 (L.take i) ++ [.sl 4 gn 2 0 l.length false] := by
      rw [take_snoc hl, rowc_app, htl, Nat.zero_add, upd_eq, rowc_congr (nm := upd nm i gn) (nm' := nm) (lb := fun _ => 4) (lb' := fun _ => 4) _ _ (fun k hk hk2 => ⟨upd_ne (by omega), rfl⟩)]
    have hhl : (rowh nm 0 (L.take i)).length = i := by rw [rowh_len]; exact htl
    have hrh : lset (rowh nm 0 (L.take i)) i (some ⟨gn, 2, l.map Du.enc⟩) = rowh (upd nm i gn) 0 (L.take (i + 1)) := by
      have h := lset_end (some ⟨gn, 2, l.map Du.enc⟩) (rowh nm 0 (L.take i))
      rw [hhl] at h
      rw [h, take_snoc hl, rowh_app, htl, Nat.zero_add, upd_eq, rowh_congr (nm := upd nm i gn) (nm' := nm) _ _ (fun k hk hk2 => upd_ne (by omega))]
    have hT : lget (rowh nm 0 (L.take i)) i = none := by
      have : ∀ (T : HL), lget T T.length = none := fun T => by
        induction T with
        | nil => rfl
        | cons a r ih => exact ih
      have h := this (rowh nm 0 (L.take i))
      rwa [hhl] at h
    generalize rowh nm 0 (L.take i) = T at *
    generalize rowc (fun _ => 4) nm 0 (L.take i) = A at *
    generalize hBB : (L.drop (i + 1)).map snapD = B at *
    repeat' (first
      | (refine auS ?_)
      | (first | (simp only [Int.toNat_natCast, Nat.mul_one, hcell, hspl, w1]) | (with_reducible refine runR_callO 4 hcl ?_))
      | (refine auD ?_)
      | (with_reducible refine runR_b (fun h => ?_) (fun h => ?_) <;> first | exact auH | simp only [h, runR_t, runR_f])
      | (with_reducible refine condK_bl ?_ ?_)
      | (with_reducible refine condK_b (fun h => ?_) (fun h => ?_) <;> first | exact auH | skip)
      | (first | (refine runR_n (by omega) ?_) | (refine runR_n ⟨by omega, by omega⟩ ?_) | (refine runR_n ⟨by omega, by omega, rfl⟩ ?_) | fail))
    (all_goals first | exact auP | skip)
    refine nx_loop ⟨(i + 1, upd nm i gn, gn + 1), hlt, by dsimp only; omega, ?_⟩
    refine (le_unfocus i hT).trans ?_
    refine le_mk2 ?_ ?_ (Nat.le_refl _)
    · first | refine auE ?_ | exact auE0
      all_goals (repeat' (first | exact trivial | exact rfl | apply And.intro))
    · dsimp only
      rw [hrow, hrh, hBB, List.append_assoc]
      exact hs_refl _
  · obtain rfl : i = 96 := by omega
    rw [List.take_of_length_le (by omega), List.drop_of_length_le (by omega), List.map_nil, List.append_nil]
    have hXl : (rowc (fun _ => 4) nm 0 L).length = 96 := by rw [rowc_len]; exact h96
    have hdt := dtake_of hXl
    have hsp := splice_len (List.replicate 96 nilD) (rowc (fun _ => 4) nm 0 L) (by rw [hXl, hrep])
    have hones := rowc_ones (lb := fun _ => 4) (nm := nm) L 0
    have hlb := lenB_of hXl
    have hrn : ∀ n k, 0 ≤ k → k < 0 + L.length → renN Γ.g0 ((List.range 96).map nm) n (nm k) (n + k) := fun n k _ hk => .inl ⟨k, range96 (by omega) nm, rfl⟩
    have hrC := fun n => renC (g := Γ.g0) (n := n) (ns := (List.range 96).map nm) (lb := fun _ => 4) (lb' := lb) (nm := nm) (nm' := fun j => n + j) L 0 (hrn n)
    have hrH := fun n => renHr (g := Γ.g0) (n := n) (ns := (List.range 96).map nm) (nm := nm) (nm' := fun j => n + j) L 0 (hrn n)
    have hTl : (rowh nm 0 L).length = 96 := by rw [rowh_len]; exact h96
    have hin : ∀ a ∈ (List.range 96).map nm, ∃ k o, lget (rowh nm 0 L) k = some o ∧ o.n = a := fun a ha => by
      obtain ⟨k, hk, rfl⟩ := List.mem_map.1 ha
      have hk96 : k < 96 := List.mem_range.1 hk
      obtain ⟨l, hl⟩ : ∃ l, L[k]? = some l := ⟨_, List.getElem?_eq_getElem (by omega)⟩
      have := rowh_get (nm := nm) L 0 k l hl
      rw [Nat.zero_add] at this
      exact ⟨k, _, this, rfl⟩
    generalize rowh nm 0 L = T at *
    generalize rowc (fun _ => 4) nm 0 L = X at *
    repeat' (first
      | (refine auS ?_)
      | (simp only [hdt, hsp])
      | (refine auD ?_)
      | (with_reducible refine runR_b (fun h => ?_) (fun h => ?_) <;> first | exact auH | simp only [h, runR_t, runR_f])
      | (with_reducible refine condK_bl ?_ ?_)
      | (with_reducible refine condK_b (fun h => ?_) (fun h => ?_) <;> first | exact auH | skip)
      | (first | (refine runR_n ⟨by decide, by decide, by simp only [hones, hlb, allOne, lenB, oneD, oneV, andB]⟩ ?_) | fail))
    (all_goals first | exact auP | skip)
    have hlg := fun a b => lgets_tail [some a, some b, none, none, none] T
    rw [hTl] at hlg
    refine ret_m (List.range' 5 96) ((List.range 96).map nm) ?_ (by exact List.nodup_range') (by simp) (fun a ha => ?_) (fun n => ?_) (fun n => ?_)
    · first | refine auR ?_ | exact auR0
      exact ⟨⟨rfl, rfl, by omega, by omega⟩, trivial⟩
    · obtain ⟨k, o, h1, h2⟩ := hin a ha
      exact ⟨k + 5, o, h1, h2⟩
    · first | refine auR ?_ | exact auR0
      rw [hdt]
      simp only [renM, renML]
      exact ⟨⟨trivial, trivial⟩, hrC n⟩
    · exact Eq.mpr (congrArg (fun q => renH Γ.g0 ((List.range 96).map nm) n q (rowh (fun j => n + j) 0 L)) (hlg ⟨Γ.g0, 97, [.v (.int .i64 now) :: X]⟩ ⟨Γ.g0 + 1, 97, [.v (.int .i64 now) :: X]⟩)) (hrH n)
end Go.Proofs.Ytecnjhmpipfldaa
