/-
  Tries in the program: remove.
-/
import Derived.Test.YtlfbjdafnappdaaPutV
namespace Go.Proofs.Ytlfbjdafnappdaa
set_option linter.unusedVariables false
set_option linter.unusedSimpArgs false
theorem lset_self : ∀ (H : HL) (k : Nat), k < H.length → lset H k (lget H k) = H
  | [], k, h => by simp at h
  | a :: H, 0, _ => rfl
  | a :: H, k + 1, h => congrArg (a :: ·) (lset_self H k (by simpa using h))
theorem upd_self (H : HL) : ∀ ks : List Nat, (∀ k ∈ ks, k < H.length) → updL H (zipO ks (lgets H ks)) = H
  | [], _ => rfl
  | k :: ks, h => by
    show updL (lset H k (lget H k)) (zipO ks (lgets H ks)) = H
    rw [lset_self H k (h k List.mem_cons_self)]
    exact upd_self H ks (fun k hk => h k (List.mem_cons_of_mem _ hk))
theorem lgets_len (H : HL) : ∀ ks : List Nat, (lgets H ks).length = ks.length
  | [] => rfl
  | k :: ks => congrArg (· + 1) (lgets_len H ks)
/-- Objects are lent, and come back as they were. -/
theorem runR_seeK {P : Program} {F : List XOp → St → List Rec → Prop} {r : List XOp} {st : St} {dst : Option Sl} {tr : List Rec} {f : FuncId} {ds : List DV} {D : DV} {S : HL} (ks : List Nat) (hk : ks.Nodup) (hlt : ∀ k ∈ ks, k < st.H.length) (hS : lgets st.H ks = S)
    (h1 : MSpec P f ds S 0 (fun n d H => d = D ∧ H = S)) (h2 : F r ⟨putE st.tm dst D, st.H, st.gen⟩ (⟨ks, ks⟩ :: tr)) : runR P F r st dst tr (.call f ds) := by
  subst hS
  refine runR_callG (D := fun _ => D) (H1 := fun _ => lgets st.H ks) ks [] ks (List.append_nil _) hk (lgets_len _ _) rfl h1 ?_
  rw [upd_self st.H ks hlt]
  exact h2
set_option maxHeartbeats 1000000 in
theorem bareG (l r : Tr) (s : Bool) (v : Int) (k a0 al ar : Nat) : MSpec Try.prog 39 [.ptr k a0 4 0 0] (some ⟨a0, 4, [[spD l al, spD r ar, .v (.bool s), .v (.int .i64 v)]]⟩ :: (spH l al ++ spH r ar)) 0 (fun n d H => d = .v (.bool (bareT (.node l r s v))) ∧ H = some ⟨a0, 4, [[spD l al, spD r ar, .v (.bool s), .v (.int .i64 v)]]⟩ :: (spH l al ++ spH r ar)) := by
  refine mspec_ptr k ?_
  have hl := spH_len l al
  have hr := spH_len r ar
  have hT : ∀ Γ : Gm, (∀ (k : Nat) (o : AObj), lget (some ⟨a0, 4, [[spD l al, spD r ar, .v (.bool s), .v (.int .i64 v)]]⟩ :: (spH l al ++ spH r ar)) k = some o → o.n < Γ.g0) → ∀ n, renH Γ.g0 [] n (lgets (some ⟨a0, 4, [[spD l al, spD r ar, .v (.bool s), .v (.int .i64 v)]]⟩ :: (spH l al ++ spH r ar)) (List.range' 0 (1 + (l.size + r.size)))) (some ⟨a0, 4, [[spD l al, spD r ar, .v (.bool s), .v (.int .i64 v)]]⟩ :: (spH l al ++ spH r ar)) := fun Γ h n => by
    have hle := lgets_from (some ⟨a0, 4, [[spD l al, spD r ar, .v (.bool s), .v (.int .i64 v)]]⟩ :: (spH l al ++ spH r ar)) []
    have hlen : (some ⟨a0, 4, [[spD l al, spD r ar, .v (.bool s), .v (.int .i64 v)]]⟩ :: (spH l al ++ spH r ar) : HL).length = 1 + (l.size + r.size) := by simp [hl, hr]; omega
    rw [hlen, List.nil_append] at hle
    have hle : lgets (some ⟨a0, 4, [[spD l al, spD r ar, .v (.bool s), .v (.int .i64 v)]]⟩ :: (spH l al ++ spH r ar)) (List.range' 0 (1 + (l.size + r.size))) = some ⟨a0, 4, [[spD l al, spD r ar, .v (.bool s), .v (.int .i64 v)]]⟩ :: (spH l al ++ spH r ar) := hle
    rw [hle]
    have hin : ∀ o, some o ∈ (some ⟨a0, 4, [[spD l al, spD r ar, .v (.bool s), .v (.int .i64 v)]]⟩ :: (spH l al ++ spH r ar) : HL) → o.n < Γ.g0 := fun o ho => by
      obtain ⟨i, hi⟩ := List.mem_iff_getElem?.1 ho
      have : ∀ (H : HL) (i : Nat) (o : AObj), H[i]? = some (some o) → lget H i = some o := fun H => by
        induction H with
        | nil => intro i o h; simp at h
        | cons a H ih =>
          intro i o h
          cases i with
          | zero =>
            have h : a = some o := by simpa using h
            exact h
          | succ i => exact ih i o (by simpa using h)
      exact h i o (this _ _ _ hi)
    have ho : ∀ (T : Tr) (m : Nat), (∀ o, some o ∈ spH T m → o.n < Γ.g0) → ∀ k, k < T.size → m + k < Γ.g0 := fun T m hh k hk => by
      obtain ⟨o, o1, o2⟩ := sp_mem T m (m + k) (by omega) (by omega)
      have := hh o o1
      omega
    have hL := ren_old l Γ.g0 [] n al (ho l al (fun o h => hin o (List.mem_cons_of_mem _ (List.mem_append_left _ h))))
    have hR := ren_old r Γ.g0 [] n ar (ho r ar (fun o h => hin o (List.mem_cons_of_mem _ (List.mem_append_right _ h))))
    exact ⟨⟨.inr ⟨hin _ List.mem_cons_self, rfl⟩, rfl, ⟨⟨hL.1, hR.1, ⟨rfl, trivial⟩, ⟨rfl, trivial⟩, rfl⟩, rfl⟩⟩, renH_app hL.2 hR.2⟩
  unfold bareT
  cases s <;> cases l <;> cases r
  all_goals
    refine mspec_fn Try.func39 rfl ok_prefix_bare okr_prefix_bare rfl (by kernel_rfl) ?_
    intro Γ hW0 hN0 hL0
    clear hW0
    have hT := hT Γ hN0
    generalize List.length (_ :: _) = N at *
    simp only [spH, spC, spD, Tr.size] at hT ⊢
    unfold x_prefix_bare r_prefix_bare
    with_reducible refine auC ?_
    repeat' (first
      | (with_reducible refine auS ?_)
      | fail
      | (with_reducible refine auD ?_)
      | ((with_reducible refine auB ?_ ?_); all_goals first | (intro h; first | exact auH | simp only [h, runR_t, runR_f] | skip) | skip)
      | fail)
    (all_goals first | exact auP | skip)
    refine ret_m (List.range' 0 (1 + (_ + _))) [] trivial List.nodup_range' rfl (fun a ha => by simp at ha) (fun m => ⟨?_, trivial⟩) (fun m => hT m)
    first
      | rfl
      | (simp; done)
      | (simp; rfl)
abbrev RemS (T : Tr) (q : B8) (nm a Lg d : Nat) : Prop := MSpec Try.prog 34 [spD T nm, dNt a Lg, .v (.int .i64 (d : Nat))] (none :: spH T nm) (remT T q).1.size (fun m D H => D = .tup [spD (remT T q).1 m, .v (.bool (remT T q).2)] ∧ H = none :: (List.replicate T.size none ++ spH (remT T q).1 m))
theorem rem_nil (q : B8) (nm a Lg d : Nat) : RemS .nil q nm a Lg d := by
  have hbs := q
  have hbare := q
  have e : remT .nil q = (.nil, false) := by cases q <;> rfl
  unfold RemS
  rw [e]
  show MSpec Try.prog _ [.v (.pointer none), _, _] [none] 0 (fun m D H => D = .tup [.v (.pointer none), .v (.bool false)] ∧ H = [none])
  refine mspec_fn Try.func34 rfl ok_prefix_remove okr_prefix_remove rfl (by kernel_rfl) ?_
  intro Γ hW0 hN0 hL0
  clear hW0
  unfold x_prefix_remove r_prefix_remove
  with_reducible refine auC ?_
  repeat' (first
    | (with_reducible refine auS ?_)
    | fail
    | (with_reducible refine auD ?_)
    | ((with_reducible refine auB ?_ ?_); all_goals first | (intro h; first | exact auH | simp only [h, runR_t, runR_f] | skip) | skip)
    | fail)
  (all_goals first | exact auP | skip)
  refine ret_m [0] [] trivial (by decide) rfl (fun a ha => by simp at ha) (fun m => ⟨⟨rfl, trivial⟩, ⟨rfl, trivial⟩, rfl⟩) (fun m => rfl)
theorem mk_true {l r : Tr} {s : Bool} {w : Int} (h : bareT (.node l r s w) = true) : mkT l r s w = .nil := if_pos h
theorem mk_false {l r : Tr} {s : Bool} {w : Int} (h : bareT (.node l r s w) = false) : mkT l r s w = .node l r s w := if_neg (by rw [h]; decide)
/-- Nothing is handed back but places. -/
theorem ret_none {Γ : Gm} {xr : List XR} {m0 : Nat} {st : St} {D : Nat → DV} (R : Nat) (k0 : List Nat) (h1 : resOk st xr) (h2 : k0.Nodup) (h3 : lgets st.H k0 = none :: List.replicate R none) (hD : ∀ n, renM Γ.g0 [] n (resV (resDs st xr)) (D n)) : RetQM Γ xr m0 0 (fun n d H => d = D n ∧ H = none :: (List.replicate R none ++ [])) st := by
  refine ret_m k0 [] h1 h2 rfl (fun a ha => by simp at ha) hD (fun n => ?_)
  rw [h3, List.append_nil]
  exact ren_nones Γ.g0 [] n (R + 1)
theorem ret_none2 {Γ : Gm} {xr : List XR} {m0 : Nat} {st : St} {D : Nat → DV} (R : Nat) (k0 : List Nat) (h1 : resOk st xr) (h2 : k0.Nodup) (h3 : lgets st.H k0 = none :: List.replicate R none) (hD : ∀ n, renM Γ.g0 [] n (resV (resDs st xr)) (D n)) : RetQM Γ xr m0 0 (fun n d H => d = D n ∧ H = none :: List.replicate R none) st := by
  have h := ret_none (m0 := m0) R k0 h1 h2 h3 hD
  rw [List.append_nil] at h
  exact h
theorem k0_nodup (E R : Nat) (h : 0 < E) : (0 :: List.range' E R).Nodup := List.nodup_cons.2 ⟨fun q => by have := (List.mem_range'_1.1 q).1; omega, List.nodup_range'⟩
set_option maxHeartbeats 4000000 in
theorem rem_node0 (l r : Tr) (s : Bool) (w : Int) (nm a Lg : Nat) : RemS (.node l r s w) [] nm a Lg Lg := by
  have hbs := s
  have e : decide (((Lg : Nat) : Int) = (Lg : Nat)) = true := decide_eq_true rfl
  have hl := spH_len l (nm + 1)
  have hr := spH_len r (nm + 1 + l.size)
  have hsT : (Tr.node l r s w).size = 1 + (l.size + r.size) := rfl
  have hbare := bareG l r false 0 3 nm (nm + 1) (nm + 1 + l.size)
  have hS : (some (⟨nm, 4, [[spD l (nm + 1), spD r (nm + 1 + l.size), .v (.bool false), .v (.int .i64 0)]]⟩ : AObj) :: (spH l (nm + 1) ++ spH r (nm + 1 + l.size)) : HL).length = 1 + (l.size + r.size) := by simp [hl, hr]; omega
  cases hB : bareT (.node l r false 0) with
  | true =>
    have hm : remT (.node l r s w) [] = (.nil, s) := by show (mkT l r false 0, s) = _; rw [mk_true hB]
    unfold RemS
    rw [hm]
    rw [hB] at hbare
    show MSpec Try.prog _ [.ptr 0 nm 4 0 0, _, _] (none :: some ⟨nm, 4, [spC l r s w nm]⟩ :: (spH l (nm + 1) ++ spH r (nm + 1 + l.size))) 0 (fun m D H => D = .tup [.v (.pointer none), .v (.bool s)] ∧ H = none :: (List.replicate (Tr.node l r s w).size none ++ []))
    refine mspec_fn Try.func34 rfl ok_prefix_remove okr_prefix_remove rfl (by kernel_rfl) ?_
    intro Γ hW0 hN0 hL0
    clear hW0
    unfold x_prefix_remove r_prefix_remove
    with_reducible refine auC ?_
    refine go_leG (le_leG (le_open _ _ _)) ?_
    refine go_leG (le_leG (le_ptr ⟨.d0, .d0, .d0⟩ 3 rfl)) ?_
    with_reducible refine auL ?_
    repeat' (first
      | ((with_reducible refine endD_intro2 ?_ ?_); (exact by kernel_rfl))
      | (with_reducible refine auS ?_)
      | (first | (simp only [Int.toNat_natCast, Nat.zero_mul, Nat.one_mul, List.cons_append, List.nil_append, e]) | (with_reducible refine runR_call hbs ?_) | ((with_reducible refine atCall 39 ?_); (refine runR_seeK (List.range' 3 (1 + (l.size + r.size))) ?_ ?_ ?_ hbare ?_)) | ((with_reducible refine atCall 34 ?_); (refine fail)))
      | (with_reducible refine auD ?_)
      | ((with_reducible refine auB ?_ ?_); all_goals first | (intro h; first | exact auH | simp only [h, runR_t, runR_f] | skip) | skip)
      | fail)
    · exact List.nodup_range'
    · intro k hk
      have := (List.mem_range'_1.1 hk).2
      simp only [List.length_append, hl, hr]
      omega
    · have h := lgets_from (some (⟨nm, 4, [[spD l (nm + 1), spD r (nm + 1 + l.size), .v (.bool false), .v (.int .i64 0)]]⟩ : AObj) :: (spH l (nm + 1) ++ spH r (nm + 1 + l.size))) [none, some ⟨Γ.g0, 2, [[.v (.int .u32 (a : Nat)), .v (.int .i64 (Lg : Nat))]]⟩, none]
      rw [hS] at h
      exact h
    · refine ret_none _ (0 :: List.range' (4 + l.size + r.size) (Tr.node l r s w).size) trivial (k0_nodup _ _ (by omega)) (k0_get _ _ _ (by simp [hl, hr]; omega)) (fun n => ⟨⟨rfl, trivial⟩, ⟨rfl, trivial⟩, rfl⟩)
  | false =>
    have hm : remT (.node l r s w) [] = (.node l r false 0, s) := by show (mkT l r false 0, s) = _; rw [mk_false hB]
    unfold RemS
    rw [hm]
    rw [hB] at hbare
    show MSpec Try.prog _ [.ptr 0 nm 4 0 0, _, _] (none :: some ⟨nm, 4, [spC l r s w nm]⟩ :: (spH l (nm + 1) ++ spH r (nm + 1 + l.size))) (Tr.node l r false 0).size (fun m D H => D = .tup [.ptr 0 m 4 0 0, .v (.bool s)] ∧ H = none :: (List.replicate (Tr.node l r s w).size none ++ spH (.node l r false 0) m))
    refine mspec_fn Try.func34 rfl ok_prefix_remove okr_prefix_remove rfl (by kernel_rfl) ?_
    intro Γ hW0 hN0 hL0
    clear hW0
    unfold x_prefix_remove r_prefix_remove
    with_reducible refine auC ?_
    refine go_leG (le_leG (le_open _ _ _)) ?_
    refine go_leG (le_leG (le_ptr ⟨.d0, .d0, .d0⟩ 3 rfl)) ?_
    with_reducible refine auL ?_
    repeat' (first
      | ((with_reducible refine endD_intro2 ?_ ?_); (exact by kernel_rfl))
      | (with_reducible refine auS ?_)
      | (first | (simp only [Int.toNat_natCast, Nat.zero_mul, Nat.one_mul, List.cons_append, List.nil_append, e]) | (with_reducible refine runR_call hbs ?_) | ((with_reducible refine atCall 39 ?_); (refine runR_seeK (List.range' 3 (1 + (l.size + r.size))) ?_ ?_ ?_ hbare ?_)) | ((with_reducible refine atCall 34 ?_); (refine fail)))
      | (with_reducible refine auD ?_)
      | ((with_reducible refine auB ?_ ?_); all_goals first | (intro h; first | exact auH | simp only [h, runR_t, runR_f] | skip) | skip)
      | fail)
    · exact List.nodup_range'
    · intro k hk
      have := (List.mem_range'_1.1 hk).2
      simp only [List.length_append, hl, hr]
      omega
    · have h := lgets_from (some (⟨nm, 4, [[spD l (nm + 1), spD r (nm + 1 + l.size), .v (.bool false), .v (.int .i64 0)]]⟩ : AObj) :: (spH l (nm + 1) ++ spH r (nm + 1 + l.size))) [none, some ⟨Γ.g0, 2, [[.v (.int .u32 (a : Nat)), .v (.int .i64 (Lg : Nat))]]⟩, none]
      rw [hS] at h
      exact h
    · refine ret_node l r false 0 nm (nm + 1) (nm + 1 + l.size) (Tr.node l r s w).size (0 :: List.range' (4 + l.size + r.size) (Tr.node l r s w).size) 3 (List.range' 4 l.size) (List.range' (4 + l.size) r.size) trivial (kx_nodup _ _ _ _ _ _ (Nat.le_refl _) (by omega) (.inl (Nat.le_refl _)) (by omega) (by omega)) (k0_get _ _ _ (by simp [hl, hr]; omega)) rfl ?_ ?_ (fun n => ?_)
      · have h := lgets_seg [none, some ⟨Γ.g0, 2, [[.v (.int .u32 (a : Nat)), .v (.int .i64 (Lg : Nat))]]⟩, none, some ⟨nm, 4, [[spD l (nm + 1), spD r (nm + 1 + l.size), .v (.bool false), .v (.int .i64 0)]]⟩] (spH l (nm + 1)) (spH r (nm + 1 + l.size))
        rw [hl] at h
        exact h
      · have h := lgets_from (spH r (nm + 1 + l.size)) (none :: some ⟨Γ.g0, 2, [[.v (.int .u32 (a : Nat)), .v (.int .i64 (Lg : Nat))]]⟩ :: none :: some ⟨nm, 4, [[spD l (nm + 1), spD r (nm + 1 + l.size), .v (.bool false), .v (.int .i64 0)]]⟩ :: spH l (nm + 1))
        rw [hr] at h
        simp only [List.length_cons, hl] at h
        rw [show l.size + 1 + 1 + 1 + 1 = 4 + l.size by omega] at h
        exact h
      · exact ⟨⟨0, n, .inl ⟨0, rfl, rfl⟩, rfl⟩, ⟨rfl, trivial⟩, rfl⟩
theorem k3_nodup (p N q M : Nat) (h1 : 4 ≤ p) (h2 : 4 ≤ q) (h3 : p + N ≤ q ∨ q + M ≤ p) : (3 :: (List.range' p N ++ List.range' q M)).Nodup :=
  (List.nodup_append.1 (kx_nodup (p + N + q + M) 0 p N q M h1 h2 h3 (by omega) (by omega))).2.1
set_option maxHeartbeats 4000000 in
theorem rem_left (l r : Tr) (s : Bool) (w : Int) (q : B8) (nm a Lg d : Nat) (ha : a < 4294967296) (hd : d < Lg) (hL : Lg ≤ 32) (h0 : a / 2 ^ (31 - d) % 2 = 0) (ih : RemS l q (nm + 1) a Lg (d + 1)) : RemS (.node l r s w) (48 :: q) nm a Lg d := by
  have hbs := bit_spec a d ha (by omega)
  rw [h0] at hbs
  have ew : IntKind.i64.wrap ((d : Int) + 1) = ((d + 1 : Nat) : Int) := (IntWalk.i64_in _ (by omega)).trans (by omega)
  have e : decide (((d : Nat) : Int) = (Lg : Nat)) = false := decide_eq_false (by omega)
  have hl := spH_len l (nm + 1)
  have hr := spH_len r (nm + 1 + l.size)
  have hsT : (Tr.node l r s w).size = 1 + (l.size + r.size) := rfl
  have hm0 : remT (.node l r s w) (48 :: q) = (mkT (remT l q).1 r s w, (remT l q).2) := if_pos rfl
  unfold RemS at ih ⊢
  rw [hm0]
  generalize (remT l q).2 = ok at *
  generalize hT : (remT l q).1 = T1 at *
  clear hT hm0
  cases T1 with
  | nil =>
    have hcall : MSpec Try.prog 34 [spD l (nm + 1), dNt a Lg, .v (.int .i64 ((d + 1 : Nat) : Int))] (none :: spH l (nm + 1)) 0 (fun m D H => D = .tup [.v (.pointer none), .v (.bool ok)] ∧ H = none :: (List.replicate l.size none ++ [])) := ih
    have hbare : MSpec Try.prog 39 [.ptr 3 nm 4 0 0] (some ⟨nm, 4, [[.v (.pointer none), spD r (nm + 1 + l.size), .v (.bool s), .v (.int .i64 w)]]⟩ :: spH r (nm + 1 + l.size)) 0 (fun n d H => d = .v (.bool (bareT (.node .nil r s w))) ∧ H = some ⟨nm, 4, [[.v (.pointer none), spD r (nm + 1 + l.size), .v (.bool s), .v (.int .i64 w)]]⟩ :: spH r (nm + 1 + l.size)) := bareG .nil r s w 3 nm 0 (nm + 1 + l.size)
    cases hB : bareT (.node .nil r s w) with
    | true =>
      rw [mk_true hB]
      rw [hB] at hbare
      show MSpec Try.prog _ [.ptr 0 nm 4 0 0, _, _] (none :: some ⟨nm, 4, [spC l r s w nm]⟩ :: (spH l (nm + 1) ++ spH r (nm + 1 + l.size))) 0 (fun m D H => D = .tup [.v (.pointer none), .v (.bool ok)] ∧ H = none :: (List.replicate (Tr.node l r s w).size none ++ []))
      refine mspec_fn Try.func34 rfl ok_prefix_remove okr_prefix_remove rfl (by kernel_rfl) ?_
      intro Γ hW0 hN0 hL0
      clear hW0
      unfold x_prefix_remove r_prefix_remove
      with_reducible refine auC ?_
      refine go_leG (le_leG (le_open _ _ _)) ?_
      refine go_leG (le_leG (le_ptr ⟨.d0, .d0, .d0⟩ 3 rfl)) ?_
      with_reducible refine auL ?_
      repeat' (first
        | ((with_reducible refine endD_intro2 ?_ ?_); (exact by kernel_rfl))
        | (with_reducible refine auS ?_)
        | (first | (simp only [Int.toNat_natCast, Nat.zero_mul, Nat.one_mul, List.cons_append, List.nil_append, List.append_nil, e, ew]) | (with_reducible refine runR_call hbs ?_) | ((with_reducible refine atCall 39 ?_); (refine runR_seeK (3 :: (List.range' (4 + l.size) r.size ++ List.range' 4 0)) ?_ ?_ ?_ hbare ?_)) | ((with_reducible refine atCall 34 ?_); (refine runR_subL (T := fun _ => []) hl hcall rfl ?_)))
        | (with_reducible refine auD ?_)
        | ((with_reducible refine auB ?_ ?_); all_goals first | (intro h; first | exact auH | simp only [h, runR_t, runR_f] | skip) | skip)
        | fail)
      · exact k3_nodup (4 + l.size) r.size 4 0 (by omega) (Nat.le_refl _) (.inr (by omega))
      · intro k hk
        have h4 : k = 3 ∨ (4 + l.size ≤ k ∧ k < 4 + l.size + r.size) := by
          rcases List.mem_cons.1 hk with h | h
          · exact .inl h
          · rcases List.mem_append.1 h with h | h
            · exact .inr (List.mem_range'_1.1 h)
            · exact absurd (List.mem_range'_1.1 h) (by omega)
        simp only [List.length_append, List.length_replicate, hr]
        omega
      · have h := lgets_from (spH r (nm + 1 + l.size)) (none :: some ⟨Γ.g0, 2, [[.v (.int .u32 (a : Nat)), .v (.int .i64 (Lg : Nat))]]⟩ :: none :: some ⟨nm, 4, [[.v (.pointer none), spD r (nm + 1 + l.size), .v (.bool s), .v (.int .i64 w)]]⟩ :: List.replicate l.size none)
        rw [hr] at h
        simp only [List.length_cons, List.length_replicate] at h
        rw [show l.size + 1 + 1 + 1 + 1 = 4 + l.size by omega] at h
        rw [List.range'_zero, List.append_nil]
        exact congrArg (some (⟨nm, 4, [[.v (.pointer none), spD r (nm + 1 + l.size), .v (.bool s), .v (.int .i64 w)]]⟩ : AObj) :: ·) h
      · refine ret_none2 _ (0 :: List.range' (4 + l.size + r.size) (Tr.node l r s w).size) trivial (k0_nodup _ _ (by omega)) (k0_get _ _ _ (by simp [hr]; omega)) (fun n => ⟨⟨rfl, trivial⟩, ⟨rfl, trivial⟩, rfl⟩)
    | false =>
      rw [mk_false hB]
      rw [hB] at hbare
      show MSpec Try.prog _ [.ptr 0 nm 4 0 0, _, _] (none :: some ⟨nm, 4, [spC l r s w nm]⟩ :: (spH l (nm + 1) ++ spH r (nm + 1 + l.size))) (Tr.node .nil r s w).size (fun m D H => D = .tup [.ptr 0 m 4 0 0, .v (.bool ok)] ∧ H = none :: (List.replicate (Tr.node l r s w).size none ++ spH (.node .nil r s w) m))
      refine mspec_fn Try.func34 rfl ok_prefix_remove okr_prefix_remove rfl (by kernel_rfl) ?_
      intro Γ hW0 hN0 hL0
      clear hW0
      unfold x_prefix_remove r_prefix_remove
      with_reducible refine auC ?_
      refine go_leG (le_leG (le_open _ _ _)) ?_
      refine go_leG (le_leG (le_ptr ⟨.d0, .d0, .d0⟩ 3 rfl)) ?_
      with_reducible refine auL ?_
      repeat' (first
        | ((with_reducible refine endD_intro2 ?_ ?_); (exact by kernel_rfl))
        | (with_reducible refine auS ?_)
        | (first | (simp only [Int.toNat_natCast, Nat.zero_mul, Nat.one_mul, List.cons_append, List.nil_append, List.append_nil, e, ew]) | (with_reducible refine runR_call hbs ?_) | ((with_reducible refine atCall 39 ?_); (refine runR_seeK (3 :: (List.range' (4 + l.size) r.size ++ List.range' 4 0)) ?_ ?_ ?_ hbare ?_)) | ((with_reducible refine atCall 34 ?_); (refine runR_subL (T := fun _ => []) hl hcall rfl ?_)))
        | (with_reducible refine auD ?_)
        | ((with_reducible refine auB ?_ ?_); all_goals first | (intro h; first | exact auH | simp only [h, runR_t, runR_f] | skip) | skip)
        | fail)
      · exact k3_nodup (4 + l.size) r.size 4 0 (by omega) (Nat.le_refl _) (.inr (by omega))
      · intro k hk
        have h4 : k = 3 ∨ (4 + l.size ≤ k ∧ k < 4 + l.size + r.size) := by
          rcases List.mem_cons.1 hk with h | h
          · exact .inl h
          · rcases List.mem_append.1 h with h | h
            · exact .inr (List.mem_range'_1.1 h)
            · exact absurd (List.mem_range'_1.1 h) (by omega)
        simp only [List.length_append, List.length_replicate, hr]
        omega
      · have h := lgets_from (spH r (nm + 1 + l.size)) (none :: some ⟨Γ.g0, 2, [[.v (.int .u32 (a : Nat)), .v (.int .i64 (Lg : Nat))]]⟩ :: none :: some ⟨nm, 4, [[.v (.pointer none), spD r (nm + 1 + l.size), .v (.bool s), .v (.int .i64 w)]]⟩ :: List.replicate l.size none)
        rw [hr] at h
        simp only [List.length_cons, List.length_replicate] at h
        rw [show l.size + 1 + 1 + 1 + 1 = 4 + l.size by omega] at h
        rw [List.range'_zero, List.append_nil]
        exact congrArg (some (⟨nm, 4, [[.v (.pointer none), spD r (nm + 1 + l.size), .v (.bool s), .v (.int .i64 w)]]⟩ : AObj) :: ·) h
      · refine ret_node .nil r s w nm 0 (nm + 1 + l.size) (Tr.node l r s w).size (0 :: List.range' (4 + l.size + r.size) (Tr.node l r s w).size) 3 (List.range' 4 0) (List.range' (4 + l.size) r.size) trivial (kx_nodup _ _ _ _ _ _ (Nat.le_refl _) (by omega) (.inl (by omega)) (by omega) (by omega)) (k0_get _ _ _ (by simp [hr]; omega)) rfl rfl ?_ (fun n => ?_)
        · have h := lgets_from (spH r (nm + 1 + l.size)) (none :: some ⟨Γ.g0, 2, [[.v (.int .u32 (a : Nat)), .v (.int .i64 (Lg : Nat))]]⟩ :: none :: some ⟨nm, 4, [[.v (.pointer none), spD r (nm + 1 + l.size), .v (.bool s), .v (.int .i64 w)]]⟩ :: List.replicate l.size none)
          rw [hr] at h
          simp only [List.length_cons, List.length_replicate] at h
          rw [show l.size + 1 + 1 + 1 + 1 = 4 + l.size by omega] at h
          exact h
        · exact ⟨⟨0, n, .inl ⟨0, rfl, rfl⟩, rfl⟩, ⟨rfl, trivial⟩, rfl⟩
  | node l1 r1 s1 v1 =>
    have hlen := fun m => spH_len (.node l1 r1 s1 v1) m
    have hcall : MSpec Try.prog 34 [spD l (nm + 1), dNt a Lg, .v (.int .i64 ((d + 1 : Nat) : Int))] (none :: spH l (nm + 1)) (Tr.node l1 r1 s1 v1).size (fun m D H => D = .tup [.ptr 0 m 4 0 0, .v (.bool ok)] ∧ H = none :: (List.replicate l.size none ++ spH (.node l1 r1 s1 v1) m)) := ih
    have hB : bareT (.node (.node l1 r1 s1 v1) r s w) = false := by unfold bareT; simp [Tr.size]
    rw [mk_false hB]
    have hbare0 := fun g => bareG (.node l1 r1 s1 v1) r s w 3 nm g (nm + 1 + l.size)
    rw [hB] at hbare0
    have hbare : ∀ g, MSpec Try.prog 39 [.ptr 3 nm 4 0 0] (some ⟨nm, 4, [[.ptr 0 g 4 0 0, spD r (nm + 1 + l.size), .v (.bool s), .v (.int .i64 w)]]⟩ :: (spH (.node l1 r1 s1 v1) g ++ spH r (nm + 1 + l.size))) 0 (fun n d H => d = .v (.bool false) ∧ H = some ⟨nm, 4, [[.ptr 0 g 4 0 0, spD r (nm + 1 + l.size), .v (.bool s), .v (.int .i64 w)]]⟩ :: (spH (.node l1 r1 s1 v1) g ++ spH r (nm + 1 + l.size))) := hbare0
    clear hbare0
    have hsp : ∀ g, spD (.node l1 r1 s1 v1) g = .ptr 0 g 4 0 0 := fun g => rfl
    generalize Tr.node l1 r1 s1 v1 = T1 at *
    show MSpec Try.prog _ [.ptr 0 nm 4 0 0, _, _] (none :: some ⟨nm, 4, [spC l r s w nm]⟩ :: (spH l (nm + 1) ++ spH r (nm + 1 + l.size))) (Tr.node T1 r s w).size (fun m D H => D = .tup [.ptr 0 m 4 0 0, .v (.bool ok)] ∧ H = none :: (List.replicate (Tr.node l r s w).size none ++ spH (.node T1 r s w) m))
    refine mspec_fn Try.func34 rfl ok_prefix_remove okr_prefix_remove rfl (by kernel_rfl) ?_
    intro Γ hW0 hN0 hL0
    clear hW0
    unfold x_prefix_remove r_prefix_remove
    with_reducible refine auC ?_
    refine go_leG (le_leG (le_open _ _ _)) ?_
    refine go_leG (le_leG (le_ptr ⟨.d0, .d0, .d0⟩ 3 rfl)) ?_
    with_reducible refine auL ?_
    have hlT := spH_len T1 (Γ.g0 + 1)
    have hbare := hbare (Γ.g0 + 1)
    repeat' (first
      | ((with_reducible refine endD_intro2 ?_ ?_); (exact by kernel_rfl))
      | (with_reducible refine auS ?_)
      | (first | (simp only [Int.toNat_natCast, Nat.zero_mul, Nat.one_mul, List.cons_append, List.nil_append, e, ew]) | (with_reducible refine runR_call hbs ?_) | ((with_reducible refine atCall 39 ?_); (refine runR_seeK (3 :: (List.range' (4 + l.size + r.size) T1.size ++ List.range' (4 + l.size) r.size)) ?_ ?_ ?_ hbare ?_)) | ((with_reducible refine atCall 34 ?_); (refine runR_subL hl hcall (hlen _) ?_)))
      | (with_reducible refine auD ?_)
      | ((with_reducible refine auB ?_ ?_); all_goals first | (intro h; first | exact auH | simp only [h, runR_t, runR_f] | skip) | skip)
      | fail)
    · exact k3_nodup _ _ _ _ (by omega) (by omega) (.inr (by omega))
    · intro k hk
      have h4 : k = 3 ∨ (4 + l.size + r.size ≤ k ∧ k < 4 + l.size + r.size + T1.size) ∨ (4 + l.size ≤ k ∧ k < 4 + l.size + r.size) := by
        rcases List.mem_cons.1 hk with h | h
        · exact .inl h
        · rcases List.mem_append.1 h with h | h
          · exact .inr (.inl (List.mem_range'_1.1 h))
          · exact .inr (.inr (List.mem_range'_1.1 h))
      simp only [List.length_append, List.length_replicate, hr, hlT]
      omega
    · have g1 := lgets_from (spH T1 (Γ.g0 + 1)) (none :: some ⟨Γ.g0, 2, [[.v (.int .u32 (a : Nat)), .v (.int .i64 (Lg : Nat))]]⟩ :: none :: some ⟨nm, 4, [[.ptr 0 (Γ.g0 + 1) 4 0 0, spD r (nm + 1 + l.size), .v (.bool s), .v (.int .i64 w)]]⟩ :: (List.replicate l.size none ++ spH r (nm + 1 + l.size)))
      rw [hlT] at g1
      simp only [List.length_cons, List.length_append, List.length_replicate, hr] at g1
      rw [show l.size + r.size + 1 + 1 + 1 + 1 = 4 + l.size + r.size by omega] at g1
      simp only [List.cons_append, List.append_assoc] at g1
      have g2 := lgets_seg (none :: some ⟨Γ.g0, 2, [[.v (.int .u32 (a : Nat)), .v (.int .i64 (Lg : Nat))]]⟩ :: none :: some ⟨nm, 4, [[.ptr 0 (Γ.g0 + 1) 4 0 0, spD r (nm + 1 + l.size), .v (.bool s), .v (.int .i64 w)]]⟩ :: List.replicate l.size none) (spH r (nm + 1 + l.size)) (spH T1 (Γ.g0 + 1))
      rw [hr] at g2
      simp only [List.length_cons, List.length_replicate] at g2
      rw [show l.size + 1 + 1 + 1 + 1 = 4 + l.size by omega] at g2
      show lget _ 3 :: lgets _ (_ ++ _) = _
      rw [lgets_two]
      have g2' : lgets (none :: some ⟨Γ.g0, 2, [[.v (.int .u32 (a : Nat)), .v (.int .i64 (Lg : Nat))]]⟩ :: none :: some ⟨nm, 4, [[.ptr 0 (Γ.g0 + 1) 4 0 0, spD r (nm + 1 + l.size), .v (.bool s), .v (.int .i64 w)]]⟩ :: (List.replicate l.size none ++ (spH r (nm + 1 + l.size) ++ spH T1 (Γ.g0 + 1)))) (List.range' (4 + l.size) r.size) = spH r (nm + 1 + l.size) := g2
      rw [g1, g2']
      rfl
    · refine ret_node T1 r s w nm (Γ.g0 + 1) (nm + 1 + l.size) (Tr.node l r s w).size (0 :: List.range' (4 + l.size + r.size + T1.size) (Tr.node l r s w).size) 3 (List.range' (4 + l.size + r.size) T1.size) (List.range' (4 + l.size) r.size) trivial (kx_nodup _ _ _ _ _ _ (by omega) (by omega) (.inr (Nat.le_refl _)) (by omega) (by omega)) (k0_get _ _ _ (by simp [hr, hlT]; omega)) (by rw [hsp]; rfl) ?_ ?_ (fun n => ?_)
      · have h := lgets_from (spH T1 (Γ.g0 + 1)) (none :: some ⟨Γ.g0, 2, [[.v (.int .u32 (a : Nat)), .v (.int .i64 (Lg : Nat))]]⟩ :: none :: some ⟨nm, 4, [[.ptr 0 (Γ.g0 + 1) 4 0 0, spD r (nm + 1 + l.size), .v (.bool s), .v (.int .i64 w)]]⟩ :: (List.replicate l.size none ++ spH r (nm + 1 + l.size)))
        rw [hlT] at h
        simp only [List.length_cons, List.length_append, List.length_replicate, hr] at h
        rw [show l.size + r.size + 1 + 1 + 1 + 1 = 4 + l.size + r.size by omega] at h
        simp only [List.cons_append, List.append_assoc] at h
        exact h
      · have h := lgets_seg (none :: some ⟨Γ.g0, 2, [[.v (.int .u32 (a : Nat)), .v (.int .i64 (Lg : Nat))]]⟩ :: none :: some ⟨nm, 4, [[.ptr 0 (Γ.g0 + 1) 4 0 0, spD r (nm + 1 + l.size), .v (.bool s), .v (.int .i64 w)]]⟩ :: List.replicate l.size none) (spH r (nm + 1 + l.size)) (spH T1 (Γ.g0 + 1))
        rw [hr] at h
        simp only [List.length_cons, List.length_replicate] at h
        rw [show l.size + 1 + 1 + 1 + 1 = 4 + l.size by omega] at h
        exact h
      · exact ⟨⟨0, n, .inl ⟨0, rfl, rfl⟩, rfl⟩, ⟨rfl, trivial⟩, rfl⟩
set_option maxHeartbeats 4000000 in
theorem rem_right (l r : Tr) (s : Bool) (w : Int) (q : B8) (nm a Lg d : Nat) (ha : a < 4294967296) (hd : d < Lg) (hL : Lg ≤ 32) (h0 : a / 2 ^ (31 - d) % 2 = 1) (ih : RemS r q (nm + 1 + l.size) a Lg (d + 1)) : RemS (.node l r s w) (49 :: q) nm a Lg d := by
  have hbs := bit_spec a d ha (by omega)
  rw [h0] at hbs
  have ew : IntKind.i64.wrap ((d : Int) + 1) = ((d + 1 : Nat) : Int) := (IntWalk.i64_in _ (by omega)).trans (by omega)
  have e : decide (((d : Nat) : Int) = (Lg : Nat)) = false := decide_eq_false (by omega)
  have hl := spH_len l (nm + 1)
  have hr := spH_len r (nm + 1 + l.size)
  have hsT : (Tr.node l r s w).size = 1 + (l.size + r.size) := rfl
  have hm0 : remT (.node l r s w) (49 :: q) = (mkT l (remT r q).1 s w, (remT r q).2) := if_neg (by decide)
  unfold RemS at ih ⊢
  rw [hm0]
  generalize (remT r q).2 = ok at *
  generalize hT : (remT r q).1 = T1 at *
  clear hT hm0
  cases T1 with
  | nil =>
    have hcall : MSpec Try.prog 34 [spD r (nm + 1 + l.size), dNt a Lg, .v (.int .i64 ((d + 1 : Nat) : Int))] (none :: spH r (nm + 1 + l.size)) 0 (fun m D H => D = .tup [.v (.pointer none), .v (.bool ok)] ∧ H = none :: (List.replicate r.size none ++ [])) := ih
    have hbare : MSpec Try.prog 39 [.ptr 3 nm 4 0 0] (some ⟨nm, 4, [[spD l (nm + 1), .v (.pointer none), .v (.bool s), .v (.int .i64 w)]]⟩ :: spH l (nm + 1)) 0 (fun n d H => d = .v (.bool (bareT (.node l .nil s w))) ∧ H = some ⟨nm, 4, [[spD l (nm + 1), .v (.pointer none), .v (.bool s), .v (.int .i64 w)]]⟩ :: spH l (nm + 1)) := by
      have h := bareG l .nil s w 3 nm (nm + 1) 0
      simpa only [spH, spD, List.append_nil] using h
    cases hB : bareT (.node l .nil s w) with
    | true =>
      rw [mk_true hB]
      rw [hB] at hbare
      show MSpec Try.prog _ [.ptr 0 nm 4 0 0, _, _] (none :: some ⟨nm, 4, [spC l r s w nm]⟩ :: (spH l (nm + 1) ++ spH r (nm + 1 + l.size))) 0 (fun m D H => D = .tup [.v (.pointer none), .v (.bool ok)] ∧ H = none :: (List.replicate (Tr.node l r s w).size none ++ []))
      refine mspec_fn Try.func34 rfl ok_prefix_remove okr_prefix_remove rfl (by kernel_rfl) ?_
      intro Γ hW0 hN0 hL0
      clear hW0
      unfold x_prefix_remove r_prefix_remove
      with_reducible refine auC ?_
      refine go_leG (le_leG (le_open _ _ _)) ?_
      refine go_leG (le_leG (le_ptr ⟨.d0, .d0, .d0⟩ 3 rfl)) ?_
      with_reducible refine auL ?_
      repeat' (first
        | ((with_reducible refine endD_intro2 ?_ ?_); (exact by kernel_rfl))
        | (with_reducible refine auS ?_)
        | (first | (simp only [Int.toNat_natCast, Nat.zero_mul, Nat.one_mul, List.cons_append, List.nil_append, List.append_nil, e, ew]) | (with_reducible refine runR_call hbs ?_) | ((with_reducible refine atCall 39 ?_); (refine runR_seeK (3 :: (List.range' 4 l.size ++ List.range' (4 + l.size) 0)) ?_ ?_ ?_ hbare ?_)) | ((with_reducible refine atCall 34 ?_); (refine runR_subR (T := fun _ => []) hl hr hcall rfl ?_)))
        | (with_reducible refine auD ?_)
        | ((with_reducible refine auB ?_ ?_); all_goals first | (intro h; first | exact auH | simp only [h, runR_t, runR_f] | skip) | skip)
        | fail)
      · exact k3_nodup 4 l.size (4 + l.size) 0 (Nat.le_refl _) (by omega) (.inl (Nat.le_refl _))
      · intro k hk
        have h4 : k = 3 ∨ (4 ≤ k ∧ k < 4 + l.size) := by
          rcases List.mem_cons.1 hk with h | h
          · exact .inl h
          · rcases List.mem_append.1 h with h | h
            · exact .inr (List.mem_range'_1.1 h)
            · exact absurd (List.mem_range'_1.1 h) (by omega)
        simp only [List.length_append, List.length_replicate, hl]
        omega
      · have h := lgets_seg [none, some ⟨Γ.g0, 2, [[.v (.int .u32 (a : Nat)), .v (.int .i64 (Lg : Nat))]]⟩, none, some ⟨nm, 4, [[spD l (nm + 1), .v (.pointer none), .v (.bool s), .v (.int .i64 w)]]⟩] (spH l (nm + 1)) (List.replicate r.size none)
        rw [hl] at h
        rw [List.range'_zero, List.append_nil]
        exact congrArg (some (⟨nm, 4, [[spD l (nm + 1), .v (.pointer none), .v (.bool s), .v (.int .i64 w)]]⟩ : AObj) :: ·) h
      · refine ret_none2 _ (0 :: List.range' (4 + l.size + r.size) (Tr.node l r s w).size) trivial (k0_nodup _ _ (by omega)) (k0_get _ _ _ (by simp [hl]; omega)) (fun n => ⟨⟨rfl, trivial⟩, ⟨rfl, trivial⟩, rfl⟩)
    | false =>
      rw [mk_false hB]
      rw [hB] at hbare
      show MSpec Try.prog _ [.ptr 0 nm 4 0 0, _, _] (none :: some ⟨nm, 4, [spC l r s w nm]⟩ :: (spH l (nm + 1) ++ spH r (nm + 1 + l.size))) (Tr.node l .nil s w).size (fun m D H => D = .tup [.ptr 0 m 4 0 0, .v (.bool ok)] ∧ H = none :: (List.replicate (Tr.node l r s w).size none ++ spH (.node l .nil s w) m))
      refine mspec_fn Try.func34 rfl ok_prefix_remove okr_prefix_remove rfl (by kernel_rfl) ?_
      intro Γ hW0 hN0 hL0
      clear hW0
      unfold x_prefix_remove r_prefix_remove
      with_reducible refine auC ?_
      refine go_leG (le_leG (le_open _ _ _)) ?_
      refine go_leG (le_leG (le_ptr ⟨.d0, .d0, .d0⟩ 3 rfl)) ?_
      with_reducible refine auL ?_
      repeat' (first
        | ((with_reducible refine endD_intro2 ?_ ?_); (exact by kernel_rfl))
        | (with_reducible refine auS ?_)
        | (first | (simp only [Int.toNat_natCast, Nat.zero_mul, Nat.one_mul, List.cons_append, List.nil_append, List.append_nil, e, ew]) | (with_reducible refine runR_call hbs ?_) | ((with_reducible refine atCall 39 ?_); (refine runR_seeK (3 :: (List.range' 4 l.size ++ List.range' (4 + l.size) 0)) ?_ ?_ ?_ hbare ?_)) | ((with_reducible refine atCall 34 ?_); (refine runR_subR (T := fun _ => []) hl hr hcall rfl ?_)))
        | (with_reducible refine auD ?_)
        | ((with_reducible refine auB ?_ ?_); all_goals first | (intro h; first | exact auH | simp only [h, runR_t, runR_f] | skip) | skip)
        | fail)
      · exact k3_nodup 4 l.size (4 + l.size) 0 (Nat.le_refl _) (by omega) (.inl (Nat.le_refl _))
      · intro k hk
        have h4 : k = 3 ∨ (4 ≤ k ∧ k < 4 + l.size) := by
          rcases List.mem_cons.1 hk with h | h
          · exact .inl h
          · rcases List.mem_append.1 h with h | h
            · exact .inr (List.mem_range'_1.1 h)
            · exact absurd (List.mem_range'_1.1 h) (by omega)
        simp only [List.length_append, List.length_replicate, hl]
        omega
      · have h := lgets_seg [none, some ⟨Γ.g0, 2, [[.v (.int .u32 (a : Nat)), .v (.int .i64 (Lg : Nat))]]⟩, none, some ⟨nm, 4, [[spD l (nm + 1), .v (.pointer none), .v (.bool s), .v (.int .i64 w)]]⟩] (spH l (nm + 1)) (List.replicate r.size none)
        rw [hl] at h
        rw [List.range'_zero, List.append_nil]
        exact congrArg (some (⟨nm, 4, [[spD l (nm + 1), .v (.pointer none), .v (.bool s), .v (.int .i64 w)]]⟩ : AObj) :: ·) h
      · refine ret_node l .nil s w nm (nm + 1) 0 (Tr.node l r s w).size (0 :: List.range' (4 + l.size + r.size) (Tr.node l r s w).size) 3 (List.range' 4 l.size) (List.range' (4 + l.size) 0) trivial (kx_nodup _ _ _ _ _ _ (Nat.le_refl _) (by omega) (.inl (by omega)) (by omega) (by omega)) (k0_get _ _ _ (by simp [hl]; omega)) rfl ?_ rfl (fun n => ?_)
        · have h := lgets_seg [none, some ⟨Γ.g0, 2, [[.v (.int .u32 (a : Nat)), .v (.int .i64 (Lg : Nat))]]⟩, none, some ⟨nm, 4, [[spD l (nm + 1), .v (.pointer none), .v (.bool s), .v (.int .i64 w)]]⟩] (spH l (nm + 1)) (List.replicate r.size none)
          rw [hl] at h
          exact h
        · exact ⟨⟨0, n, .inl ⟨0, rfl, rfl⟩, rfl⟩, ⟨rfl, trivial⟩, rfl⟩
  | node l1 r1 s1 v1 =>
    have hlen := fun m => spH_len (.node l1 r1 s1 v1) m
    have hcall : MSpec Try.prog 34 [spD r (nm + 1 + l.size), dNt a Lg, .v (.int .i64 ((d + 1 : Nat) : Int))] (none :: spH r (nm + 1 + l.size)) (Tr.node l1 r1 s1 v1).size (fun m D H => D = .tup [.ptr 0 m 4 0 0, .v (.bool ok)] ∧ H = none :: (List.replicate r.size none ++ spH (.node l1 r1 s1 v1) m)) := ih
    have hB : bareT (.node l (.node l1 r1 s1 v1) s w) = false := by unfold bareT; simp [Tr.size]
    rw [mk_false hB]
    have hbare0 := fun g => bareG l (.node l1 r1 s1 v1) s w 3 nm (nm + 1) g
    rw [hB] at hbare0
    have hbare : ∀ g, MSpec Try.prog 39 [.ptr 3 nm 4 0 0] (some ⟨nm, 4, [[spD l (nm + 1), .ptr 0 g 4 0 0, .v (.bool s), .v (.int .i64 w)]]⟩ :: (spH l (nm + 1) ++ spH (.node l1 r1 s1 v1) g)) 0 (fun n d H => d = .v (.bool false) ∧ H = some ⟨nm, 4, [[spD l (nm + 1), .ptr 0 g 4 0 0, .v (.bool s), .v (.int .i64 w)]]⟩ :: (spH l (nm + 1) ++ spH (.node l1 r1 s1 v1) g)) := hbare0
    clear hbare0
    have hsp : ∀ g, spD (.node l1 r1 s1 v1) g = .ptr 0 g 4 0 0 := fun g => rfl
    generalize Tr.node l1 r1 s1 v1 = T1 at *
    show MSpec Try.prog _ [.ptr 0 nm 4 0 0, _, _] (none :: some ⟨nm, 4, [spC l r s w nm]⟩ :: (spH l (nm + 1) ++ spH r (nm + 1 + l.size))) (Tr.node l T1 s w).size (fun m D H => D = .tup [.ptr 0 m 4 0 0, .v (.bool ok)] ∧ H = none :: (List.replicate (Tr.node l r s w).size none ++ spH (.node l T1 s w) m))
    refine mspec_fn Try.func34 rfl ok_prefix_remove okr_prefix_remove rfl (by kernel_rfl) ?_
    intro Γ hW0 hN0 hL0
    clear hW0
    unfold x_prefix_remove r_prefix_remove
    with_reducible refine auC ?_
    refine go_leG (le_leG (le_open _ _ _)) ?_
    refine go_leG (le_leG (le_ptr ⟨.d0, .d0, .d0⟩ 3 rfl)) ?_
    with_reducible refine auL ?_
    have hlT := spH_len T1 (Γ.g0 + 1)
    have hbare := hbare (Γ.g0 + 1)
    repeat' (first
      | ((with_reducible refine endD_intro2 ?_ ?_); (exact by kernel_rfl))
      | (with_reducible refine auS ?_)
      | (first | (simp only [Int.toNat_natCast, Nat.zero_mul, Nat.one_mul, List.cons_append, List.nil_append, e, ew]) | (with_reducible refine runR_call hbs ?_) | ((with_reducible refine atCall 39 ?_); (refine runR_seeK (3 :: (List.range' 4 l.size ++ List.range' (4 + l.size + r.size) T1.size)) ?_ ?_ ?_ hbare ?_)) | ((with_reducible refine atCall 34 ?_); (refine runR_subR hl hr hcall (hlen _) ?_)))
      | (with_reducible refine auD ?_)
      | ((with_reducible refine auB ?_ ?_); all_goals first | (intro h; first | exact auH | simp only [h, runR_t, runR_f] | skip) | skip)
      | fail)
    · exact k3_nodup _ _ _ _ (Nat.le_refl _) (by omega) (.inl (by omega))
    · intro k hk
      have h4 : k = 3 ∨ (4 ≤ k ∧ k < 4 + l.size) ∨ (4 + l.size + r.size ≤ k ∧ k < 4 + l.size + r.size + T1.size) := by
        rcases List.mem_cons.1 hk with h | h
        · exact .inl h
        · rcases List.mem_append.1 h with h | h
          · exact .inr (.inl (List.mem_range'_1.1 h))
          · exact .inr (.inr (List.mem_range'_1.1 h))
      simp only [List.length_append, List.length_replicate, hl, hlT]
      omega
    · have g1 := lgets_from (spH T1 (Γ.g0 + 1)) (none :: some ⟨Γ.g0, 2, [[.v (.int .u32 (a : Nat)), .v (.int .i64 (Lg : Nat))]]⟩ :: none :: some ⟨nm, 4, [[spD l (nm + 1), .ptr 0 (Γ.g0 + 1) 4 0 0, .v (.bool s), .v (.int .i64 w)]]⟩ :: (spH l (nm + 1) ++ List.replicate r.size none))
      rw [hlT] at g1
      simp only [List.length_cons, List.length_append, List.length_replicate, hl] at g1
      rw [show l.size + r.size + 1 + 1 + 1 + 1 = 4 + l.size + r.size by omega] at g1
      simp only [List.cons_append, List.append_assoc] at g1
      have g2 := lgets_seg [none, some ⟨Γ.g0, 2, [[.v (.int .u32 (a : Nat)), .v (.int .i64 (Lg : Nat))]]⟩, none, some ⟨nm, 4, [[spD l (nm + 1), .ptr 0 (Γ.g0 + 1) 4 0 0, .v (.bool s), .v (.int .i64 w)]]⟩] (spH l (nm + 1)) (List.replicate r.size none ++ spH T1 (Γ.g0 + 1))
      rw [hl] at g2
      show lget _ 3 :: lgets _ (_ ++ _) = _
      rw [lgets_two]
      have g2' : lgets (none :: some ⟨Γ.g0, 2, [[.v (.int .u32 (a : Nat)), .v (.int .i64 (Lg : Nat))]]⟩ :: none :: some ⟨nm, 4, [[spD l (nm + 1), .ptr 0 (Γ.g0 + 1) 4 0 0, .v (.bool s), .v (.int .i64 w)]]⟩ :: (spH l (nm + 1) ++ (List.replicate r.size none ++ spH T1 (Γ.g0 + 1)))) (List.range' 4 l.size) = spH l (nm + 1) := g2
      rw [g1, g2']
      rfl
    · refine ret_node l T1 s w nm (nm + 1) (Γ.g0 + 1) (Tr.node l r s w).size (0 :: List.range' (4 + l.size + r.size + T1.size) (Tr.node l r s w).size) 3 (List.range' 4 l.size) (List.range' (4 + l.size + r.size) T1.size) trivial (kx_nodup _ _ _ _ _ _ (Nat.le_refl _) (by omega) (.inl (by omega)) (by omega) (by omega)) (k0_get _ _ _ (by simp [hl, hlT]; omega)) (by rw [hsp]; rfl) ?_ ?_ (fun n => ?_)
      · have h := lgets_seg [none, some ⟨Γ.g0, 2, [[.v (.int .u32 (a : Nat)), .v (.int .i64 (Lg : Nat))]]⟩, none, some ⟨nm, 4, [[spD l (nm + 1), .ptr 0 (Γ.g0 + 1) 4 0 0, .v (.bool s), .v (.int .i64 w)]]⟩] (spH l (nm + 1)) (List.replicate r.size none ++ spH T1 (Γ.g0 + 1))
        rw [hl] at h
        exact h
      · have h := lgets_from (spH T1 (Γ.g0 + 1)) (none :: some ⟨Γ.g0, 2, [[.v (.int .u32 (a : Nat)), .v (.int .i64 (Lg : Nat))]]⟩ :: none :: some ⟨nm, 4, [[spD l (nm + 1), .ptr 0 (Γ.g0 + 1) 4 0 0, .v (.bool s), .v (.int .i64 w)]]⟩ :: (spH l (nm + 1) ++ List.replicate r.size none))
        rw [hlT] at h
        simp only [List.length_cons, List.length_append, List.length_replicate, hl] at h
        rw [show l.size + r.size + 1 + 1 + 1 + 1 = 4 + l.size + r.size by omega] at h
        simp only [List.cons_append, List.append_assoc] at h
        exact h
      · exact ⟨⟨0, n, .inl ⟨0, rfl, rfl⟩, rfl⟩, ⟨rfl, trivial⟩, rfl⟩
theorem rem_spec (a Lg : Nat) (ha : a < 4294967296) (hL : Lg ≤ 32) : ∀ (k d : Nat) (T : Tr) (nm : Nat), d + k = Lg → RemS T (bitsF a d k) nm a Lg d
  | k, d, .nil, nm, h => rem_nil _ nm a Lg d
  | 0, d, .node l r s w, nm, h => by
    obtain rfl : d = Lg := by omega
    exact rem_node0 l r s w nm a d
  | k + 1, d, .node l r s w, nm, h => by
    rw [bitsF_succ]
    rcases Nat.mod_two_eq_zero_or_one (a / 2 ^ (31 - d)) with h0 | h0
    · rw [h0]
      exact rem_left l r s w _ nm a Lg d ha (by omega) hL h0 (rem_spec a Lg ha hL k (d + 1) l (nm + 1) (by omega))
    · rw [h0]
      exact rem_right l r s w _ nm a Lg d ha (by omega) hL h0 (rem_spec a Lg ha hL k (d + 1) r (nm + 1 + l.size) (by omega))
end Go.Proofs.Ytlfbjdafnappdaa
