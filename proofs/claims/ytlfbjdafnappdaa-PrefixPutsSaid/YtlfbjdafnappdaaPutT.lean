/-
  Tries in the program: how a tree is laid out as nodes.
-/
import Derived.Test.YtlfbjdafnappdaaPutU
namespace Go.Proofs.Ytlfbjdafnappdaa
set_option linter.unusedVariables false
set_option linter.unusedSimpArgs false
abbrev ndX (X : List Nd) : List (List DV) := X.map Nd.enc
abbrev lC (n m k : Nat) : AObj := ⟨n, 1, [[.sl 3 m 4 0 k false]]⟩
abbrev hLay (nL rL : Nat) (X : List Nd) : HL := [some (lC nL rL X.length), none, none, some ⟨rL, 4, ndX X⟩]
abbrev LayS (T : Tr) (nL rL : Nat) (X : List Nd) : Prop := MSpec Try.prog 44 [dTr T, .ptr 0 nL 1 0 0] (hLay nL rL X) 1 (fun m d H => d = .v (.int .i64 (X.length : Nat)) ∧ H = hLay nL m (X ++ lay T X.length))
theorem ndX_len (X : List Nd) : (ndX X).length = X.length := List.length_map _
theorem ndX_nf (X : List Nd) (g : Nat) : nfLL g (ndX X) := nfLL_map (fun x => by simp [nfL, nfD])
theorem ndX_one (X : List Nd) : allOnes (ndX X) = true := allOnes_map (f := Nd.enc) (fun x => rfl) X
theorem ndX_snoc (X : List Nd) (x : Nd) : ndX X ++ [x.enc] = ndX (X ++ [x]) := by simp
theorem ndX_at (X Z : List Nd) (x : Nd) : xget (ndX (X ++ x :: Z)) X.length = x.enc := xget_map Nd.enc _ _ x (by simp)
theorem set_0 (X W : List Nd) (A B : Int) (s : Bool) (v A' : Int) : xset (ndX (X ++ ⟨A, B, s, v⟩ :: W)) (0 + X.length) (splice (xget (ndX (X ++ ⟨A, B, s, v⟩ :: W)) (0 + X.length)) 0 [.v (.int .i64 A')]) = ndX (X ++ ⟨A', B, s, v⟩ :: W) := by
  rw [Nat.zero_add, ndX_at]
  have h := xset_map Nd.enc (X ++ ⟨A, B, s, v⟩ :: W) X.length ⟨A', B, s, v⟩
  rw [show (X ++ (⟨A, B, s, v⟩ : Nd) :: W).set X.length ⟨A', B, s, v⟩ = X ++ ⟨A', B, s, v⟩ :: W by simp] at h
  exact h
theorem set_1 (X W : List Nd) (A B : Int) (s : Bool) (v B' : Int) : xset (ndX (X ++ ⟨A, B, s, v⟩ :: W)) (0 + X.length) (splice (xget (ndX (X ++ ⟨A, B, s, v⟩ :: W)) (0 + X.length)) 1 [.v (.int .i64 B')]) = ndX (X ++ ⟨A, B', s, v⟩ :: W) := by
  rw [Nat.zero_add, ndX_at]
  have h := xset_map Nd.enc (X ++ ⟨A, B, s, v⟩ :: W) X.length ⟨A, B', s, v⟩
  rw [show (X ++ (⟨A, B, s, v⟩ : Nd) :: W).set X.length ⟨A, B', s, v⟩ = X ++ ⟨A, B', s, v⟩ :: W by simp] at h
  exact h
structure LyS where
  (k : Nat) (K : Int) (A B : Int) (Z : List Nd) (nm g : Nat)
set_option maxHeartbeats 4000000 in
theorem lay_node (l r : Tr) (s : Bool) (v : Int) (nL rL : Nat) (X : List Nd) (hX : X.length + (Tr.node l r s v).size ≤ 20000)
    (ihl : ∀ (rL : Nat) (X : List Nd), l ≠ .nil → X.length + l.size ≤ 20000 → LayS l nL rL X) (ihr : ∀ (rL : Nat) (X : List Nd), r ≠ .nil → X.length + r.size ≤ 20000 → LayS r nL rL X) : LayS (.node l r s v) nL rL X := by
  simp only [Tr.size] at hX
  have hlX := ndX_len X
  have hsn := ndX_snoc X ⟨0, 0, s, v⟩
  unfold LayS
  simp only [dTr]
  refine mspec_fn Try.func44 rfl ok_prefix_lay okr_prefix_lay rfl (by kernel_rfl) ?_
  intro Γ hW0 hN0 hL0
  clear hW0
  unfold x_prefix_lay r_prefix_lay
  with_reducible refine auC ?_
  have hnL : nL < Γ.g0 := hN0 0 _ rfl
  repeat' (first
    | (with_reducible refine auS ?_)
    | (simp only [hlX, hsn])
    | (with_reducible refine auD ?_)
    | ((with_reducible refine auB ?_ ?_); all_goals first | (intro h; first | exact auH | simp only [h, runR_t, runR_f] | skip) | skip)
    | (first | ((with_reducible refine atN ?_); first | (refine runR_n ⟨by trivial, by trivial, by trivial, by trivial, hlX.symm⟩ ?_) | (refine runR_n ⟨by trivial, by (try rw [hlX]); unfold room maxLen; (try simp only [List.length_cons, List.length_nil]); omega⟩ ?_)) | fail))
  refine go_loopH (α := LyS) (fun y => [(⟨.d0, .d4, .d1⟩, .v (.int .i64 y.K))]) (fun y => [(0, some (lC nL y.nm (X ++ ⟨y.A, y.B, s, v⟩ :: y.Z).length)), (2, none), (3, some ⟨y.nm, 4, ndX (X ++ ⟨y.A, y.B, s, v⟩ :: y.Z)⟩)]) (fun y => y.g) (fun y => 2 - y.k)
    (fun y => y.k ≤ 2 ∧ (y.k = 0 → y.K = 0 ∧ y.A = 0 ∧ y.B = 0 ∧ y.Z = []) ∧ (y.k = 1 → y.K = 1 ∧ y.A = (if l.size = 0 then 0 else ((X.length + 1 : Nat) : Int)) ∧ y.B = 0 ∧ y.Z = lay l (X.length + 1)) ∧
      (y.k = 2 → y.K = 2 ∧ y.A = (if l.size = 0 then 0 else ((X.length + 1 : Nat) : Int)) ∧ y.B = (if r.size = 0 then 0 else ((X.length + 1 + l.size : Nat) : Int)) ∧ y.Z = lay l (X.length + 1) ++ lay r (X.length + 1 + l.size)) ∧ Γ.g0 + 1 ≤ y.nm ∧ Γ.g0 + 1 ≤ y.g)
    ⟨0, 0, 0, 0, [], Γ.g0 + 1, Γ.g0 + 2⟩ ⟨Nat.zero_le _, fun _ => ⟨rfl, rfl, rfl, rfl⟩, fun h => absurd (show (0 : Nat) = 1 from h) (by decide), fun h => absurd (show (0 : Nat) = 2 from h) (by decide), Nat.le_refl _, Nat.le_succ _⟩ ?_ ?_
  · skip
    refine le_mk ?_ ?_ (Nat.le_refl _)
    all_goals first | with_reducible refine auE ?_ | exact auE0
    all_goals (repeat' (first | exact trivial | exact rfl | apply And.intro))
    all_goals first
      | (simp; done)
      | skip
  rintro ⟨k, K, A, B, Z, nm, g⟩ ⟨hk, h0, h1, h2, hnm, hg⟩
  dsimp only at hk h0 h1 h2 hnm hg ⊢
  have w0 : IntKind.i64.wrap ((0 : Int) + 1) = 1 := by decide
  have w1 : IntKind.i64.wrap ((1 : Int) + 1) = 2 := by decide
  obtain rfl | rfl | rfl : k = 0 ∨ k = 1 ∨ k = 2 := by omega
  · obtain ⟨rfl, rfl, rfl, rfl⟩ := h0 rfl
    clear h0 h1 h2
    with_reducible refine auL ?_
    cases l with
    | nil =>
      have hcall := w0
      simp only [dTr]
      repeat' (first
        | (with_reducible refine auS ?_)
        | (first | (simp only [w0, w1, Int.toNat_natCast, Nat.zero_mul, Nat.one_mul]) | ((with_reducible refine atCall 44 ?_); (refine runR_callG [0, 8, 9, 3] [] [0, 8, 9, 3] rfl (by decide) rfl rfl (hcall _) ?_)))
        | (with_reducible refine auD ?_)
        | ((with_reducible refine auB ?_ ?_); all_goals first | (intro h; first | exact auH | simp only [h, runR_t, runR_f] | skip) | skip)
        | (first | ((with_reducible refine atN ?_); (refine runR_n (by simp only [ndX_len, List.length_append, List.length_cons]; omega) ?_)) | fail))
      (all_goals first | exact auP | skip)
      refine nx_loop ⟨⟨1, 1, 0, 0, [], nm, g⟩, ⟨(show (1 : Nat) ≤ 2 by decide), fun h => absurd (show (1 : Nat) = 0 from h) (by decide), fun _ => ⟨rfl, rfl, rfl, rfl⟩, fun h => absurd (show (1 : Nat) = 2 from h) (by decide), hnm, hg⟩, (show (2 - 1 : Nat) < 2 - 0 by decide), ?_⟩
      refine le_mk ?_ ?_ (Nat.le_refl _)
      all_goals first | with_reducible refine auE ?_ | exact auE0
      all_goals (repeat' (first | exact trivial | exact rfl | apply And.intro))
    | node l1 r1 s1 v1 =>
      have hsz : (Tr.node l1 r1 s1 v1).size = 1 + (l1.size + r1.size) := rfl
      have hcall0 := fun rL => ihl rL (X ++ [⟨0, 0, s, v⟩]) (by intro h; cases h) (by simp only [List.length_append, List.length_singleton]; omega)
      have e1 : (X ++ [(⟨0, 0, s, v⟩ : Nd)]).length = X.length + 1 := by simp
      have e2 : ∀ W : List Nd, X ++ [(⟨0, 0, s, v⟩ : Nd)] ++ W = X ++ ⟨0, 0, s, v⟩ :: W := fun W => by simp
      obtain ⟨W, hW⟩ : ∃ W, W = lay (.node l1 r1 s1 v1) (X.length + 1) := ⟨_, rfl⟩
      simp only [LayS, e1, e2, ← hW, dTr] at hcall0
      have hcall : ∀ rL, MSpec Try.prog 44 [.rptr [dTr l1, dTr r1, .v (.bool s1), .v (.int .i64 v1)], .ptr 0 nL 1 0 0] [some (lC nL rL (X ++ [(⟨0, 0, s, v⟩ : Nd)]).length), none, none, some ⟨rL, 4, ndX (X ++ [⟨0, 0, s, v⟩])⟩] 1 (fun m d H => d = .v (.int .i64 ((X.length + 1 : Nat) : Int)) ∧ H = hLay nL m (X ++ ⟨0, 0, s, v⟩ :: W)) := fun rL => by
        rw [e1]
        have h := hcall0 rL
        simp only [hLay, e1] at h
        exact h
      simp only [dTr]
      repeat' (first
        | (with_reducible refine auS ?_)
        | (first | (simp only [w0, w1, Int.toNat_natCast, Nat.zero_mul, Nat.one_mul]) | ((with_reducible refine atCall 44 ?_); (refine runR_callG [0, 8, 9, 3] [] [0, 8, 9, 3] rfl (by decide) rfl rfl (hcall _) ?_)))
        | (with_reducible refine auD ?_)
        | ((with_reducible refine auB ?_ ?_); all_goals first | (intro h; first | exact auH | simp only [h, runR_t, runR_f] | skip) | skip)
        | (first | ((with_reducible refine atN ?_); (refine runR_n (by simp only [ndX_len, List.length_append, List.length_cons]; omega) ?_)) | fail))
      (all_goals first | exact auP | skip)
      refine nx_loop ⟨⟨1, 1, ((X.length + 1 : Nat) : Int), 0, W, g, g + 1⟩, ⟨(show (1 : Nat) ≤ 2 by decide), fun h => absurd (show (1 : Nat) = 0 from h) (by decide), fun _ => ⟨rfl, (by rw [if_neg (by omega)]), rfl, hW⟩, fun h => absurd (show (1 : Nat) = 2 from h) (by decide), hg, Nat.le_succ_of_le hg⟩, (show (2 - 1 : Nat) < 2 - 0 by decide), ?_⟩
      refine le_mk ?_ ?_ (Nat.le_refl _)
      all_goals first | with_reducible refine auE ?_ | exact auE0
      all_goals (repeat' (first | exact trivial | exact rfl | apply And.intro))
      all_goals first
        | exact congrArg some (congrArg (AObj.mk _ 4) (set_0 X W 0 0 s v _))
        | (simp; done)
        | skip
  · obtain ⟨rfl, rfl, rfl, rfl⟩ := h1 rfl
    clear h0 h1 h2
    with_reducible refine auL ?_
    have hll := lay_len l (X.length + 1)
    generalize hAl : (if l.size = 0 then (0 : Int) else ((X.length + 1 : Nat) : Int)) = AL at *
    generalize hZl : lay l (X.length + 1) = ZL at *
    cases r with
    | nil =>
      have hcall := w0
      simp only [dTr]
      repeat' (first
        | (with_reducible refine auS ?_)
        | (first | (simp only [w0, w1, Int.toNat_natCast, Nat.zero_mul, Nat.one_mul]) | ((with_reducible refine atCall 44 ?_); (refine runR_callG [0, 8, 9, 3] [] [0, 8, 9, 3] rfl (by decide) rfl rfl (hcall _) ?_)))
        | (with_reducible refine auD ?_)
        | ((with_reducible refine auB ?_ ?_); all_goals first | (intro h; first | exact auH | simp only [h, runR_t, runR_f] | skip) | skip)
        | (first | ((with_reducible refine atN ?_); (refine runR_n (by simp only [ndX_len, List.length_append, List.length_cons]; omega) ?_)) | fail))
      (all_goals first | exact auP | skip)
      refine nx_loop ⟨⟨2, 2, AL, 0, ZL, nm, g⟩, ⟨(show (2 : Nat) ≤ 2 by decide), fun h => absurd (show (2 : Nat) = 0 from h) (by decide), fun h => absurd (show (2 : Nat) = 1 from h) (by decide), fun _ => ⟨rfl, rfl, rfl, (List.append_nil _).symm⟩, hnm, hg⟩, (show (2 - 2 : Nat) < 2 - 1 by decide), ?_⟩
      refine le_mk ?_ ?_ (Nat.le_refl _)
      all_goals first | with_reducible refine auE ?_ | exact auE0
      all_goals (repeat' (first | exact trivial | exact rfl | apply And.intro))
    | node l1 r1 s1 v1 =>
      have hsz : (Tr.node l1 r1 s1 v1).size = 1 + (l1.size + r1.size) := rfl
      have e1 : (X ++ (⟨AL, 0, s, v⟩ : Nd) :: ZL).length = X.length + 1 + l.size := by simp [hll]; omega
      have hcall0 := fun rL => ihr rL (X ++ ⟨AL, 0, s, v⟩ :: ZL) (by intro h; cases h) (by rw [e1]; omega)
      have e2 : ∀ W : List Nd, X ++ (⟨AL, 0, s, v⟩ : Nd) :: ZL ++ W = X ++ ⟨AL, 0, s, v⟩ :: (ZL ++ W) := fun W => by simp
      obtain ⟨W, hW⟩ : ∃ W, W = lay (.node l1 r1 s1 v1) (X.length + 1 + l.size) := ⟨_, rfl⟩
      simp only [LayS, e1, e2, ← hW, dTr] at hcall0
      have hcall : ∀ rL, MSpec Try.prog 44 [.rptr [dTr l1, dTr r1, .v (.bool s1), .v (.int .i64 v1)], .ptr 0 nL 1 0 0] [some (lC nL rL (X ++ (⟨AL, 0, s, v⟩ : Nd) :: ZL).length), none, none, some ⟨rL, 4, ndX (X ++ ⟨AL, 0, s, v⟩ :: ZL)⟩] 1 (fun m d H => d = .v (.int .i64 ((X.length + 1 + l.size : Nat) : Int)) ∧ H = hLay nL m (X ++ ⟨AL, 0, s, v⟩ :: (ZL ++ W))) := fun rL => by
        rw [e1]
        have h := hcall0 rL
        simp only [hLay, e1] at h
        exact h
      simp only [dTr]
      repeat' (first
        | (with_reducible refine auS ?_)
        | (first | (simp only [w0, w1, Int.toNat_natCast, Nat.zero_mul, Nat.one_mul]) | ((with_reducible refine atCall 44 ?_); (refine runR_callG [0, 8, 9, 3] [] [0, 8, 9, 3] rfl (by decide) rfl rfl (hcall _) ?_)))
        | (with_reducible refine auD ?_)
        | ((with_reducible refine auB ?_ ?_); all_goals first | (intro h; first | exact auH | simp only [h, runR_t, runR_f] | skip) | skip)
        | (first | ((with_reducible refine atN ?_); (refine runR_n (by simp only [ndX_len, List.length_append, List.length_cons]; omega) ?_)) | fail))
      (all_goals first | exact auP | skip)
      refine nx_loop ⟨⟨2, 2, AL, ((X.length + 1 + l.size : Nat) : Int), ZL ++ W, g, g + 1⟩, ⟨(show (2 : Nat) ≤ 2 by decide), fun h => absurd (show (2 : Nat) = 0 from h) (by decide), fun h => absurd (show (2 : Nat) = 1 from h) (by decide), fun _ => ⟨rfl, rfl, (by rw [if_neg (by omega)]), (by rw [hW])⟩, hg, Nat.le_succ_of_le hg⟩, (show (2 - 2 : Nat) < 2 - 1 by decide), ?_⟩
      refine le_mk ?_ ?_ (Nat.le_refl _)
      all_goals first | with_reducible refine auE ?_ | exact auE0
      all_goals (repeat' (first | exact trivial | exact rfl | apply And.intro))
      all_goals first
        | exact congrArg some (congrArg (AObj.mk _ 4) (set_1 X (ZL ++ W) AL 0 s v _))
        | (simp; done)
        | skip
  · obtain ⟨rfl, rfl, rfl, rfl⟩ := h2 rfl
    clear h0 h1 h2
    with_reducible refine auL ?_
    have hcall := w0
    have hfin : X ++ lay (.node l r s v) X.length = X ++ ⟨if l.size = 0 then 0 else ((X.length + 1 : Nat) : Int), if r.size = 0 then 0 else ((X.length + 1 + l.size : Nat) : Int), s, v⟩ :: (lay l (X.length + 1) ++ lay r (X.length + 1 + l.size)) := rfl
    rw [hfin]
    generalize X ++ (⟨if l.size = 0 then 0 else ((X.length + 1 : Nat) : Int), if r.size = 0 then 0 else ((X.length + 1 + l.size : Nat) : Int), s, v⟩ : Nd) :: (lay l (X.length + 1) ++ lay r (X.length + 1 + l.size)) = Y at *
    repeat' (first
      | (with_reducible refine auS ?_)
      | (first | (simp only [w0, w1, Int.toNat_natCast, Nat.zero_mul, Nat.one_mul]) | ((with_reducible refine atCall 44 ?_); (refine runR_callG [0, 8, 9, 3] [] [0, 8, 9, 3] rfl (by decide) rfl rfl (hcall _) ?_)))
      | (with_reducible refine auD ?_)
      | ((with_reducible refine auB ?_ ?_); all_goals first | (intro h; first | exact auH | simp only [h, runR_t, runR_f] | skip) | skip)
      | (first | ((with_reducible refine atN ?_); (refine runR_n (by simp only [ndX_len, List.length_append, List.length_cons]; omega) ?_)) | fail))
    (all_goals first | exact auP | skip)
    refine ret_m [0, 8, 9, 3] [nm] trivial (by decide) rfl (fun a ha => ?_) (fun m => ⟨rfl, trivial⟩) (fun m => ?_)
    · simp at ha
      subst ha
      exact ⟨3, _, rfl, rfl⟩
    · exact ⟨⟨.inr ⟨hnL, rfl⟩, rfl, ⟨⟨⟨3, m, .inl ⟨0, rfl, rfl⟩, rfl⟩, rfl⟩, rfl⟩⟩, ⟨.inl ⟨0, rfl, rfl⟩, rfl, renMLL_nf _ (ndX_nf _ _)⟩, rfl⟩
theorem lay_spec : ∀ (T : Tr) (nL rL : Nat) (X : List Nd), T ≠ .nil → X.length + T.size ≤ 20000 → LayS T nL rL X
  | .nil, nL, rL, X, h, _ => absurd rfl h
  | .node l r s v, nL, rL, X, _, hX => lay_node l r s v nL rL X hX (fun rL X => lay_spec l nL rL X) (fun rL X => lay_spec r nL rL X)
end Go.Proofs.Ytlfbjdafnappdaa
