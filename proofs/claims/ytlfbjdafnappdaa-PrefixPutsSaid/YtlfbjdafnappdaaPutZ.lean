/-
  Tries in the program: reading a trie into a tree of the call's own.
-/
import Derived.Test.YtlfbjdafnappdaaPutY
namespace Go.Proofs.Ytlfbjdafnappdaa
set_option linter.unusedVariables false
set_option linter.unusedSimpArgs false
abbrev dTrie (L : List Nd) (c : Bool) : DV := .agg [.snap 4 (L.map Nd.enc) c]
theorem mspec_of_h {P : Program} {f : FuncId} {ds : List DV} {H0 H1 : HL} {D : DV} (h : HSpec P f ds H0 (fun d H => d = D ∧ H = H1)) : MSpec P f ds H0 0 (fun m d H => d = D ∧ H = H1) :=
  ⟨h.1, fun K w vs g0 hI hlt ha => (h.2 K w vs g0 hI hlt ha).mono fun e w' ⟨v, d, H, q1, q2, q3, q4⟩ => ⟨v, q1, fun n _ => ⟨K.cut w, d, H, q2, fun m => ⟨.inl, fun q => q.elim id (fun q => by omega)⟩, fun m q => .inl q, ⟨q3.ext, ⟨fun m q => .inl q, fun m q _ => q, fun m q => ⟨q, rfl⟩, fun g _ => Iff.rfl⟩, q3.obj, q3.inj, q3.dr, q3.lt, q3.dobj, q3.own, q3.gl⟩, q4⟩⟩⟩
theorem read_0 (c : Bool) : Spec Try.prog 19 [dTrie [] c] (.tup [.v (.pointer none), .v (.int .i64 0)]) := by
  refine hspec_fn Try.func19 rfl ok_prefix_read okr_prefix_read rfl (by kernel_rfl) ?_
  intro Γ hW0 hN0 hL0
  have hW := hW0 rfl
  clear hW0 hN0 hL0
  unfold x_prefix_read r_prefix_read
  with_reducible refine auC ?_
  repeat' (first
    | (with_reducible refine auS ?_)
    | (simp only [List.map_nil, List.length_nil, Int.natCast_zero, decide_true])
    | (with_reducible refine auD ?_)
    | ((with_reducible refine auB ?_ ?_); all_goals first | (intro h; first | exact auH | simp only [h, runR_t, runR_f] | skip) | skip)
    | fail)
  (all_goals first | exact auP | skip)
  all_goals first
    | (exfalso; simp at h; done)
    | skip
  all_goals with_reducible refine auF ?_
  all_goals (try first | with_reducible refine auR ?_ | exact auR0)
  all_goals (try simp only [hsM] at *)
theorem read_l (L : List Nd) (c : Bool) (h5 : 500 < L.length) : Spec Try.prog 19 [dTrie L c] (.tup [.v (.pointer none), .v (.int .i64 2)]) := by
  have hlen : (L.map Nd.enc).length = L.length := List.length_map _
  refine hspec_fn Try.func19 rfl ok_prefix_read okr_prefix_read rfl (by kernel_rfl) ?_
  intro Γ hW0 hN0 hL0
  have hW := hW0 rfl
  clear hW0 hN0 hL0
  unfold x_prefix_read r_prefix_read
  with_reducible refine auC ?_
  repeat' (first
    | (with_reducible refine auS ?_)
    | (simp only [hlen])
    | (with_reducible refine auD ?_)
    | ((with_reducible refine auB ?_ ?_); all_goals first | (intro h; first | exact auH | simp only [h, runR_t, runR_f] | skip) | skip)
    | fail)
  (all_goals first | exact auP | skip)
  all_goals first
    | (exfalso; simp at h; omega)
    | skip
  all_goals with_reducible refine auF ?_
  all_goals (try first | with_reducible refine auR ?_ | exact auR0)
  all_goals (try simp only [hsM] at *)
theorem lget_app : ∀ (A B : HL) (k : Nat), lget (A ++ B) (A.length + k) = lget B k
  | [], B, k => by rw [List.nil_append, List.length_nil, Nat.zero_add]
  | a :: A, B, k => by
    rw [List.length_cons, show A.length + 1 + k = (A.length + k) + 1 by omega]
    exact lget_app A B k
theorem upd_same : ∀ (S A : HL), updL (A ++ S) (zipO (List.range' A.length S.length) S) = A ++ S
  | [], A => rfl
  | s :: S, A => by
    rw [List.length_cons, List.range'_succ]
    have e : lset (A ++ s :: S) A.length s = A ++ s :: S := by
      induction A with
      | nil => rfl
      | cons a A ih => exact congrArg (a :: ·) ih
    show updL (lset (A ++ s :: S) A.length s) (zipO (List.range' (A.length + 1) S.length) S) = _
    rw [e]
    have h := upd_same S (A ++ [s])
    rw [List.append_assoc, List.length_append] at h
    exact h
/-- A tree is lent, and comes back as it was. -/
theorem runR_see {P : Program} {F : List XOp → St → List Rec → Prop} {r : List XOp} {tm : Env} {g : Nat} {dst : Option Sl} {tr : List Rec} {f : FuncId} {ds : List DV} {N : Nat} {D : DV} {a b c : Option AObj} {S : HL} (hN : S.length = N)
    (h1 : MSpec P f ds S 0 (fun n d H => d = D ∧ H = S)) (h2 : F r ⟨putE tm dst D, a :: b :: c :: S, g⟩ (⟨List.range' 3 N, List.range' 3 N⟩ :: tr)) : runR P F r ⟨tm, a :: b :: c :: S, g⟩ dst tr (.call f ds) := by
  have hl := lgets_from S [a, b, c]
  have hu := upd_same S [a, b, c]
  rw [hN] at hl hu
  refine runR_callG (D := fun _ => D) (H1 := fun _ => S) (List.range' 3 N) [] (List.range' 3 N) (List.append_nil _) List.nodup_range' (by simp [hN]) hl h1 ?_
  have e : updL (a :: b :: c :: S) (zipO (List.range' 3 N) S) = a :: b :: c :: S := hu
  show F r ⟨putE tm dst D, updL (a :: b :: c :: S) (zipO (List.range' 3 N) S), g + 0⟩ _
  rw [e]
  exact h2
set_option maxHeartbeats 1000000 in
theorem bareO (l r : Tr) (s : Bool) (v : Int) (m : Nat) : MSpec Try.prog 39 [.ptr 0 m 4 0 0] (spH (.node l r s v) m) 0 (fun n d H => d = .v (.bool (bareT (.node l r s v))) ∧ H = spH (.node l r s v) m) := by
  have hT : ∀ Γ : Gm, (∀ (k : Nat) (o : AObj), lget (spH (.node l r s v) m) k = some o → o.n < Γ.g0) → ∀ n, renH Γ.g0 [] n (lgets (spH (.node l r s v) m) (List.range' 0 (Tr.node l r s v).size)) (spH (.node l r s v) m) := fun Γ h n => by
    have hle := lgets_from (spH (.node l r s v) m) []
    rw [spH_len] at hle
    rw [List.nil_append] at hle
    have hle : lgets (spH (.node l r s v) m) (List.range' 0 (Tr.node l r s v).size) = spH (.node l r s v) m := hle
    rw [hle]
    refine (ren_old (.node l r s v) Γ.g0 [] n m (fun k hk => ?_)).2
    obtain ⟨o, o1, o2⟩ := sp_get (.node l r s v) m k hk
    rw [← o2]
    exact h k o o1
  have hlen : (spH (.node l r s v) m).length = (Tr.node l r s v).size := spH_len _ _
  have hsz : (Tr.node l r s v).size = 1 + (l.size + r.size) := rfl
  unfold bareT
  cases s <;> cases l <;> cases r
  all_goals
    refine mspec_fn Try.func39 rfl ok_prefix_bare okr_prefix_bare rfl (by kernel_rfl) ?_
    intro Γ hW0 hN0 hL0
    clear hW0
    have hT := hT Γ hN0
    generalize (spH (.node _ _ _ _) m).length = N at *
    simp only [spH, spC, spD, Tr.size]
    unfold x_prefix_bare r_prefix_bare
    with_reducible refine auC ?_
    repeat' (first
      | (with_reducible refine auS ?_)
      | fail
      | (with_reducible refine auD ?_)
      | ((with_reducible refine auB ?_ ?_); all_goals first | (intro h; first | exact auH | simp only [h, runR_t, runR_f] | skip) | skip)
      | fail)
    (all_goals first | exact auP | skip)
    refine ret_m (List.range' 0 (Tr.node _ _ _ _).size) [] trivial List.nodup_range' rfl (fun a ha => by simp at ha) (fun m => ⟨?_, trivial⟩) (fun m => hT m)
    first
      | rfl
      | (simp; done)
      | (simp; rfl)
theorem le_hs {tm : Env} {H H' : HL} {g g' : Nat} (h : leHS H H') (hg : g ≤ g') : Le ⟨tm, H, g⟩ ⟨tm, H', g'⟩ := fun Γ N K a w hR =>
  ⟨K, inv_less hR.inv h, fun n hn => Nat.lt_of_lt_of_le (hR.fresh n hn) hg, Nat.le_trans hR.g0 hg, hR.size, hR.defers, hR.tm⟩
theorem go_pad2 {Γ : Gm} {P : Program} {N : Nat} {R : St → Prop} {x : XC} {k : List KI} {tm : Env} {a o : Option AObj} {g : Nat} (h : Go Γ P N R x k ⟨tm, [a, o, none], g⟩) : Go Γ P N R x k ⟨tm, [a, o], g⟩ :=
  go_le (le_hs (fun q p hp => by
    match q, hp with
    | 0, hp => exact hp
    | 1, hp => exact hp
    | 2, hp => cases hp
    | q + 3, hp => simp [lget] at hp) (Nat.le_refl _)) h
/-- A call that is lent the second object and makes many. -/
theorem runR_new1 {P : Program} {F : List XOp → St → List Rec → Prop} {r : List XOp} {tm : Env} {g : Nat} {dst : Option Sl} {tr : List Rec} {f : FuncId} {ds : List DV} {N : Nat} {D : Nat → DV} {a o o' : Option AObj} {T : Nat → HL} {H' : HL}
    (h1 : MSpec P f ds [o] N (fun n d H => d = D n ∧ H = o' :: T n)) (hl : (T g).length = N) (h2 : F r ⟨putE tm dst (D g), a :: o' :: (H' ++ T g), g + N⟩ (⟨1 :: List.range' (H'.length + 2) N, 1 :: List.range' (H'.length + 2) N⟩ :: tr)) : runR P F r ⟨tm, a :: o :: H', g⟩ dst tr (.call f ds) := by
  refine runR_callG [1] (List.range' (H'.length + 2) N) (1 :: List.range' (H'.length + 2) N) rfl ?_ (by simp [hl]) rfl h1 ?_
  · refine List.nodup_cons.2 ⟨fun h => ?_, List.nodup_range'⟩
    have := (List.mem_range'_1.1 h).1
    omega
  · have e : updL (a :: o :: H') (zipO (1 :: List.range' (H'.length + 2) N) (o' :: T g)) = a :: o' :: (H' ++ T g) := by
      have h := upd_end (T g) (a :: o' :: H')
      rw [hl] at h
      exact h
    show F r ⟨putE tm dst (D g), updL (a :: o :: H') (zipO (1 :: List.range' (H'.length + 2) N) (o' :: T g)), g + N⟩ _
    rw [e]
    exact h2
abbrev ReadO (L : List Nd) (c : Bool) : Prop := MSpec Try.prog 19 [dTrie L c] [] (readG L).1.size (fun m d H => d = .tup [spD (readG L).1 m, .v (.int .i64 (readG L).2)] ∧ H = spH (readG L).1 m)
set_option maxHeartbeats 4000000 in
theorem readO (L : List Nd) (c : Bool) : ReadO L c := by
  unfold ReadO
  by_cases h0 : L = []
  · subst h0
    exact mspec_of_h (read_0 c)
  by_cases h5 : 500 < L.length
  · have e : readG L = (.nil, 2) := by unfold readG; rw [if_neg (by omega), if_pos h5]
    rw [e]
    exact mspec_of_h (read_l L c h5)
  have hlen : (L.map Nd.enc).length = L.length := List.length_map _
  have hpos : 0 < L.length := List.length_pos_iff.2 h0
  have hz : ¬ ((L.length : Nat) : Int) = 0 := by omega
  have hgr := fun n => growA L c (by omega) n 32 0 (Nat.le_refl _) hpos
  unfold readG
  rw [if_neg (by omega), if_neg h5]
  cases hG : growG L 33 0 with
  | mk o j =>
    simp only [GrowO, hG] at hgr
    cases o with
    | none =>
      show MSpec Try.prog _ _ _ 0 (fun m d H => d = .tup [.v (.pointer none), .v (.int .i64 4)] ∧ H = [])
      have hgr : ∀ n, MSpec Try.prog 38 [.snap 4 (L.map Nd.enc) c, .ptr 1 n 1 0 0, .v (.int .i64 0)] [ctr n 0] 0 (fun m d H => d = .v (.pointer none) ∧ H = ctr n j :: []) := fun n => mspec_args (hgr n) (fun K w vs hv => argsRel_mem hv rfl (fun q d e hd he v hr => by
        match q, hd, he with
        | 0, hd, he => obtain rfl := Option.some.inj hd; obtain rfl := Option.some.inj he; exact hr
        | 1, hd, he => obtain rfl := Option.some.inj hd; obtain rfl := Option.some.inj he; exact ptr_label hr
        | 2, hd, he => obtain rfl := Option.some.inj hd; obtain rfl := Option.some.inj he; exact hr
        | q + 3, hd, he => simp at hd))
      refine mspec_fn Try.func19 rfl ok_prefix_read okr_prefix_read rfl (by kernel_rfl) ?_
      intro Γ hW0 hN0 hL0
      have hW := hW0 rfl
      clear hW0 hN0 hL0
      unfold x_prefix_read r_prefix_read
      with_reducible refine auC ?_
      repeat' (first
        | ((with_reducible refine atGo ?_); (refine go_pad2 ?_))
        | (with_reducible refine auS ?_)
        | (first | (simp only [hlen, List.cons_append, List.nil_append]) | ((with_reducible refine atCall 38 ?_); (refine runR_new1 (hgr _) rfl ?_)))
        | (with_reducible refine auD ?_)
        | ((with_reducible refine auB ?_ ?_); all_goals first | (intro h; first | exact auH | simp only [h, runR_t, runR_f] | skip) | skip)
        | fail)
      (all_goals first | exact auP | skip)
      all_goals first
        | (exfalso; simp at h; omega)
        | skip
      all_goals refine ret_m [] [] trivial (by decide) rfl (fun a ha => by simp at ha) (fun m => ?_) (fun m => rfl)
      all_goals exact ⟨⟨rfl, trivial⟩, ⟨rfl, trivial⟩, rfl⟩
    | some T =>
      obtain ⟨g1, -, g3, g4, -⟩ := grow_inv L 33 0 j T hG hpos
      cases T with
      | nil => exact absurd g1 (Nat.lt_irrefl _)
      | node tl tr ts tv =>
        have hgr : ∀ n, MSpec Try.prog 38 [.snap 4 (L.map Nd.enc) c, .ptr 1 n 1 0 0, .v (.int .i64 0)] [ctr n 0] (Tr.node tl tr ts tv).size (fun m d H => d = .ptr 0 m 4 0 0 ∧ H = ctr n j :: (some ⟨m, 4, [spC tl tr ts tv m]⟩ :: (spH tl (m + 1) ++ spH tr (m + 1 + tl.size)))) := fun n => mspec_args (hgr n) (fun K w vs hv => argsRel_mem hv rfl (fun q d e hd he v hr => by
          match q, hd, he with
          | 0, hd, he => obtain rfl := Option.some.inj hd; obtain rfl := Option.some.inj he; exact hr
          | 1, hd, he => obtain rfl := Option.some.inj hd; obtain rfl := Option.some.inj he; exact ptr_label hr
          | 2, hd, he => obtain rfl := Option.some.inj hd; obtain rfl := Option.some.inj he; exact hr
          | q + 3, hd, he => simp at hd))
        have hb : ∀ m, MSpec Try.prog 39 [.ptr 0 m 4 0 0] (some ⟨m, 4, [spC tl tr ts tv m]⟩ :: (spH tl (m + 1) ++ spH tr (m + 1 + tl.size))) 0 (fun n d H => d = .v (.bool (bareT (.node tl tr ts tv))) ∧ H = some ⟨m, 4, [spC tl tr ts tv m]⟩ :: (spH tl (m + 1) ++ spH tr (m + 1 + tl.size))) := fun m => bareO tl tr ts tv m
        have hsl : ∀ m, (some (⟨m, 4, [spC tl tr ts tv m]⟩ : AObj) :: (spH tl (m + 1) ++ spH tr (m + 1 + tl.size))).length = (Tr.node tl tr ts tv).size := fun m => spH_len (.node tl tr ts tv) m
        have hw : IntKind.i64.wrap ((L.length : Int) - 1) = ((L.length - 1 : Nat) : Int) := (IntWalk.i64_in _ (by omega)).trans (by omega)
        dsimp only
        generalize bareT (.node tl tr ts tv) = B at *
        by_cases hc : j = L.length - 1 ∧ B = false
        · obtain ⟨hj, rfl⟩ := hc
          have hjj : ((j : Nat) : Int) = ((L.length - 1 : Nat) : Int) := by omega
          have hif : (if j = L.length - 1 ∧ false = false ∧ L.all ndOk = true then (Tr.node tl tr ts tv, (0 : Int)) else (Tr.nil, 4)) = if L.all ndOk = true then (Tr.node tl tr ts tv, 0) else (Tr.nil, 4) := by simp [hj]
          rw [hif]
          refine mspec_fn Try.func19 rfl ok_prefix_read okr_prefix_read rfl (by kernel_rfl) ?_
          intro Γ hW0 hN0 hL0
          have hW := hW0 rfl
          clear hW0 hN0 hL0
          unfold x_prefix_read r_prefix_read
          with_reducible refine auC ?_
          repeat' (first
            | ((with_reducible refine atGo ?_); (refine go_pad2 ?_))
            | (with_reducible refine auS ?_)
            | (first | (simp only [hlen, hw, List.cons_append, List.nil_append]) | ((with_reducible refine atCall 38 ?_); (refine runR_new1 (hgr _) (hsl _) ?_)) | ((with_reducible refine atCall 39 ?_); (refine runR_see (hsl _) (hb _) ?_)))
            | (with_reducible refine auD ?_)
            | ((with_reducible refine auB ?_ ?_); all_goals first | (intro h; first | exact auH | simp only [h, runR_t, runR_f] | skip) | skip)
            | fail)
          (all_goals first | exact auP | skip)
          all_goals first
            | (exfalso; simp [hjj] at h; done)
            | skip
          refine go_loopH (α := Nat × Nat) (fun p => [(⟨.d0, .d4, .d4⟩, .v (.int .i64 (p.1 : Nat)))]) (fun _ => [(2, none)]) (fun p => p.2) (fun p => L.length - p.1) (fun p => p.1 ≤ L.length ∧ ∀ (i : Nat) (x : Nd), i < p.1 → L[i]? = some x → ndOk x = true) (0, Γ.g0 + 2 + (Tr.node tl tr ts tv).size) ⟨Nat.zero_le _, fun i x h => absurd h (Nat.not_lt_zero _)⟩ ?_ ?_
          · refine le_mk2 ?_ (hs_refl _) (Nat.le_refl _)
            first | with_reducible refine auE ?_ | exact auE0
            all_goals (repeat' (first | exact trivial | exact rfl | apply And.intro))
          rintro ⟨k, gn⟩ ⟨hk, hall⟩
          dsimp only at hk hall ⊢
          with_reducible refine auL ?_
          by_cases hlt : k < L.length
          · obtain ⟨x, hx⟩ : ∃ x, L[k]? = some x := ⟨_, List.getElem?_eq_getElem hlt⟩
            have ex := xget_map Nd.enc L k x hx
            cases hok : ndOk x with
            | true =>
              obtain ⟨xa, xb, xs, xv⟩ := x
              have hst : ∀ i y, i < k + 1 → L[i]? = some y → ndOk y = true := fun i y hi hy => by
                rcases Nat.lt_succ_iff_lt_or_eq.1 hi with h | rfl
                · exact hall i y h hy
                · rw [hx] at hy; obtain rfl := Option.some.inj hy; exact hok
              have hok' : xs = false → xv = 0 ∧ ¬ (xa = 0 ∧ xb = 0) := fun e => by subst e; have hq : xv = 0 ∧ (¬xa = 0 ∨ ¬xb = 0) := (by simpa [ndOk] using hok); omega
              cases xs
              · have hok := hok' rfl
                repeat' (first
                  | (with_reducible refine auS ?_)
                  | (simp only [Int.toNat_natCast, ex])
                  | (with_reducible refine auD ?_)
                  | ((with_reducible refine auB ?_ ?_); all_goals first | (intro h; first | exact auH | simp only [h, runR_t, runR_f] | skip) | skip)
                  | fail)
                (all_goals first | exact auP | skip)
                all_goals first
                  | (refine nx_loop ⟨(k + 1, gn + 1), ⟨Nat.succ_le_of_lt hlt, hst⟩, Nat.sub_lt_sub_left hlt (Nat.lt_succ_self k), ?_⟩
                     refine le_mk2 ?_ (hs_cons (.inl rfl) (hs_cons (.inl rfl) (hs_cons (.inr rfl) (hs_refl _)))) (Nat.le_refl _)
                     first | with_reducible refine auE ?_ | exact auE0
                     all_goals (repeat' (first | exact trivial | exact rfl | apply And.intro))
                     all_goals exact dint ((IntWalk.i64_in _ (by omega)).trans (by omega)))
                  | skip
              · skip
                repeat' (first
                  | (with_reducible refine auS ?_)
                  | (simp only [Int.toNat_natCast, ex])
                  | (with_reducible refine auD ?_)
                  | ((with_reducible refine auB ?_ ?_); all_goals first | (intro h; first | exact auH | simp only [h, runR_t, runR_f] | skip) | skip)
                  | fail)
                (all_goals first | exact auP | skip)
                all_goals first
                  | (refine nx_loop ⟨(k + 1, gn + 1), ⟨Nat.succ_le_of_lt hlt, hst⟩, Nat.sub_lt_sub_left hlt (Nat.lt_succ_self k), ?_⟩
                     refine le_mk2 ?_ (hs_cons (.inl rfl) (hs_cons (.inl rfl) (hs_cons (.inr rfl) (hs_refl _)))) (Nat.le_refl _)
                     first | with_reducible refine auE ?_ | exact auE0
                     all_goals (repeat' (first | exact trivial | exact rfl | apply And.intro))
                     all_goals exact dint ((IntWalk.i64_in _ (by omega)).trans (by omega)))
                  | skip
            | false =>
              have hA : ¬ L.all ndOk = true := fun h => by
                have := List.all_eq_true.1 h x (List.mem_of_getElem? hx)
                rw [hok] at this
                cases this
              rw [if_neg hA]
              show Go _ _ _ (RetQM _ _ 0 0 (fun m d H => d = .tup [.v (.pointer none), .v (.int .i64 4)] ∧ H = [])) _ _ _
              obtain ⟨xa, xb, xs, xv⟩ := x
              cases xs
              · have hok : ¬ (xv = 0 ∧ ¬ (xa = 0 ∧ xb = 0)) := fun e => by simp [ndOk, e.1] at hok; exact e.2 hok
                repeat' (first
                  | (with_reducible refine auS ?_)
                  | (simp only [Int.toNat_natCast, ex])
                  | (with_reducible refine auD ?_)
                  | ((with_reducible refine auB ?_ ?_); all_goals first | (intro h; first | exact auH | simp only [h, runR_t, runR_f] | skip) | skip)
                  | fail)
                (all_goals first | exact auP | skip)
                all_goals refine ret_m [] [] trivial (by decide) rfl (fun a ha => by simp at ha) (fun m => ?_) (fun m => rfl)
                all_goals exact ⟨⟨rfl, trivial⟩, ⟨rfl, trivial⟩, rfl⟩
              · simp [ndOk] at hok
          · obtain rfl : k = L.length := by omega
            have hA : L.all ndOk = true := List.all_eq_true.2 (fun x hx => by
              obtain ⟨i, hi, rfl⟩ := List.getElem_of_mem hx
              exact hall i _ hi (List.getElem?_eq_getElem hi))
            rw [if_pos hA]
            show Go _ _ _ (RetQM _ _ 0 (Tr.node tl tr ts tv).size (fun m d H => d = .tup [.ptr 0 m 4 0 0, .v (.int .i64 0)] ∧ H = spH (.node tl tr ts tv) m)) _ _ _
            repeat' (first
              | (with_reducible refine auS ?_)
              | fail
              | (with_reducible refine auD ?_)
              | ((with_reducible refine auB ?_ ?_); all_goals first | (intro h; first | exact auH | simp only [h, runR_t, runR_f] | skip) | skip)
              | fail)
            (all_goals first | exact auP | skip)
            all_goals first
              | (exfalso; simp at h; done)
              | skip
            have hle := lgets_from (spH (.node tl tr ts tv) (Γ.g0 + 2)) [some ⟨Γ.g0, 1, [[.snap 4 (L.map Nd.enc) c]]⟩, ctr (Γ.g0 + 1) j, none]
            rw [spH_len] at hle
            refine ret_m (List.range' 3 (Tr.node tl tr ts tv).size) (List.range' (Γ.g0 + 2) (Tr.node tl tr ts tv).size) trivial List.nodup_range' List.length_range' (fun a ha => ?_) (fun m => ?_) (fun m => ?_)
            · obtain ⟨q1, q2⟩ := List.mem_range'_1.1 ha
              obtain ⟨o, o1, o2⟩ := sp_get (.node tl tr ts tv) (Γ.g0 + 2) (a - (Γ.g0 + 2)) (by omega)
              exact ⟨a - (Γ.g0 + 2) + 3, o, o1, by omega⟩
            · exact ⟨⟨0, m, .inl ⟨0, by simp only [Tr.size]; rw [Nat.add_comm 1, List.range'_succ]; rfl, rfl⟩, rfl⟩, ⟨rfl, trivial⟩, rfl⟩
            · have h := (ren_sp (.node tl tr ts tv) Γ.g0 (List.range' (Γ.g0 + 2) (Tr.node tl tr ts tv).size) m (Γ.g0 + 2) 0 (fun k hk => by rw [Nat.zero_add, List.getElem?_range' hk]; simp)).2
              rw [Nat.add_zero] at h
              exact (congrArg (fun q => renH Γ.g0 (List.range' (Γ.g0 + 2) (Tr.node tl tr ts tv).size) m q (spH (.node tl tr ts tv) m)) hle).mpr h
        · rw [if_neg (fun h => hc ⟨h.1, h.2.1⟩)]
          show MSpec Try.prog _ _ _ 0 (fun m d H => d = .tup [.v (.pointer none), .v (.int .i64 4)] ∧ H = [])
          by_cases hj : j = L.length - 1
          · have hB : B = true := by
              cases B
              · exact absurd ⟨hj, rfl⟩ hc
              · rfl
            subst hB
            refine mspec_fn Try.func19 rfl ok_prefix_read okr_prefix_read rfl (by kernel_rfl) ?_
            intro Γ hW0 hN0 hL0
            have hW := hW0 rfl
            clear hW0 hN0 hL0
            unfold x_prefix_read r_prefix_read
            with_reducible refine auC ?_
            repeat' (first
              | ((with_reducible refine atGo ?_); (refine go_pad2 ?_))
              | (with_reducible refine auS ?_)
              | (first | (simp only [hlen, hw, List.cons_append, List.nil_append]) | ((with_reducible refine atCall 38 ?_); (refine runR_new1 (hgr _) (hsl _) ?_)) | ((with_reducible refine atCall 39 ?_); (refine runR_see (hsl _) (hb _) ?_)))
              | (with_reducible refine auD ?_)
              | ((with_reducible refine auB ?_ ?_); all_goals first | (intro h; first | exact auH | simp only [h, runR_t, runR_f] | skip) | skip)
              | fail)
            (all_goals first | exact auP | skip)
            all_goals first
              | (exfalso; simp at h; omega)
              | skip
            all_goals refine ret_m [] [] trivial (by decide) rfl (fun a ha => by simp at ha) (fun m => ?_) (fun m => rfl)
            all_goals exact ⟨⟨rfl, trivial⟩, ⟨rfl, trivial⟩, rfl⟩
          · have hj' : ¬ ((j : Nat) : Int) = ((L.length - 1 : Nat) : Int) := by omega
            refine mspec_fn Try.func19 rfl ok_prefix_read okr_prefix_read rfl (by kernel_rfl) ?_
            intro Γ hW0 hN0 hL0
            have hW := hW0 rfl
            clear hW0 hN0 hL0
            unfold x_prefix_read r_prefix_read
            with_reducible refine auC ?_
            repeat' (first
              | ((with_reducible refine atGo ?_); (refine go_pad2 ?_))
              | (with_reducible refine auS ?_)
              | (first | (simp only [hlen, hw, List.cons_append, List.nil_append]) | ((with_reducible refine atCall 38 ?_); (refine runR_new1 (hgr _) (hsl _) ?_)) | ((with_reducible refine atCall 39 ?_); (refine runR_see (hsl _) (hb _) ?_)))
              | (with_reducible refine auD ?_)
              | ((with_reducible refine auB ?_ ?_); all_goals first | (intro h; first | exact auH | simp only [h, runR_t, runR_f] | skip) | skip)
              | fail)
            (all_goals first | exact auP | skip)
            all_goals first
              | (exfalso; simp at h; omega)
              | skip
            all_goals refine ret_m [] [] trivial (by decide) rfl (fun a ha => by simp at ha) (fun m => ?_) (fun m => rfl)
            all_goals exact ⟨⟨rfl, trivial⟩, ⟨rfl, trivial⟩, rfl⟩
end Go.Proofs.Ytlfbjdafnappdaa
