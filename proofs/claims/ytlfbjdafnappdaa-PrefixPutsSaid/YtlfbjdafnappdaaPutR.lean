/-
  Tries in the program: Check, Put and Remove.
-/
import Derived.Test.YtlfbjdafnappdaaPutS
namespace Go.Proofs.Ytlfbjdafnappdaa
set_option linter.unusedVariables false
set_option linter.unusedSimpArgs false
def isNet (a l : Int) : Bool := decide (0 ≤ l ∧ l ≤ 32) && decide (a.toNat % 2 ^ (32 - l.toNat) = 0)
abbrev dNi (a l : Int) : DV := .agg [.v (.int .u32 a), .v (.int .i64 l)]
theorem shl_zero (A L : Nat) (hL : L ≤ 32) : (A * 2 ^ L) % 4294967296 = 0 ↔ A % 2 ^ (32 - L) = 0 := by
  have h : 4294967296 = 2 ^ (32 - L) * 2 ^ L := by rw [← Nat.pow_add, show 32 - L + L = 32 by omega]
  rw [h, Nat.mul_mod_mul_right]
  have := Nat.two_pow_pos L
  constructor
  · intro q
    rcases Nat.mul_eq_zero.1 q with q | q
    · exact q
    · omega
  · intro q; rw [q, Nat.zero_mul]
theorem net_spec (a l : Int) (ha : 0 ≤ a ∧ a < 4294967296) : Spec Try.prog 28 [dNi a l] (.v (.bool (isNet a l))) := by
  obtain ⟨A, rfl⟩ := Int.eq_ofNat_of_zero_le ha.1
  unfold isNet
  by_cases hl : 0 ≤ l ∧ l ≤ 32
  · obtain ⟨L, rfl⟩ := Int.eq_ofNat_of_zero_le hl.1
    have e1 : min L IntKind.u32.bits = L := Nat.min_eq_left (by show L ≤ 32; omega)
    have e2 : IntKind.u32.wrap ((A : Int) * 2 ^ L) = ((A * 2 ^ L % 4294967296 : Nat) : Int) := by rw [IntKind.wrap_u32, pow_int]; simp
    have h3 := shl_zero A L (by omega)
    have h4 : decide (((A * 2 ^ L % 4294967296 : Nat) : Int) = 0) = decide (A % 2 ^ (32 - L) = 0) := decide_eq_decide.2 ⟨fun q => h3.1 (by omega), fun q => by rw [h3.2 q]; rfl⟩
    rw [decide_eq_true hl, Int.toNat_natCast, Int.toNat_natCast, Bool.true_and]
    refine hspec_fn Try.func28 rfl ok_prefix_net okr_prefix_net rfl (by kernel_rfl) ?_
    intro Γ hW0 hN0 hL0
    have hW := hW0 rfl
    clear hW0 hN0 hL0
    unfold x_prefix_net r_prefix_net
    with_reducible refine auC ?_
    repeat' (first
      | (with_reducible refine auS ?_)
      | (simp only [Int.toNat_natCast, e1, e2, h4])
      | (with_reducible refine auD ?_)
      | ((with_reducible refine auB ?_ ?_); all_goals first | (intro h; first | exact auH | simp only [h, runR_t, runR_f] | skip) | skip)
      | fail)
    (all_goals first | exact auP | skip)
    all_goals with_reducible refine auF ?_
    all_goals (try first | with_reducible refine auR ?_ | exact auR0)
    all_goals (try simp only [hsM] at *)
  · rw [decide_eq_false hl, Bool.false_and]
    refine hspec_fn Try.func28 rfl ok_prefix_net okr_prefix_net rfl (by kernel_rfl) ?_
    intro Γ hW0 hN0 hL0
    have hW := hW0 rfl
    clear hW0 hN0 hL0
    unfold x_prefix_net r_prefix_net
    with_reducible refine auC ?_
    repeat' (first
      | (with_reducible refine auS ?_)
      | fail
      | (with_reducible refine auD ?_)
      | ((with_reducible refine auB ?_ ?_); all_goals first | (intro h; first | exact auH | simp only [h, runR_t, runR_f] | skip) | skip)
      | fail)
    (all_goals first | exact auP | skip)
    all_goals with_reducible refine auF ?_
    all_goals (try first | with_reducible refine auR ?_ | exact auR0)
    all_goals (try simp only [hsM] at *)
theorem putT_size : ∀ (T : Tr) (q : B8) (v : Int), (putT T q v).size ≤ T.size + (q.length + 1)
  | .nil, [], v => by simp [putT, Tr.size]
  | .nil, c :: q, v => by
    have := putT_size .nil q v
    unfold putT
    split <;> (simp only [Tr.size, List.length_cons] at this ⊢; omega)
  | .node l r s w, [], v => by simp only [putT, Tr.size, List.length_nil]; omega
  | .node l r s w, c :: q, v => by
    have h1 := putT_size l q v
    have h2 := putT_size r q v
    unfold putT
    split <;> (simp only [Tr.size, List.length_cons]; omega)
theorem mkT_size (l r : Tr) (s : Bool) (w : Int) : (mkT l r s w).size ≤ 1 + (l.size + r.size) := by
  unfold mkT
  split
  · exact Nat.zero_le _
  · exact Nat.le_refl _
theorem remT_size : ∀ (T : Tr) (q : B8), (remT T q).1.size ≤ T.size
  | .nil, q => by cases q <;> exact Nat.le_refl _
  | .node l r s w, [] => mkT_size l r false 0
  | .node l r s w, c :: q => by
    have h1 := remT_size l q
    have h2 := remT_size r q
    unfold remT
    split
    · have := mkT_size (remT l q).1 r s w
      simp only [Tr.size]
      omega
    · have := mkT_size l (remT r q).1 s w
      simp only [Tr.size]
      omega
/-! Calls with the tree behind six places. -/
theorem go_pad6 {Γ : Gm} {P : Program} {N : Nat} {R : St → Prop} {x : XC} {k : List KI} {tm : Env} {a b c : Option AObj} {g : Nat} (h : Go Γ P N R x k ⟨tm, [a, b, c, none, none, none], g⟩) : Go Γ P N R x k ⟨tm, [a, b, c], g⟩ :=
  go_le (le_hs (fun q p hp => by
    match q, hp with
    | 0, hp | 1, hp | 2, hp => exact hp
    | 3, hp | 4, hp | 5, hp => cases hp
    | q + 6, hp => simp [lget] at hp) (Nat.le_refl _)) h
section
variable {P : Program} {F : List XOp → St → List Rec → Prop} {r : List XOp} {tm : Env} {g : Nat} {dst : Option Sl} {tr : List Rec} {f : FuncId} {ds : List DV} {N N' : Nat} {D : Nat → DV} {T : Nat → HL}
theorem runR_read6 {a b c d e i : Option AObj} (h1 : MSpec P f ds [] N (fun n d H => d = D n ∧ H = T n)) (hl : (T g).length = N) (h2 : F r ⟨putE tm dst (D g), a :: b :: c :: d :: e :: i :: T g, g + N⟩ (⟨List.range' 6 N, List.range' 6 N⟩ :: tr)) : runR P F r ⟨tm, [a, b, c, d, e, i], g⟩ dst tr (.call f ds) := by
  refine runR_callG [] (List.range' 6 N) (List.range' 6 N) rfl List.nodup_range' (by simp [hl]) rfl h1 ?_
  have e1 : updL [a, b, c, d, e, i] (zipO (List.range' 6 N) (T g)) = a :: b :: c :: d :: e :: i :: T g := by
    have h := upd_end (T g) [a, b, c, d, e, i]
    rw [hl] at h
    exact h
  show F r ⟨putE tm dst (D g), updL [a, b, c, d, e, i] (zipO (List.range' 6 N) (T g)), g + N⟩ _
  rw [e1]
  exact h2
theorem runR_tree6 {a b c d e : Option AObj} {S : HL} (hS : S.length = N) (h1 : MSpec P f ds (none :: S) N' (fun n d H => d = D n ∧ H = none :: (List.replicate N none ++ T n))) (hl : (T g).length = N')
    (h2 : F r ⟨putE tm dst (D g), a :: b :: c :: none :: d :: e :: (List.replicate N none ++ T g), g + N'⟩ (⟨3 :: (List.range' 6 N ++ List.range' (6 + N) N'), 3 :: (List.range' 6 N ++ List.range' (6 + N) N')⟩ :: tr)) : runR P F r ⟨tm, a :: b :: c :: none :: d :: e :: S, g⟩ dst tr (.call f ds) := by
  subst hS
  refine runR_callG (3 :: List.range' 6 S.length) (List.range' (6 + S.length) N') (3 :: (List.range' 6 S.length ++ List.range' (6 + S.length) N')) rfl (k3_nodup _ _ _ _ (by omega) (by omega) (.inl (Nat.le_refl _))) (by simp [hl]) ?_ h1 ?_
  · have h := lgets_from S [a, b, c, none, d, e]
    exact congrArg (none :: ·) h
  · have e1 : updL (a :: b :: c :: none :: d :: e :: S) (zipO (3 :: (List.range' 6 S.length ++ List.range' (6 + S.length) N')) (none :: (List.replicate S.length none ++ T g))) = a :: b :: c :: none :: d :: e :: (List.replicate S.length none ++ T g) := by
      show updL (a :: b :: c :: none :: d :: e :: S) (zipO (List.range' 6 S.length ++ List.range' (6 + S.length) N') (List.replicate S.length none ++ T g)) = _
      rw [zipO_app _ _ _ _ (by simp), updL_app]
      have h := upd_over S (List.replicate S.length none) [a, b, c, none, d, e] [] (by simp)
      simp only [List.append_nil] at h
      have h : updL (a :: b :: c :: none :: d :: e :: S) (zipO (List.range' 6 S.length) (List.replicate S.length none)) = a :: b :: c :: none :: d :: e :: List.replicate S.length none := h
      rw [h]
      have h3 := upd_end (T g) (a :: b :: c :: none :: d :: e :: List.replicate S.length none)
      have hlen : (a :: b :: c :: none :: d :: e :: List.replicate S.length none : HL).length = 6 + S.length := by simp; omega
      rw [hlen, hl] at h3
      rw [h3]
      rfl
    show F r ⟨putE tm dst (D g), updL (a :: b :: c :: none :: d :: e :: S) (zipO (3 :: (List.range' 6 S.length ++ List.range' (6 + S.length) N')) (none :: (List.replicate S.length none ++ T g))), g + N'⟩ _
    rw [e1]
    exact h2
theorem runR_flat6 {a b c d e : Option AObj} {X S : HL} {M : Nat} {row : Nat → Option AObj} (hX : X.length = M) (hS : S.length = N) (h1 : MSpec P f ds S 1 (fun n d H => d = D n ∧ H = S ++ [row n]))
    (h2 : F r ⟨putE tm dst (D g), a :: b :: c :: d :: e :: row g :: (X ++ S), g + 1⟩ (⟨List.range' (6 + M) N ++ [5], List.range' (6 + M) N ++ [5]⟩ :: tr)) : runR P F r ⟨tm, a :: b :: c :: d :: e :: none :: (X ++ S), g⟩ dst tr (.call f ds) := by
  subst hX hS
  have hA : (a :: b :: c :: d :: e :: none :: X : HL).length = 6 + X.length := by simp; omega
  refine runR_callG (List.range' (6 + X.length) S.length) [5] (List.range' (6 + X.length) S.length ++ [5]) rfl ?_ (by simp) ?_ h1 ?_
  · refine List.nodup_append.2 ⟨List.nodup_range', by simp, fun x hx y hy => ?_⟩
    have := List.mem_range'_1.1 hx
    have := List.mem_singleton.1 hy
    omega
  · have h := lgets_from S (a :: b :: c :: d :: e :: none :: X)
    rw [hA] at h
    exact h
  · have e1 : updL (a :: b :: c :: d :: e :: none :: (X ++ S)) (zipO (List.range' (6 + X.length) S.length ++ [5]) (S ++ [row g])) = a :: b :: c :: d :: e :: row g :: (X ++ S) := by
      rw [zipO_app _ _ _ _ (by simp), updL_app]
      have h := upd_same S (a :: b :: c :: d :: e :: none :: X)
      rw [hA] at h
      have h : updL (a :: b :: c :: d :: e :: none :: (X ++ S)) (zipO (List.range' (6 + X.length) S.length) S) = a :: b :: c :: d :: e :: none :: (X ++ S) := h
      rw [h]
      rfl
    show F r ⟨putE tm dst (D g), updL (a :: b :: c :: d :: e :: none :: (X ++ S)) (zipO (List.range' (6 + X.length) S.length ++ [5]) (S ++ [row g])), g + 1⟩ _
    rw [e1]
    exact h2
end
theorem check_spec (L : List Nd) (c : Bool) : Spec Try.prog 17 [dTrie L c] (.v (.int .i64 (readG L).2)) := by
  have hrd := readO L c
  unfold ReadO at hrd
  have hlen := fun m => spH_len (readG L).1 m
  generalize (readG L).1 = T at *
  generalize (readG L).2 = e at *
  refine hspec_fn Try.func17 rfl ok_prefix_Check okr_prefix_Check rfl (by kernel_rfl) ?_
  intro Γ hW0 hN0 hL0
  have hW := hW0 rfl
  clear hW0 hN0 hL0
  unfold x_prefix_Check r_prefix_Check
  with_reducible refine auC ?_
  repeat' (first
    | (with_reducible refine auS ?_)
    | (first | ((with_reducible refine atCall 19 ?_); (refine runR_callM (List.range' 1 T.size) List.nodup_range' (by simp [hlen]) hrd ?_)))
    | (with_reducible refine auD ?_)
    | ((with_reducible refine auB ?_ ?_); all_goals first | (intro h; first | exact auH | simp only [h, runR_t, runR_f] | skip) | skip)
    | fail)
  (all_goals first | exact auP | skip)
  all_goals with_reducible refine auF ?_
  all_goals (try first | with_reducible refine auR ?_ | exact auR0)
  all_goals (try simp only [hsM] at *)
end Go.Proofs.Ytlfbjdafnappdaa
