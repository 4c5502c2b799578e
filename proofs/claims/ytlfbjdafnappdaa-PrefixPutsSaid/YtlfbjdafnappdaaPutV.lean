/-
  Tries in the program: put.
-/
import Derived.Test.YtlfbjdafnappdaaPutW
namespace Go.Proofs.Ytlfbjdafnappdaa
set_option linter.unusedVariables false
set_option linter.unusedSimpArgs false
theorem le_re {tm : Env} {H H' : HL} {g : Nat} (f : Nat → Nat) (h : ∀ k o, lget H' k = some o → lget H (f k) = some o) (hi : ∀ k k' o o', lget H' k = some o → lget H' k' = some o' → f k = f k' → k = k') : Le ⟨tm, H, g⟩ ⟨tm, H', g⟩ := fun Γ N K a w hR => by
  have hI := hR.inv
  refine ⟨K, ⟨hI.ext, hI.base, fun k o ho => hI.obj (f k) o (h k o ho), fun k k' o o' h1 h2 r1 r2 e => hi k k' o o' h1 h2 (hI.inj (f k) (f k') o o' (h k o h1) (h k' o' h2) r1 r2 e), hI.dr, hI.lt, fun k o ho => hI.dobj (f k) o (h k o ho), fun k o ho hr => hI.own (f k) o (h k o ho) hr, hI.gl⟩, hR.fresh, hR.g0, hR.size, hR.defers, hR.tm⟩
theorem le_open (tm : Env) (T : HL) (g : Nat) : Le ⟨tm, none :: T, g⟩ ⟨tm, none :: none :: none :: T, g⟩ :=
  le_re (fun k => k - 2) (fun k o h => by
    match k, h with
    | 0, h | 1, h | 2, h => cases h
    | k + 3, h => exact h) (fun k k' o o' h1 h2 e => by
    have hk : ∀ k o, lget (none :: none :: none :: T) k = some o → 3 ≤ k := fun k o h => by
      match k, h with
      | 0, h | 1, h | 2, h => cases h
      | k + 3, h => omega
    have a1 := hk k o h1
    have a2 := hk k' o' h2
    omega)
theorem le_ptr {st : St} (s : Sl) (k' : Nat) {k n sz i j : Nat} (hs : st.tm.get s = .ptr k n sz i j) : Le st ⟨st.tm.set s (.ptr k' n sz i j), st.H, st.gen⟩ := by
  intro Γ N K a w hR
  refine ⟨K, hR.inv, hR.fresh, hR.g0, hR.size, hR.defers, fun q => ?_⟩
  show VRel K w ((st.tm.set s _).get q) _
  rw [Env.get_set]
  by_cases e : q = s
  · rw [if_pos e, e]
    have := hR.tm s
    rw [hs] at this
    exact ptr_label this
  · rw [if_neg e]
    exact hR.tm q
theorem updL_app : ∀ (a b : List (Nat × Option AObj)) (H : HL), updL H (a ++ b) = updL (updL H a) b
  | [], _, _ => rfl
  | (k, o) :: a, b, H => updL_app a b (lset H k o)
theorem zipO_app : ∀ (a b : List Nat) (X Y : HL), X.length = a.length → zipO (a ++ b) (X ++ Y) = zipO a X ++ zipO b Y
  | [], b, [], Y, _ => rfl
  | [], b, x :: X, Y, h => by simp at h
  | k :: a, b, [], Y, h => by simp at h
  | k :: a, b, x :: X, Y, h => congrArg ((k, x) :: ·) (zipO_app a b X Y (by simpa using h))
theorem upd_over : ∀ (S S' A B : HL), S'.length = S.length → updL (A ++ (S ++ B)) (zipO (List.range' A.length S.length) S') = A ++ (S' ++ B)
  | [], [], A, B, _ => rfl
  | [], _ :: _, _, _, h => by simp at h
  | _ :: _, [], _, _, h => by simp at h
  | s :: S, s' :: S', A, B, h => by
    rw [List.length_cons, List.range'_succ]
    have e : lset (A ++ (s :: S ++ B)) A.length s' = A ++ (s' :: S ++ B) := by
      induction A with
      | nil => rfl
      | cons a A ih => exact congrArg (a :: ·) ih
    show updL (lset (A ++ (s :: S ++ B)) A.length s') (zipO (List.range' (A.length + 1) S.length) S') = _
    rw [e]
    have h := upd_over S S' (A ++ [s']) B (by simpa using h)
    rw [List.append_assoc, List.length_append, List.append_assoc] at h
    exact h
/-- A part of a tree is lent; a new one comes back. -/
theorem runR_sub {P : Program} {F : List XOp → St → List Rec → Prop} {r : List XOp} {tm : Env} {g : Nat} {dst : Option Sl} {tr : List Rec} {f : FuncId} {ds : List DV} {N N' : Nat} {D : Nat → DV} {T : Nat → HL} (A S B : HL) (hS : S.length = N)
    (h1 : MSpec P f ds (none :: S) N' (fun n d H => d = D n ∧ H = none :: (List.replicate N none ++ T n))) (hl : (T g).length = N')
    (h2 : F r ⟨putE tm dst (D g), none :: (A ++ (List.replicate N none ++ (B ++ T g))), g + N'⟩ (⟨0 :: (List.range' (A.length + 1) N ++ List.range' (A.length + 1 + N + B.length) N'), 0 :: (List.range' (A.length + 1) N ++ List.range' (A.length + 1 + N + B.length) N')⟩ :: tr)) : runR P F r ⟨tm, none :: (A ++ (S ++ B)), g⟩ dst tr (.call f ds) := by
  subst hS
  refine runR_callG (0 :: List.range' (A.length + 1) S.length) (List.range' (A.length + 1 + S.length + B.length) N') (0 :: (List.range' (A.length + 1) S.length ++ List.range' (A.length + 1 + S.length + B.length) N')) rfl ?_ (by simp [hl]) ?_ h1 ?_
  · refine List.nodup_cons.2 ⟨fun h => ?_, List.nodup_append.2 ⟨List.nodup_range', List.nodup_range', fun a ha b hb => ?_⟩⟩
    · rcases List.mem_append.1 h with h | h
      · have := (List.mem_range'_1.1 h).1; omega
      · have := (List.mem_range'_1.1 h).1; omega
    · have h1 := List.mem_range'_1.1 ha
      have h2 := List.mem_range'_1.1 hb
      omega
  · have h := lgets_seg (none :: A) S B
    exact congrArg (none :: ·) h
  · have e : updL (none :: (A ++ (S ++ B))) (zipO (0 :: (List.range' (A.length + 1) S.length ++ List.range' (A.length + 1 + S.length + B.length) N')) (none :: (List.replicate S.length none ++ T g))) = none :: (A ++ (List.replicate S.length none ++ (B ++ T g))) := by
      show updL (none :: (A ++ (S ++ B))) (zipO (List.range' (A.length + 1) S.length ++ List.range' (A.length + 1 + S.length + B.length) N') (List.replicate S.length none ++ T g)) = _
      rw [zipO_app _ _ _ _ (by simp), updL_app]
      have h := upd_over S (List.replicate S.length none) (none :: A) B (by simp)
      have h : updL (none :: (A ++ (S ++ B))) (zipO (List.range' (A.length + 1) S.length) (List.replicate S.length none)) = none :: (A ++ (List.replicate S.length none ++ B)) := h
      rw [h]
      have h3 := upd_end (T g) (none :: (A ++ (List.replicate S.length none ++ B)))
      have hlen : (none :: (A ++ (List.replicate S.length none ++ B)) : HL).length = A.length + 1 + S.length + B.length := by simp; omega
      rw [hlen, hl] at h3
      rw [h3]
      simp
    show F r ⟨putE tm dst (D g), updL (none :: (A ++ (S ++ B))) (zipO (0 :: (List.range' (A.length + 1) S.length ++ List.range' (A.length + 1 + S.length + B.length) N')) (none :: (List.replicate S.length none ++ T g))), g + N'⟩ _
    rw [e]
    exact h2
theorem runR_subL {P : Program} {F : List XOp → St → List Rec → Prop} {r : List XOp} {tm : Env} {g : Nat} {dst : Option Sl} {tr : List Rec} {f : FuncId} {ds : List DV} {N N' : Nat} {D : Nat → DV} {T : Nat → HL} {a b c : Option AObj} {S B : HL} (hS : S.length = N)
    (h1 : MSpec P f ds (none :: S) N' (fun n d H => d = D n ∧ H = none :: (List.replicate N none ++ T n))) (hl : (T g).length = N')
    (h2 : F r ⟨putE tm dst (D g), none :: a :: b :: c :: (List.replicate N none ++ (B ++ T g)), g + N'⟩ (⟨0 :: (List.range' 4 N ++ List.range' (4 + N + B.length) N'), 0 :: (List.range' 4 N ++ List.range' (4 + N + B.length) N')⟩ :: tr)) : runR P F r ⟨tm, none :: a :: b :: c :: (S ++ B), g⟩ dst tr (.call f ds) :=
  runR_sub [a, b, c] S B hS h1 hl h2
theorem runR_subR {P : Program} {F : List XOp → St → List Rec → Prop} {r : List XOp} {tm : Env} {g : Nat} {dst : Option Sl} {tr : List Rec} {f : FuncId} {ds : List DV} {N N' M : Nat} {D : Nat → DV} {T : Nat → HL} {a b c : Option AObj} {S B : HL} (hB : B.length = M) (hS : S.length = N)
    (h1 : MSpec P f ds (none :: S) N' (fun n d H => d = D n ∧ H = none :: (List.replicate N none ++ T n))) (hl : (T g).length = N')
    (h2 : F r ⟨putE tm dst (D g), none :: a :: b :: c :: (B ++ (List.replicate N none ++ T g)), g + N'⟩ (⟨0 :: (List.range' (M + 4) N ++ List.range' (M + 4 + N) N'), 0 :: (List.range' (M + 4) N ++ List.range' (M + 4 + N) N')⟩ :: tr)) : runR P F r ⟨tm, none :: a :: b :: c :: (B ++ S), g⟩ dst tr (.call f ds) := by
  have h := runR_sub (P := P) (F := F) (r := r) (tm := tm) (g := g) (dst := dst) (tr := tr) (f := f) (ds := ds) (N := N) (N' := N') (D := D) (T := T) (a :: b :: c :: B) S [] hS h1 hl (by
    simp only [List.nil_append, List.length_cons, List.length_nil, hB, Nat.add_zero]
    exact h2)
  rw [List.append_nil] at h
  exact h
/-- The bits of an address from one on. -/
def bitsF (a d k : Nat) : B8 := (List.range' d k).map (fun i => UInt8.ofNat (48 + a / 2 ^ (31 - i) % 2))
theorem bitsF_0 (a d : Nat) : bitsF a d 0 = [] := rfl
theorem bitsF_succ (a d k : Nat) : bitsF a d (k + 1) = UInt8.ofNat (48 + a / 2 ^ (31 - d) % 2) :: bitsF a (d + 1) k := by simp [bitsF, List.range'_succ]
theorem bitsF_L (a n : Nat) : bitsF a 0 n = bitsL a n := by unfold bitsF bitsL; rw [List.range_eq_range']
abbrev PutS (T : Tr) (q : B8) (v : Int) (nm a Lg d : Nat) : Prop := MSpec Try.prog 30 [spD T nm, dNt a Lg, .v (.int .i64 v), .v (.int .i64 (d : Nat))] (none :: spH T nm) (putT T q v).size (fun m D H => D = spD (putT T q v) m ∧ H = none :: (List.replicate T.size none ++ spH (putT T q v) m))
set_option maxHeartbeats 4000000 in
theorem put_nil0 (v : Int) (nm a Lg : Nat) : PutS .nil [] v nm a Lg Lg := by
  have hbs := v
  show MSpec Try.prog _ [.v (.pointer none), _, _, _] [none] (Tr.node .nil .nil true v).size (fun m D H => D = spD (.node .nil .nil true v) m ∧ H = none :: (List.replicate 0 none ++ spH (.node .nil .nil true v) m))
  refine mspec_fn Try.func30 rfl ok_prefix_put okr_prefix_put rfl (by kernel_rfl) ?_
  intro Γ hW0 hN0 hL0
  clear hW0
  unfold x_prefix_put r_prefix_put
  with_reducible refine auC ?_
  have e : decide (((Lg : Nat) : Int) = (Lg : Nat)) = true := decide_eq_true rfl
  repeat' (first
    | ((with_reducible refine endD_intro2 ?_ ?_); (exact by kernel_rfl))
    | (with_reducible refine auS ?_)
    | (first | (simp only [Int.toNat_natCast, Nat.zero_mul, Nat.one_mul, List.cons_append, List.nil_append, e]) | (with_reducible refine runR_call hbs ?_) | ((with_reducible refine atCall 30 ?_); (refine fail)))
    | (with_reducible refine auD ?_)
    | ((with_reducible refine auB ?_ ?_); all_goals first | (intro h; first | exact auH | simp only [h, runR_t, runR_f] | skip) | skip)
    | fail)
  (all_goals first | exact auP | skip)
  all_goals first
    | (exfalso; simp at h; done)
    | skip
  refine ret_node .nil .nil true v (Γ.g0 + 1) (Γ.g0 + 2) (Γ.g0 + 2) 0 [0] 2 [] [] trivial (by decide) rfl rfl rfl rfl (fun n => ?_)
  exact ⟨0, n, .inl ⟨0, rfl, rfl⟩, rfl⟩
theorem kx_nodup (E R p N q M : Nat) (h1 : 4 ≤ p) (h2 : 4 ≤ q) (h3 : p + N ≤ q ∨ q + M ≤ p) (h4 : p + N ≤ E) (h5 : q + M ≤ E) : ((0 :: List.range' E R) ++ 3 :: (List.range' p N ++ List.range' q M)).Nodup := by
  have hm : ∀ a e n, a ∈ List.range' e n → e ≤ a ∧ a < e + n := fun a e n h => List.mem_range'_1.1 h
  refine List.nodup_append.2 ⟨List.nodup_cons.2 ⟨fun h => ?_, List.nodup_range'⟩, List.nodup_cons.2 ⟨fun h => ?_, List.nodup_append.2 ⟨List.nodup_range', List.nodup_range', fun a ha b hb => ?_⟩⟩, fun a ha b hb => ?_⟩
  · have := hm _ _ _ h; omega
  · rcases List.mem_append.1 h with h | h
    · have := hm _ _ _ h; omega
    · have := hm _ _ _ h; omega
  · have := hm _ _ _ ha
    have := hm _ _ _ hb
    omega
  · have h6 : a = 0 ∨ E ≤ a := by
      rcases List.mem_cons.1 ha with h | h
      · exact .inl h
      · exact .inr (hm _ _ _ h).1
    have h7 : b = 3 ∨ (p ≤ b ∧ b < p + N) ∨ (q ≤ b ∧ b < q + M) := by
      rcases List.mem_cons.1 hb with h | h
      · exact .inl h
      · rcases List.mem_append.1 h with h | h
        · exact .inr (.inl (hm _ _ _ h))
        · exact .inr (.inr (hm _ _ _ h))
    omega
theorem k0_get (H : HL) (E R : Nat) (h : H.length + 1 ≤ E) : lgets (none :: H) (0 :: List.range' E R) = none :: List.replicate R none := congrArg (none :: ·) (lgets_past (none :: H) R E h)
theorem put_node_of {T : Tr} (h : 0 < T.size) : ∃ l r s v, T = .node l r s v := by
  cases T with
  | nil => exact absurd h (Nat.lt_irrefl _)
  | node l r s v => exact ⟨l, r, s, v, rfl⟩
set_option maxHeartbeats 4000000 in
theorem put_nil1 (q : B8) (v : Int) (nm a Lg d : Nat) (ha : a < 4294967296) (hd : d < Lg) (hL : Lg ≤ 32) (ih : PutS .nil q v nm a Lg (d + 1)) : PutS .nil (UInt8.ofNat (48 + a / 2 ^ (31 - d) % 2) :: q) v nm a Lg d := by
  have hbs := bit_spec a d ha (by omega)
  have ew : IntKind.i64.wrap ((d : Int) + 1) = ((d + 1 : Nat) : Int) := (IntWalk.i64_in _ (by omega)).trans (by omega)
  have e : decide (((d : Nat) : Int) = (Lg : Nat)) = false := decide_eq_false (by omega)
  obtain ⟨l1, r1, s1, v1, hT⟩ := put_node_of (put_size .nil q v)
  unfold PutS at ih
  rw [hT] at ih
  have hcall : MSpec Try.prog 30 [.v (.pointer none), dNt a Lg, .v (.int .i64 v), .v (.int .i64 ((d + 1 : Nat) : Int))] [none] (Tr.node l1 r1 s1 v1).size (fun m D H => D = .ptr 0 m 4 0 0 ∧ H = none :: spH (.node l1 r1 s1 v1) m) := ih
  have hlen := fun m => spH_len (.node l1 r1 s1 v1) m
  have hnd : ∀ N : Nat, ([0] ++ 2 :: List.range' 3 N).Nodup := fun N => by
    refine List.nodup_cons.2 ⟨fun h => ?_, List.nodup_cons.2 ⟨fun h => ?_, List.nodup_range'⟩⟩
    · rcases List.mem_cons.1 h with h | h
      · cases h
      · have := (List.mem_range'_1.1 h).1; omega
    · have := (List.mem_range'_1.1 h).1; omega
  rcases Nat.mod_two_eq_zero_or_one (a / 2 ^ (31 - d)) with h0 | h0
  · rw [h0] at hbs ⊢
    have hput : putT .nil (UInt8.ofNat (48 + 0) :: q) v = .node (.node l1 r1 s1 v1) .nil false 0 := by rw [← hT]; exact if_pos rfl
    unfold PutS
    rw [hput]
    show MSpec Try.prog _ [.v (.pointer none), _, _, _] [none] _ (fun m D H => D = _ ∧ H = none :: (List.replicate 0 none ++ _))
    generalize hT1 : Tr.node l1 r1 s1 v1 = T1 at *
    refine mspec_fn Try.func30 rfl ok_prefix_put okr_prefix_put rfl (by kernel_rfl) ?_
    intro Γ hW0 hN0 hL0
    clear hW0
    unfold x_prefix_put r_prefix_put
    with_reducible refine auC ?_
    repeat' (first
      | ((with_reducible refine endD_intro2 ?_ ?_); (exact by kernel_rfl))
      | (with_reducible refine auS ?_)
      | (first | (simp only [Int.toNat_natCast, Nat.zero_mul, Nat.one_mul, List.cons_append, List.nil_append, e, ew]) | (with_reducible refine runR_call hbs ?_) | ((with_reducible refine atCall 30 ?_); (refine runR_new hcall (hlen _) ?_)))
      | (with_reducible refine auD ?_)
      | ((with_reducible refine auB ?_ ?_); all_goals first | (intro h; first | exact auH | simp only [h, runR_t, runR_f] | skip) | skip)
      | fail)
    (all_goals first | exact auP | skip)
    have hle := lgets_from (spH T1 (Γ.g0 + 2)) [none, some ⟨Γ.g0, 2, [[.v (.int .u32 (a : Nat)), .v (.int .i64 (Lg : Nat))]]⟩, some ⟨Γ.g0 + 1, 4, [[.ptr 0 (Γ.g0 + 2) 4 0 0, .v (.pointer none), .v (.bool false), .v (.int .i64 0)]]⟩]
    rw [spH_len] at hle
    have hsp : spD T1 (Γ.g0 + 2) = .ptr 0 (Γ.g0 + 2) 4 0 0 := by rw [← hT1]; rfl
    refine ret_node T1 .nil false 0 (Γ.g0 + 1) (Γ.g0 + 2) (Γ.g0 + 2) 0 [0] 2 (List.range' 3 T1.size) [] trivial (by rw [List.append_nil]; exact hnd _) rfl (by rw [hsp]; rfl) hle rfl (fun n => ?_)
    exact ⟨0, n, .inl ⟨0, rfl, rfl⟩, rfl⟩
  · rw [h0] at hbs ⊢
    have hput : putT .nil (UInt8.ofNat (48 + 1) :: q) v = .node .nil (.node l1 r1 s1 v1) false 0 := by rw [← hT]; exact if_neg (by decide)
    unfold PutS
    rw [hput]
    show MSpec Try.prog _ [.v (.pointer none), _, _, _] [none] _ (fun m D H => D = _ ∧ H = none :: (List.replicate 0 none ++ _))
    generalize hT1 : Tr.node l1 r1 s1 v1 = T1 at *
    refine mspec_fn Try.func30 rfl ok_prefix_put okr_prefix_put rfl (by kernel_rfl) ?_
    intro Γ hW0 hN0 hL0
    clear hW0
    unfold x_prefix_put r_prefix_put
    with_reducible refine auC ?_
    repeat' (first
      | ((with_reducible refine endD_intro2 ?_ ?_); (exact by kernel_rfl))
      | (with_reducible refine auS ?_)
      | (first | (simp only [Int.toNat_natCast, Nat.zero_mul, Nat.one_mul, List.cons_append, List.nil_append, e, ew]) | (with_reducible refine runR_call hbs ?_) | ((with_reducible refine atCall 30 ?_); (refine runR_new hcall (hlen _) ?_)))
      | (with_reducible refine auD ?_)
      | ((with_reducible refine auB ?_ ?_); all_goals first | (intro h; first | exact auH | simp only [h, runR_t, runR_f] | skip) | skip)
      | fail)
    (all_goals first | exact auP | skip)
    have hle := lgets_from (spH T1 (Γ.g0 + 2)) [none, some ⟨Γ.g0, 2, [[.v (.int .u32 (a : Nat)), .v (.int .i64 (Lg : Nat))]]⟩, some ⟨Γ.g0 + 1, 4, [[.v (.pointer none), .ptr 0 (Γ.g0 + 2) 4 0 0, .v (.bool false), .v (.int .i64 0)]]⟩]
    rw [spH_len] at hle
    have hsp : spD T1 (Γ.g0 + 2) = .ptr 0 (Γ.g0 + 2) 4 0 0 := by rw [← hT1]; rfl
    refine ret_node .nil T1 false 0 (Γ.g0 + 1) (Γ.g0 + 2) (Γ.g0 + 2) 0 [0] 2 [] (List.range' 3 T1.size) trivial (hnd _) rfl (by rw [hsp]; rfl) rfl hle (fun n => ?_)
    exact ⟨0, n, .inl ⟨0, rfl, rfl⟩, rfl⟩
set_option maxHeartbeats 4000000 in
theorem put_node0 (l r : Tr) (s : Bool) (w v : Int) (nm a Lg : Nat) : PutS (.node l r s w) [] v nm a Lg Lg := by
  have hbs := v
  have e : decide (((Lg : Nat) : Int) = (Lg : Nat)) = true := decide_eq_true rfl
  have hl := spH_len l (nm + 1)
  have hr := spH_len r (nm + 1 + l.size)
  show MSpec Try.prog _ [.ptr 0 nm 4 0 0, _, _, _] (none :: some ⟨nm, 4, [spC l r s w nm]⟩ :: (spH l (nm + 1) ++ spH r (nm + 1 + l.size))) (Tr.node l r true v).size (fun m D H => D = spD (.node l r true v) m ∧ H = none :: (List.replicate (Tr.node l r s w).size none ++ spH (.node l r true v) m))
  refine mspec_fn Try.func30 rfl ok_prefix_put okr_prefix_put rfl (by kernel_rfl) ?_
  intro Γ hW0 hN0 hL0
  clear hW0
  unfold x_prefix_put r_prefix_put
  with_reducible refine auC ?_
  have hnm : nm < Γ.g0 := hN0 1 _ rfl
  refine go_leG (le_leG (le_open _ _ _)) ?_
  refine go_leG (le_leG (le_ptr ⟨.d0, .d0, .d0⟩ 3 rfl)) ?_
  with_reducible refine auL ?_
  repeat' (first
    | ((with_reducible refine endD_intro2 ?_ ?_); (exact by kernel_rfl))
    | (with_reducible refine auS ?_)
    | (first | (simp only [Int.toNat_natCast, Nat.zero_mul, Nat.one_mul, List.cons_append, List.nil_append, e]) | (with_reducible refine runR_call hbs ?_) | ((with_reducible refine atCall 30 ?_); (refine fail)))
    | (with_reducible refine auD ?_)
    | ((with_reducible refine auB ?_ ?_); all_goals first | (intro h; first | exact auH | simp only [h, runR_t, runR_f] | skip) | skip)
    | fail)
  (all_goals first | exact auP | skip)
  refine ret_node l r true v nm (nm + 1) (nm + 1 + l.size) (Tr.node l r s w).size (0 :: List.range' (4 + l.size + r.size) (Tr.node l r s w).size) 3 (List.range' 4 l.size) (List.range' (4 + l.size) r.size) trivial (kx_nodup _ _ _ _ _ _ (Nat.le_refl _) (by omega) (.inl (Nat.le_refl _)) (by omega) (by omega)) (k0_get _ _ _ (by simp [hl, hr]; omega)) rfl ?_ ?_ (fun n => ?_)
  · have h := lgets_seg [none, some ⟨Γ.g0, 2, [[.v (.int .u32 (a : Nat)), .v (.int .i64 (Lg : Nat))]]⟩, none, some ⟨nm, 4, [[spD l (nm + 1), spD r (nm + 1 + l.size), .v (.bool true), .v (.int .i64 v)]]⟩] (spH l (nm + 1)) (spH r (nm + 1 + l.size))
    rw [hl] at h
    exact h
  · have h := lgets_from (spH r (nm + 1 + l.size)) (none :: some ⟨Γ.g0, 2, [[.v (.int .u32 (a : Nat)), .v (.int .i64 (Lg : Nat))]]⟩ :: none :: some ⟨nm, 4, [[spD l (nm + 1), spD r (nm + 1 + l.size), .v (.bool true), .v (.int .i64 v)]]⟩ :: spH l (nm + 1))
    rw [hr] at h
    simp only [List.length_cons, hl] at h
    rw [show l.size + 1 + 1 + 1 + 1 = 4 + l.size by omega] at h
    exact h
  · exact ⟨0, n, .inl ⟨0, rfl, rfl⟩, rfl⟩
set_option maxHeartbeats 4000000 in
theorem put_node1 (l r : Tr) (s : Bool) (w : Int) (q : B8) (v : Int) (nm a Lg d : Nat) (ha : a < 4294967296) (hd : d < Lg) (hL : Lg ≤ 32) (ihl : PutS l q v (nm + 1) a Lg (d + 1)) (ihr : PutS r q v (nm + 1 + l.size) a Lg (d + 1)) : PutS (.node l r s w) (UInt8.ofNat (48 + a / 2 ^ (31 - d) % 2) :: q) v nm a Lg d := by
  have hbs := bit_spec a d ha (by omega)
  have ew : IntKind.i64.wrap ((d : Int) + 1) = ((d + 1 : Nat) : Int) := (IntWalk.i64_in _ (by omega)).trans (by omega)
  have e : decide (((d : Nat) : Int) = (Lg : Nat)) = false := decide_eq_false (by omega)
  have hl := spH_len l (nm + 1)
  have hr := spH_len r (nm + 1 + l.size)
  have hsT : (Tr.node l r s w).size = 1 + (l.size + r.size) := rfl
  rcases Nat.mod_two_eq_zero_or_one (a / 2 ^ (31 - d)) with h0 | h0
  · rw [h0] at hbs ⊢
    obtain ⟨l1, r1, s1, v1, hT⟩ := put_node_of (put_size l q v)
    unfold PutS at ihl
    rw [hT] at ihl
    have hcall : MSpec Try.prog 30 [spD l (nm + 1), dNt a Lg, .v (.int .i64 v), .v (.int .i64 ((d + 1 : Nat) : Int))] (none :: spH l (nm + 1)) (Tr.node l1 r1 s1 v1).size (fun m D H => D = .ptr 0 m 4 0 0 ∧ H = none :: (List.replicate l.size none ++ spH (.node l1 r1 s1 v1) m)) := ihl
    have hlen := fun m => spH_len (.node l1 r1 s1 v1) m
    have hput : putT (.node l r s w) (UInt8.ofNat (48 + 0) :: q) v = .node (.node l1 r1 s1 v1) r s w := by rw [← hT]; exact if_pos rfl
    unfold PutS
    rw [hput]
    generalize hT1 : Tr.node l1 r1 s1 v1 = T1 at *
    show MSpec Try.prog _ [.ptr 0 nm 4 0 0, _, _, _] (none :: some ⟨nm, 4, [spC l r s w nm]⟩ :: (spH l (nm + 1) ++ spH r (nm + 1 + l.size))) _ _
    refine mspec_fn Try.func30 rfl ok_prefix_put okr_prefix_put rfl (by kernel_rfl) ?_
    intro Γ hW0 hN0 hL0
    clear hW0
    unfold x_prefix_put r_prefix_put
    with_reducible refine auC ?_
    have hnm : nm < Γ.g0 := hN0 1 _ rfl
    refine go_leG (le_leG (le_open _ _ _)) ?_
    refine go_leG (le_leG (le_ptr ⟨.d0, .d0, .d0⟩ 3 rfl)) ?_
    with_reducible refine auL ?_
    repeat' (first
      | ((with_reducible refine endD_intro2 ?_ ?_); (exact by kernel_rfl))
      | (with_reducible refine auS ?_)
      | (first | (simp only [Int.toNat_natCast, Nat.zero_mul, Nat.one_mul, List.cons_append, List.nil_append, e, ew]) | (with_reducible refine runR_call hbs ?_) | ((with_reducible refine atCall 30 ?_); (refine runR_subL hl hcall (hlen _) ?_)))
      | (with_reducible refine auD ?_)
      | ((with_reducible refine auB ?_ ?_); all_goals first | (intro h; first | exact auH | simp only [h, runR_t, runR_f] | skip) | skip)
      | fail)
    (all_goals first | exact auP | skip)
    have hsp : spD T1 (Γ.g0 + 1) = .ptr 0 (Γ.g0 + 1) 4 0 0 := by rw [← hT1]; rfl
    have hlT := spH_len T1 (Γ.g0 + 1)
    refine ret_node T1 r s w nm (Γ.g0 + 1) (nm + 1 + l.size) (Tr.node l r s w).size (0 :: List.range' (4 + l.size + r.size + T1.size) (Tr.node l r s w).size) 3 (List.range' (4 + l.size + r.size) T1.size) (List.range' (4 + l.size) r.size) trivial (kx_nodup _ _ _ _ _ _ (by omega) (by omega) (.inr (Nat.le_refl _)) (by omega) (by omega)) (k0_get _ _ _ (by simp [hl, hr, hlT]; omega)) (by rw [hsp]; rfl) ?_ ?_ (fun n => ?_)
    · have h := lgets_from (spH T1 (Γ.g0 + 1)) (none :: some ⟨Γ.g0, 2, [[.v (.int .u32 (a : Nat)), .v (.int .i64 (Lg : Nat))]]⟩ :: none :: some ⟨nm, 4, [[.ptr 0 (Γ.g0 + 1) 4 0 0, spD r (nm + 1 + l.size), .v (.bool s), .v (.int .i64 w)]]⟩ :: (List.replicate l.size none ++ spH r (nm + 1 + l.size)))
      rw [hlT] at h
      simp only [List.length_cons, List.length_append, List.length_replicate, hr] at h
      rw [show l.size + r.size + 1 + 1 + 1 + 1 = 4 + l.size + r.size by omega] at h
      simp only [List.cons_append, List.append_assoc] at h
      exact h
    · have h := lgets_seg (none :: some ⟨Γ.g0, 2, [[.v (.int .u32 (a : Nat)), .v (.int .i64 (Lg : Nat))]]⟩ :: none :: some ⟨nm, 4, [[.ptr 0 (Γ.g0 + 1) 4 0 0, spD r (nm + 1 + l.size), .v (.bool s), .v (.int .i64 w)]]⟩ :: List.replicate l.size none) (spH r (nm + 1 + l.size)) (spH T1 (Γ.g0 + 1))
      rw [hr] at h
      simp only [List.length_cons, List.length_replicate] at h
      rw [show l.size + 1 + 1 + 1 + 1 = 4 + l.size by omega] at h
      exact h
    · exact ⟨0, n, .inl ⟨0, rfl, rfl⟩, rfl⟩
  · rw [h0] at hbs ⊢
    obtain ⟨l1, r1, s1, v1, hT⟩ := put_node_of (put_size r q v)
    unfold PutS at ihr
    rw [hT] at ihr
    have hcall : MSpec Try.prog 30 [spD r (nm + 1 + l.size), dNt a Lg, .v (.int .i64 v), .v (.int .i64 ((d + 1 : Nat) : Int))] (none :: spH r (nm + 1 + l.size)) (Tr.node l1 r1 s1 v1).size (fun m D H => D = .ptr 0 m 4 0 0 ∧ H = none :: (List.replicate r.size none ++ spH (.node l1 r1 s1 v1) m)) := ihr
    have hlen := fun m => spH_len (.node l1 r1 s1 v1) m
    have hput : putT (.node l r s w) (UInt8.ofNat (48 + 1) :: q) v = .node l (.node l1 r1 s1 v1) s w := by rw [← hT]; exact if_neg (by decide)
    unfold PutS
    rw [hput]
    generalize hT1 : Tr.node l1 r1 s1 v1 = T1 at *
    show MSpec Try.prog _ [.ptr 0 nm 4 0 0, _, _, _] (none :: some ⟨nm, 4, [spC l r s w nm]⟩ :: (spH l (nm + 1) ++ spH r (nm + 1 + l.size))) _ _
    refine mspec_fn Try.func30 rfl ok_prefix_put okr_prefix_put rfl (by kernel_rfl) ?_
    intro Γ hW0 hN0 hL0
    clear hW0
    unfold x_prefix_put r_prefix_put
    with_reducible refine auC ?_
    have hnm : nm < Γ.g0 := hN0 1 _ rfl
    refine go_leG (le_leG (le_open _ _ _)) ?_
    refine go_leG (le_leG (le_ptr ⟨.d0, .d0, .d0⟩ 3 rfl)) ?_
    with_reducible refine auL ?_
    repeat' (first
      | ((with_reducible refine endD_intro2 ?_ ?_); (exact by kernel_rfl))
      | (with_reducible refine auS ?_)
      | (first | (simp only [Int.toNat_natCast, Nat.zero_mul, Nat.one_mul, List.cons_append, List.nil_append, e, ew]) | (with_reducible refine runR_call hbs ?_) | ((with_reducible refine atCall 30 ?_); (refine runR_subR hl hr hcall (hlen _) ?_)))
      | (with_reducible refine auD ?_)
      | ((with_reducible refine auB ?_ ?_); all_goals first | (intro h; first | exact auH | simp only [h, runR_t, runR_f] | skip) | skip)
      | fail)
    (all_goals first | exact auP | skip)
    have hsp : spD T1 (Γ.g0 + 1) = .ptr 0 (Γ.g0 + 1) 4 0 0 := by rw [← hT1]; rfl
    have hlT := spH_len T1 (Γ.g0 + 1)
    refine ret_node l T1 s w nm (nm + 1) (Γ.g0 + 1) (Tr.node l r s w).size (0 :: List.range' (4 + l.size + r.size + T1.size) (Tr.node l r s w).size) 3 (List.range' 4 l.size) (List.range' (4 + l.size + r.size) T1.size) trivial (kx_nodup _ _ _ _ _ _ (by omega) (by omega) (.inl (by omega)) (by omega) (by omega)) (k0_get _ _ _ (by simp [hl, hr, hlT]; omega)) (by rw [hsp]; rfl) ?_ ?_ (fun n => ?_)
    · have h := lgets_seg [none, some ⟨Γ.g0, 2, [[.v (.int .u32 (a : Nat)), .v (.int .i64 (Lg : Nat))]]⟩, none, some ⟨nm, 4, [[spD l (nm + 1), .ptr 0 (Γ.g0 + 1) 4 0 0, .v (.bool s), .v (.int .i64 w)]]⟩] (spH l (nm + 1)) (List.replicate r.size none ++ spH T1 (Γ.g0 + 1))
      rw [hl] at h
      exact h
    · have h := lgets_from (spH T1 (Γ.g0 + 1)) (none :: some ⟨Γ.g0, 2, [[.v (.int .u32 (a : Nat)), .v (.int .i64 (Lg : Nat))]]⟩ :: none :: some ⟨nm, 4, [[spD l (nm + 1), .ptr 0 (Γ.g0 + 1) 4 0 0, .v (.bool s), .v (.int .i64 w)]]⟩ :: (spH l (nm + 1) ++ List.replicate r.size none))
      rw [hlT] at h
      simp only [List.length_cons, List.length_append, List.length_replicate, hl] at h
      rw [show l.size + r.size + 1 + 1 + 1 + 1 = 4 + l.size + r.size by omega] at h
      simp only [List.cons_append, List.append_assoc] at h
      exact h
    · exact ⟨0, n, .inl ⟨0, rfl, rfl⟩, rfl⟩
theorem put_spec (v : Int) (a Lg : Nat) (ha : a < 4294967296) (hL : Lg ≤ 32) : ∀ (k d : Nat) (T : Tr) (nm : Nat), d + k = Lg → PutS T (bitsF a d k) v nm a Lg d
  | 0, d, .nil, nm, h => by
    obtain rfl : d = Lg := by omega
    exact put_nil0 v nm a d
  | 0, d, .node l r s w, nm, h => by
    obtain rfl : d = Lg := by omega
    exact put_node0 l r s w v nm a d
  | k + 1, d, .nil, nm, h => by
    rw [bitsF_succ]
    exact put_nil1 _ v nm a Lg d ha (by omega) hL (put_spec v a Lg ha hL k (d + 1) .nil nm (by omega))
  | k + 1, d, .node l r s w, nm, h => by
    rw [bitsF_succ]
    exact put_node1 l r s w _ v nm a Lg d ha (by omega) hL (put_spec v a Lg ha hL k (d + 1) l (nm + 1) (by omega)) (put_spec v a Lg ha hL k (d + 1) r (nm + 1 + l.size) (by omega))
end Go.Proofs.Ytlfbjdafnappdaa
