/-
  One more put into a wheel that is lent; calls that lend a whole wheel.
-/
import Derived.Test.YtecnjhmpipfldaaWheelS
namespace Go.Proofs.Ytecnjhmpipfldaa
set_option linter.unusedVariables false
set_option linter.unusedSimpArgs false
/-! Places. -/
theorem le_re {tm : Env} {H H' : HL} {g : Nat} (f : Nat → Nat) (h : ∀ k o, lget H' k = some o → lget H (f k) = some o) (hi : ∀ k k' o o', lget H' k = some o → lget H' k' = some o' → f k = f k' → k = k') : Le ⟨tm, H, g⟩ ⟨tm, H', g⟩ := fun Γ N K a w hR => by
  have hI := hR.inv
  refine ⟨K, ⟨hI.ext, hI.base, fun k o ho => hI.obj (f k) o (h k o ho), fun k k' o o' h1 h2 r1 r2 e => hi k k' o o' h1 h2 (hI.inj (f k) (f k') o o' (h k o h1) (h k' o' h2) r1 r2 e), hI.dr, hI.lt, fun k o ho => hI.dobj (f k) o (h k o ho), fun k o ho hr => hI.own (f k) o (h k o ho) hr, hI.gl⟩, hR.fresh, hR.g0, hR.size, hR.defers, hR.tm⟩
theorem le_shift (tm : Env) (b : Option AObj) (T : HL) (g : Nat) : Le ⟨tm, b :: T, g⟩ ⟨tm, b :: none :: none :: none :: none :: T, g⟩ :=
  le_re (fun k => if k = 0 then 0 else k - 4) (fun k o h => by
    match k, h with
    | 0, h => exact h
    | 1, h | 2, h | 3, h | 4, h => cases h
    | k + 5, h => exact h) (fun k k' o o' h1 h2 e => by
    have hk : ∀ k o, lget (b :: none :: none :: none :: none :: T) k = some o → k = 0 ∨ 5 ≤ k := fun k o h => by
      match k, h with
      | 0, h => exact .inl rfl
      | 1, h | 2, h | 3, h | 4, h => cases h
      | k + 5, h => exact .inr (by omega)
    have a1 := hk k o h1
    have a2 := hk k' o' h2
    split at e <;> split at e <;> omega)
theorem le_focus0 {tm : Env} {g : Nat} {b a1 a2 a4 : Option AObj} {T : HL} (i : Nat) {o : AObj} (h : lget T i = some o) : Le ⟨tm, b :: a1 :: a2 :: none :: a4 :: T, g⟩ ⟨tm, b :: a1 :: a2 :: some o :: a4 :: lset T i none, g⟩ :=
  le_place (st := ⟨tm, b :: a1 :: a2 :: none :: a4 :: T, g⟩) (i + 5) 3 h (fun _ => rfl)
theorem renH_app {g n : Nat} {ns : List Nat} : ∀ {A A' B B' : HL}, renH g ns n A A' → renH g ns n B B' → renH g ns n (A ++ B) (A' ++ B')
  | [], A', B, B', h, k => by
    obtain rfl : A' = [] := h
    exact k
  | none :: r, [], _, _, h, _ => h.elim
  | none :: r, none :: s, B, B', h, k => renH_app (A := r) (A' := s) h k
  | none :: r, some p :: s, _, _, h, _ => h.elim
  | some o :: r, [], _, _, h, _ => h.elim
  | some o :: r, none :: s, _, _, h, _ => h.elim
  | some o :: r, some p :: s, B, B', h, k => ⟨h.1, renH_app (A := r) (A' := s) h.2 k⟩
theorem renH_self {g n : Nat} {ns : List Nat} : ∀ {T : HL}, (∀ k o, lget T k = some o → o.n < g ∧ nfLL g o.xs) → renH g ns n T T
  | [], _ => rfl
  | none :: r, h => renH_self (T := r) (fun k o ho => h (k + 1) o ho)
  | some p :: r, h => ⟨⟨.inr ⟨(h 0 p rfl).1, rfl⟩, rfl, renMLL_nf _ (h 0 p rfl).2⟩, renH_self (T := r) (fun k o ho => h (k + 1) o ho)⟩
theorem mspec_args {P : Program} {f : FuncId} {ds ds' : List DV} {H0 : HL} {c : Nat} {R : Nat → DV → HL → Prop} (h : MSpec P f ds' H0 c R) (hd : ∀ K w vs, ArgsRel K w ds vs → ArgsRel K w ds' vs) : MSpec P f ds H0 c R :=
  ⟨h.1, fun K w vs g0 hI hlt ha => h.2 K w vs g0 hI hlt (hd _ _ _ ha)⟩
theorem mspec_ptr {P : Program} {f : FuncId} {n sz i j c : Nat} {ds : List DV} {H0 : HL} {R : Nat → DV → HL → Prop} (k : Nat) (h : MSpec P f (.ptr 0 n sz i j :: ds) H0 c R) : MSpec P f (.ptr k n sz i j :: ds) H0 c R :=
  mspec_args h (fun K w vs ha => argsRel_head (fun v hv => ptr_label hv) ha)
theorem upd_app : ∀ (T A : HL), updL A (zipO (List.range' A.length T.length) T) = A ++ T
  | [], A => by simp [zipO, updL]
  | t :: r, A => by
    have ih := upd_app r (A ++ [t])
    rw [List.length_append, List.length_singleton] at ih
    rw [List.length_cons, List.range'_succ]
    show updL (lset A A.length t) (zipO (List.range' (A.length + 1) r.length) r) = _
    rw [lset_end, ih]
    simp
theorem upd_over : ∀ (T' T A : HL), T.length = T'.length → updL (A ++ T) (zipO (List.range' A.length T'.length) T') = A ++ T'
  | [], [], A, _ => by simp [zipO, updL]
  | [], _ :: _, _, h => by simp at h
  | _ :: _, [], _, h => by simp at h
  | t' :: r', t :: r, A, h => by
    have ih := upd_over r' r (A ++ [t']) (by simpa using h)
    rw [List.length_append, List.length_singleton] at ih
    rw [List.length_cons, List.range'_succ]
    show updL (lset (A ++ t :: r) A.length t') (zipO (List.range' (A.length + 1) r'.length) r') = _
    rw [lset_mid, show A ++ t' :: r = (A ++ [t']) ++ r by simp, ih]
    simp
theorem updL_app : ∀ (a b : List (Nat × Option AObj)) (H : HL), updL H (a ++ b) = updL (updL H a) b
  | [], _, _ => rfl
  | (k, o) :: r, b, H => updL_app r b (lset H k o)
theorem zipO_app : ∀ (a : List Nat) (A : HL) (b : List Nat) (B : HL), a.length = A.length → zipO (a ++ b) (A ++ B) = zipO a A ++ zipO b B
  | [], [], _, _, _ => rfl
  | [], _ :: _, _, _, h => by simp at h
  | _ :: _, [], _, _, h => by simp at h
  | k :: r, o :: s, b, B, h => by
    show (k, o) :: zipO (r ++ b) (s ++ B) = _
    rw [zipO_app r s b B (by simpa using h)]
    rfl
/-- A call that hands back 96 rows. -/
theorem runR_own {P : Program} {F : List XOp → St → List Rec → Prop} {r : List XOp} {tm : Env} {b a : Option AObj} {g : Nat} {dst : Option Sl} {tr : List Rec} {f : FuncId} {ds : List DV} {D : Nat → DV} {R : Nat → HL} (h1 : MSpec P f ds [] 96 (fun n d H => d = D n ∧ H = R n)) (hl : (R g).length = 96)
    (h2 : F r ⟨putE tm dst (D g), b :: a :: none :: none :: none :: R g, g + 96⟩ (⟨List.range' 5 96, List.range' 5 96⟩ :: tr)) : runR P F r ⟨tm, [b, a], g⟩ dst tr (.call f ds) := by
  refine .inr (.inr ⟨[], List.range' 5 96, ds, 96, D, R, fun _ _ _ h => h, List.nodup_range', by rw [hl]; rfl, h1, ?_⟩)
  have e : updL [b, a] (zipO ([] ++ List.range' 5 96) (R g)) = b :: a :: none :: none :: none :: R g := by
    cases hR : R g with
    | nil => rw [hR] at hl; cases hl
    | cons t T =>
      rw [hR] at hl
      have hT : T.length = 95 := by simpa using hl
      have h := upd_app T [b, a, none, none, none, t]
      rw [hT] at h
      show updL (lset [b, a] 5 t) (zipO (List.range' 6 95) T) = _
      exact h
  show F r ⟨putE tm dst (D g), updL [b, a] (zipO ([] ++ List.range' 5 96) (R g)), g + 96⟩ _
  rw [e]
  exact h2
/-- A call to which a wheel is lent, and that hands back one row more. -/
theorem runR_lendW {P : Program} {F : List XOp → St → List Rec → Prop} {r : List XOp} {tm : Env} {b a1 a2 a3 : Option AObj} {T : HL} {g : Nat} {dst : Option Sl} {tr : List Rec} {f : FuncId} {ds : List DV} {D : Nat → DV} {B N : Nat → Option AObj} {T1 : Nat → HL} (hT : T.length = 96)
    (h1 : MSpec P f ds (b :: T) 1 (fun n d H => d = D n ∧ H = B n :: (T1 n ++ [N n]))) (hl : (T1 g).length = 96)
    (h2 : F r ⟨putE tm dst (D g), B g :: a1 :: a2 :: a3 :: N g :: T1 g, g + 1⟩ (⟨(0 :: List.range' 5 96) ++ [4], (0 :: List.range' 5 96) ++ [4]⟩ :: tr)) : runR P F r ⟨tm, b :: a1 :: a2 :: a3 :: none :: T, g⟩ dst tr (.call f ds) := by
  refine .inr (.inr ⟨0 :: List.range' 5 96, [4], ds, 1, D, fun n => B n :: (T1 n ++ [N n]), fun _ _ _ h => h, by decide +kernel, by simp [hl], ?_, ?_⟩)
  · have e : lgets (b :: a1 :: a2 :: a3 :: none :: T) (0 :: List.range' 5 96) = b :: T := by
      have h := lgets_tail [b, a1, a2, a3, none] T
      rw [hT] at h
      show b :: lgets _ _ = _
      exact congrArg (b :: ·) h
    show MSpec P f ds (lgets (b :: a1 :: a2 :: a3 :: none :: T) (0 :: List.range' 5 96)) 1 _
    rw [e]
    exact h1
  · have e : updL (b :: a1 :: a2 :: a3 :: none :: T) (zipO ((0 :: List.range' 5 96) ++ [4]) (B g :: (T1 g ++ [N g]))) = B g :: a1 :: a2 :: a3 :: N g :: T1 g := by
      have h := upd_over (T1 g) T [B g, a1, a2, a3, none] (by rw [hT, hl])
      rw [hl] at h
      show updL (B g :: a1 :: a2 :: a3 :: none :: T) (zipO (List.range' 5 96 ++ [4]) (T1 g ++ [N g])) = _
      rw [zipO_app _ _ _ _ (by rw [hl]; simp), updL_app]
      have h' : updL (B g :: a1 :: a2 :: a3 :: none :: T) (zipO (List.range' 5 96) (T1 g)) = B g :: a1 :: a2 :: a3 :: none :: T1 g := h
      rw [h']
      rfl
    show F r ⟨putE tm dst (D g), updL (b :: a1 :: a2 :: a3 :: none :: T) (zipO ((0 :: List.range' 5 96) ++ [4]) (B g :: (T1 g ++ [N g]))), g + 1⟩ _
    rw [e]
    exact h2
theorem lgets_lend {b a1 a2 a3 a4 : Option AObj} {T : HL} (hT : T.length = 96) : lgets (b :: a1 :: a2 :: a3 :: a4 :: T) (0 :: List.range' 5 96 ++ [3]) = b :: (T ++ [a3]) := by
  have h := lgets_tail [b, a1, a2, a3, a4] T
  rw [hT] at h
  rw [lgets_map] at h ⊢
  rw [List.cons_append, List.map_cons, List.map_append]
  exact congrArg (fun q => b :: (q ++ [a3])) h
set_option maxHeartbeats 4000000 in
theorem put0 (n : Nat) (d : Du) (hd : (n : Int) < d.t ∧ d.t ≤ 16777215) (L : WL) (h96 : L.length = 96) (i : Nat) (hi : listOf n d.t = (i : Nat)) (l : List Du) (hl : L[i]? = some l) (hz : l.length < 135107904) (lb nm : Nat → Nat) (nb : Nat) :
    MSpec Try.prog 18 [.ptr 0 nb 97 0 0, .agg d.enc] (some ⟨nb, 97, [.v (.int .i64 n) :: rowc lb nm 0 L]⟩ :: rowh nm 0 L) 1 (fun m dd H => dd = .tup [] ∧ H = some ⟨nb, 97, [.v (.int .i64 n) :: rowc lb (upd nm i m) 0 (L.set i (l ++ [d]))]⟩ :: (lset (rowh nm 0 L) i none ++ [some ⟨m, 2, (l ++ [d]).map Du.enc⟩])) := by
  have hcast : ((d.t.toNat : Nat) : Int) = d.t := by omega
  have hlst := list_spec n d.t.toNat (by omega) (by omega)
  have hi2 : lisR n d.t.toNat 6 = (i : Nat) := hi
  rw [hi2, hcast] at hlst
  have hi96 : i < 96 := by rw [← h96]; exact (List.getElem?_eq_some_iff.1 hl).1
  refine mspec_fn Try.func18 rfl ok_wheel_put okr_wheel_put rfl (by kernel_rfl) ?_
  intro Γ hW0 hN0 hL0
  clear hW0
  unfold x_wheel_put r_wheel_put
  refine auC ?_
  have hnb : nb < Γ.g0 := hN0 0 _ rfl
  have hnm : ∀ k, k < 96 → nm k < Γ.g0 := fun k hk => by
    obtain ⟨x, hx⟩ : ∃ x, L[k]? = some x := ⟨_, List.getElem?_eq_getElem (by omega)⟩
    have := rowh_get (nm := nm) L 0 k x hx
    rw [Nat.zero_add] at this
    exact hN0 (k + 1) _ this
  have hX := dget_ddrop _ _ _ (rowc_get (lb := fun _ => 3) (nm := nm) L 0 i l hl)
  have hXl := rowc_len (lb := fun _ => 3) (nm := nm) L 0
  have hset := fun m => rowc_set (lb := fun _ => 3) (nm := nm) m (l ++ [d]) L 0 i (by omega)
  have hget := rowh_get (nm := nm) L 0 i l hl
  rw [Nat.zero_add] at hX hget
  simp only [Nat.zero_add] at hset
  have hTl : (lset (rowh nm 0 L) i none).length = 96 := by
    have : ∀ (T : HL) (k : Nat) (o : Option AObj), k < T.length → (lset T k o).length = T.length := fun T => by
      induction T with
      | nil => intro k o h; simp at h
      | cons a r ih =>
        intro k o h
        cases k with
        | zero => rfl
        | succ k => show (lset r k o).length + 1 = _; rw [ih k o (by simpa using h)]; rfl
    rw [this _ _ _ (by rw [rowh_len]; omega), rowh_len, h96]
  have hTn : ∀ k o, lget (lset (rowh nm 0 L) i none) k = some o → o.n < Γ.g0 ∧ nfLL Γ.g0 o.xs := fun k o ho => by
    rw [lget_lset] at ho
    split at ho
    · cases ho
    · refine ⟨hN0 (k + 1) o ho, ?_⟩
      by_cases hk : k < 96
      · obtain ⟨x, hx⟩ : ∃ x, L[k]? = some x := ⟨_, List.getElem?_eq_getElem (by omega)⟩
        have := rowh_get (nm := nm) L 0 k x hx
        rw [ho] at this
        rw [Option.some.inj this]
        exact nfLL_map (fun x => by simp [nfL, nfD])
      · have : ∀ (T : HL) (k : Nat), T.length ≤ k → lget T k = none := fun T => by
          induction T with
          | nil => intro k _; rfl
          | cons a r ih =>
            intro k h
            cases k with
            | zero => simp at h
            | succ k => exact ih k (by simpa using h)
        rw [this _ k (by rw [rowh_len]; omega)] at ho
        cases ho
  apply go_le
  · exact le_shift _ _ _ _
  apply go_le
  · exact le_same0 0 (fun _ => 3) rfl
  apply go_le
  · exact le_focus0 i hget
  generalize hTT : lset (rowh nm 0 L) i none = T at *
  generalize rowc (fun _ => 3) nm 0 L = X at *
  have hml : (l.map Du.enc).length = l.length := List.length_map _
  have hrm : room (l.length + 1) 16 := room_due (by omega)
  repeat' (first
    | (refine auS ?_)
    | (first | (simp only [Int.toNat_natCast, splice_one, ddrop_one, Nat.mul_one, hX, hml]) | (with_reducible refine runR_call hlst ?_))
    | (refine auD ?_)
    | (with_reducible refine runR_b (fun h => ?_) (fun h => ?_) <;> first | exact auH | simp only [h, runR_t, runR_f])
    | (with_reducible refine condK_bl ?_ ?_)
    | (with_reducible refine condK_b (fun h => ?_) (fun h => ?_) <;> first | exact auH | skip)
    | (first | (refine runR_n ⟨rfl, rfl, rfl, rfl, hml.symm⟩ ?_) | (refine runR_n ⟨rfl, hrm⟩ ?_) | (refine runR_n ⟨by omega, by omega⟩ ?_) | (refine runR_n ⟨by omega, by omega, rfl⟩ ?_) | fail))
  (all_goals first | exact auP | skip)
  have hln : (l ++ [d]).length = l.length + 1 := by simp
  have hset' := hset (Γ.g0 + 1 + 1)
  rw [hln] at hset'
  rw [hset']
  have hset96 : (L.set i (l ++ [d])).length = 96 := by rw [List.length_set]; exact h96
  refine ret_m (0 :: List.range' 5 96 ++ [3]) [Γ.g0 + 1 + 1] trivial (by decide +kernel) rfl (fun a ha => ?_) (fun m => ?_) (fun m => ?_)
  · simp at ha
    subst ha
    exact ⟨3, _, rfl, rfl⟩
  · show renM _ _ _ (.tup []) _
    simp only [renM, renML]
  · refine Eq.mpr (congrArg (fun q => renH Γ.g0 [Γ.g0 + 1 + 1] m q _) (lgets_lend hTl)) ?_
    have hrn : ∀ k, 0 ≤ k → k < 0 + (L.set i (l ++ [d])).length → renN Γ.g0 [Γ.g0 + 1 + 1] m (upd nm i (Γ.g0 + 1 + 1) k) (upd nm i m k) := fun k _ hk => by
      by_cases e : k = i
      · subst e
        rw [upd_eq, upd_eq]
        exact .inl ⟨0, rfl, rfl⟩
      · rw [upd_ne e, upd_ne e]
        exact .inr ⟨hnm k (by omega), rfl⟩
    refine ⟨⟨.inr ⟨hnb, rfl⟩, rfl, ?_, rfl⟩, renH_app (renH_self hTn) ⟨⟨.inl ⟨0, rfl, rfl⟩, rfl, ?_⟩, rfl⟩⟩
    · simp only [renML, renM]
      exact ⟨⟨trivial, trivial⟩, renC _ 0 hrn⟩
    · have := ren_du (g := Γ.g0) (n := m) (ns := [Γ.g0 + 1 + 1]) (l ++ [d])
      rw [List.map_append] at this ⊢
      exact this
theorem put_spec (pl n : Nat) (d : Du) (hd : (n : Int) < d.t ∧ d.t ≤ 16777215) (L : WL) (h96 : L.length = 96) (i : Nat) (hi : listOf n d.t = (i : Nat)) (l : List Du) (hl : L[i]? = some l) (hz : l.length < 135107904) (lb nm : Nat → Nat) (nb : Nat) :
    MSpec Try.prog 18 [.ptr pl nb 97 0 0, .agg d.enc] (some ⟨nb, 97, [.v (.int .i64 n) :: rowc lb nm 0 L]⟩ :: rowh nm 0 L) 1 (fun m dd H => dd = .tup [] ∧ H = some ⟨nb, 97, [.v (.int .i64 n) :: rowc lb (upd nm i m) 0 (L.set i (l ++ [d]))]⟩ :: (lset (rowh nm 0 L) i none ++ [some ⟨m, 2, (l ++ [d]).map Du.enc⟩])) :=
  mspec_ptr pl (put0 n d hd L h96 i hi l hl hz lb nm nb)
end Go.Proofs.Ytecnjhmpipfldaa
