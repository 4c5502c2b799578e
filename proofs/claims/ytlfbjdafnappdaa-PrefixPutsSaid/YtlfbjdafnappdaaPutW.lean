/-
  Tries in the program: putting a row into a tree of the call's own.
-/
import Derived.Test.YtlfbjdafnappdaaPutZ
import Derived.Laws.BitsAll
namespace Go.Proofs.Ytlfbjdafnappdaa
set_option linter.unusedVariables false
set_option linter.unusedSimpArgs false
theorem pow_int (k : Nat) : (2 : Int) ^ k = ((2 ^ k : Nat) : Int) := by simp
theorem min_u32 {k : Nat} (h : k ≤ 32) : min k IntKind.u32.bits = k := Nat.min_eq_left h
theorem min_u64 {k : Nat} (h : k ≤ 64) : min k IntKind.u64.bits = k := Nat.min_eq_left h
theorem shr_u32 (a k : Nat) : (a : Int).fdiv (2 ^ k) = ((a / 2 ^ k : Nat) : Int) := by
  rw [pow_int, Int.fdiv_eq_ediv_of_nonneg _ (Int.natCast_nonneg _), Int.natCast_ediv]
theorem and1_u32 (q : Nat) (h : q < 4294967296) : bits .and .u32 (q : Int) 1 = ((q % 2 : Nat) : Int) := by
  have := Go.u32_and_nat q 1 h (by decide)
  rw [Nat.and_one_is_mod] at this
  exact this
theorem bit_spec (a d : Nat) (ha : a < 4294967296) (hd : d ≤ 31) : Spec Try.prog 21 [.v (.int .u32 (a : Nat)), .v (.int .i64 (d : Nat))] (.v (.int .i64 ((a / 2 ^ (31 - d) % 2 : Nat) : Int))) := by
  have e1 : IntKind.i64.wrap (31 - (d : Int)) = ((31 - d : Nat) : Int) := by rw [IntWalk.i64_in _ (by omega)]; omega
  have e2 := min_u32 (show 31 - d ≤ 32 by omega)
  have e3 := shr_u32 a (31 - d)
  have hq := Nat.div_le_self a (2 ^ (31 - d))
  have e4 := and1_u32 (a / 2 ^ (31 - d)) (by omega)
  have e5 : IntKind.i64.wrap ((a / 2 ^ (31 - d) % 2 : Nat) : Int) = ((a / 2 ^ (31 - d) % 2 : Nat) : Int) := by
    generalize a / 2 ^ (31 - d) = q
    exact IntWalk.i64_in _ (by omega)
  refine hspec_fn Try.func21 rfl ok_prefix_bit okr_prefix_bit rfl (by kernel_rfl) ?_
  intro Γ hW0 hN0 hL0
  have hW := hW0 rfl
  clear hW0 hN0 hL0
  unfold x_prefix_bit r_prefix_bit
  with_reducible refine auC ?_
  repeat' (first
    | (with_reducible refine auS ?_)
    | (simp only [e1, e2, e3, e4, e5, Int.toNat_natCast])
    | (with_reducible refine auD ?_)
    | ((with_reducible refine auB ?_ ?_); all_goals first | (intro h; first | exact auH | simp only [h, runR_t, runR_f] | skip) | skip)
    | fail)
  (all_goals first | exact auP | skip)
  all_goals with_reducible refine auF ?_
  all_goals (try first | with_reducible refine auR ?_ | exact auR0)
  all_goals (try simp only [hsM] at *)
abbrev dNt (a l : Nat) : DV := .agg [.v (.int .u32 (a : Nat)), .v (.int .i64 (l : Nat))]
/-! Objects in pieces. -/
theorem lgets_seg (A S B : HL) : lgets (A ++ (S ++ B)) (List.range' A.length S.length) = S := by
  induction S generalizing A with
  | nil => rfl
  | cons s S ih =>
    rw [List.length_cons, List.range'_succ]
    have e : lget (A ++ (s :: S ++ B)) A.length = s := by
      induction A with
      | nil => rfl
      | cons a A ih => exact ih
    have h := ih (A ++ [s])
    rw [List.append_assoc, List.length_append] at h
    show lget (A ++ (s :: S ++ B)) A.length :: lgets _ _ = _
    rw [e]
    exact congrArg (s :: ·) h
theorem lget_past : ∀ (H : HL) (k : Nat), H.length ≤ k → lget H k = none
  | [], k, _ => by cases k <;> rfl
  | a :: H, 0, h => by simp at h
  | a :: H, k + 1, h => lget_past H k (by simpa using h)
theorem lgets_past (H : HL) : ∀ (N e : Nat), H.length ≤ e → lgets H (List.range' e N) = List.replicate N none
  | 0, e, _ => rfl
  | N + 1, e, h => by
    rw [List.range'_succ, List.replicate_succ]
    show lget H e :: lgets H (List.range' (e + 1) N) = _
    rw [lget_past H e h, lgets_past H N (e + 1) (by omega)]
theorem lgets_two (H : HL) (a b : List Nat) : lgets H (a ++ b) = lgets H a ++ lgets H b := by
  induction a with
  | nil => rfl
  | cons k a ih => exact congrArg (lget H k :: ·) ih
theorem ren_nones (g : Nat) (ns : List Nat) (n : Nat) : ∀ R : Nat, renH g ns n (List.replicate R none) (List.replicate R none)
  | 0 => rfl
  | R + 1 => by
    rw [List.replicate_succ]
    exact ren_nones g ns n R
abbrev nsN (l r : Tr) (a0 al ar : Nat) : List Nat := a0 :: (List.range' al l.size ++ List.range' ar r.size)
theorem sp_mem (T : Tr) (m a : Nat) (h1 : m ≤ a) (h2 : a < m + T.size) : ∃ o, some o ∈ spH T m ∧ o.n = a := by
  obtain ⟨o, o1, o2⟩ := sp_get T m (a - m) (by omega)
  refine ⟨o, ?_, by omega⟩
  have : ∀ (H : HL) (k : Nat) (o : AObj), lget H k = some o → some o ∈ H := fun H => by
    induction H with
    | nil => intro k o h; cases k <;> cases h
    | cons a H ih =>
      intro k o h
      cases k with
      | zero => exact List.mem_cons.2 (.inl h.symm)
      | succ k => exact List.mem_cons_of_mem _ (ih k o h)
  exact this _ _ _ o1
/-- A tree handed back, its root at one place, its parts at others. -/
theorem ret_node {Γ : Gm} {xr : List XR} {m0 : Nat} {st : St} {D : Nat → DV} (l r : Tr) (s : Bool) (v : Int) (a0 al ar R : Nat) (k0 : List Nat) (kt : Nat) (kl kr : List Nat) (h1 : resOk st xr) (h2 : (k0 ++ kt :: (kl ++ kr)).Nodup)
    (h3 : lgets st.H k0 = none :: List.replicate R none) (ht : lget st.H kt = some ⟨a0, 4, [[spD l al, spD r ar, .v (.bool s), .v (.int .i64 v)]]⟩) (hl : lgets st.H kl = spH l al) (hr : lgets st.H kr = spH r ar)
    (hD : ∀ n, renM Γ.g0 (nsN l r a0 al ar) n (resV (resDs st xr)) (D n)) : RetQM Γ xr m0 (Tr.node l r s v).size (fun n d H => d = D n ∧ H = none :: (List.replicate R none ++ spH (.node l r s v) n)) st := by
  have hk : lgets st.H (k0 ++ kt :: (kl ++ kr)) = (none :: List.replicate R none) ++ (some ⟨a0, 4, [[spD l al, spD r ar, .v (.bool s), .v (.int .i64 v)]]⟩ :: (spH l al ++ spH r ar)) := by
    rw [lgets_two, h3]
    show _ ++ (lget st.H kt :: lgets st.H (kl ++ kr)) = _
    rw [ht, lgets_two, hl, hr]
  refine ret_m (k0 ++ kt :: (kl ++ kr)) (nsN l r a0 al ar) h1 h2 ?_ (fun a ha => ?_) hD (fun n => ?_)
  · simp only [nsN, Tr.size, List.length_cons, List.length_append, List.length_range']
    omega
  · have hex : ∃ o, some o ∈ lgets st.H (k0 ++ kt :: (kl ++ kr)) ∧ o.n = a := by
      rw [hk]
      rcases List.mem_cons.1 ha with rfl | ha
      · exact ⟨_, List.mem_append_right _ List.mem_cons_self, rfl⟩
      · rcases List.mem_append.1 ha with ha | ha
        · obtain ⟨q1, q2⟩ := List.mem_range'_1.1 ha
          obtain ⟨o, o1, o2⟩ := sp_mem l al a q1 q2
          exact ⟨o, List.mem_append_right _ (List.mem_cons_of_mem _ (List.mem_append_left _ o1)), o2⟩
        · obtain ⟨q1, q2⟩ := List.mem_range'_1.1 ha
          obtain ⟨o, o1, o2⟩ := sp_mem r ar a q1 q2
          exact ⟨o, List.mem_append_right _ (List.mem_cons_of_mem _ (List.mem_append_right _ o1)), o2⟩
    obtain ⟨o, o1, o2⟩ := hex
    obtain ⟨i, hi⟩ := List.mem_iff_getElem?.1 o1
    obtain ⟨k, -, hk2⟩ := lgets_get _ _ _ _ hi
    exact ⟨k, o, hk2, o2⟩
  · rw [hk]
    have hL := ren_tr l Γ.g0 (nsN l r a0 al ar) n al (n + 1) (fun k hk => .inl ⟨1 + k, by
      show (a0 :: (List.range' al l.size ++ List.range' ar r.size))[1 + k]? = _
      rw [Nat.add_comm 1, List.getElem?_cons_succ, List.getElem?_append_left (by simpa using hk), List.getElem?_range' hk, Nat.one_mul], by omega⟩)
    have hR := ren_tr r Γ.g0 (nsN l r a0 al ar) n ar (n + 1 + l.size) (fun k hk => .inl ⟨1 + (l.size + k), by
      show (a0 :: (List.range' al l.size ++ List.range' ar r.size))[1 + (l.size + k)]? = _
      rw [Nat.add_comm 1, List.getElem?_cons_succ, List.getElem?_append_right (by simp), List.length_range', Nat.add_sub_cancel_left, List.getElem?_range' hk, Nat.one_mul], by omega⟩)
    refine renH_app (ren_nones Γ.g0 _ n (R + 1)) ⟨⟨.inl ⟨0, rfl, rfl⟩, rfl, ⟨⟨hL.1, hR.1, ⟨rfl, trivial⟩, ⟨rfl, trivial⟩, rfl⟩, rfl⟩⟩, renH_app hL.2 hR.2⟩
end Go.Proofs.Ytlfbjdafnappdaa
