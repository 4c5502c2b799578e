/-
  Talks of a guard: the one of a road; what clients and servers share.
-/
import Derived.Test.YtegejpieedckiaaProxI
import Derived.Test.YtegejpieedckiaaProxG
namespace Go.Proofs.Ytegejpieedckiaa
set_option linter.unusedVariables false
set_option linter.unusedSimpArgs false
def hasF (g : Sg) (fl : Int) : Bool := !decide (bits .and .i64 g.flags fl = 0)
/-- A segment without options, as it is laid. -/
abbrev Sg.encN (g : Sg) : List DV := [.v (.int .i64 g.fr), .v (.int .i64 g.to), .v (.int .u32 g.seq), .v (.int .u32 g.ack), .v (.int .i64 g.flags), .v (.int .i64 g.win), .v (.int .i64 g.urg), nilS, .v (.string (ByteArray.mk #[]))]
theorem u32_mod (n : Int) : IntKind.u32.wrap n = n % 4294967296 := by simp [IntKind.wrap, IntKind.bits, IntKind.signed]
theorem has_spec (k n : Nat) (g : Sg) (fl : Int) : Spec Try.prog 47 [.ptr k n 7 0 0, dG g, .v (.int .i64 fl)] (.v (.bool (hasF g fl))) := by
  refine hspec_fn Try.func47 rfl ok_proxy_guard_has okr_proxy_guard_has rfl (by kernel_rfl) ?_
  intro Γ hW0 hN0 hL0
  have hW := hW0 rfl
  clear hW0 hN0 hL0
  unfold x_proxy_guard_has r_proxy_guard_has
  refine auC ?_
  repeat' (first
    | (refine auS ?_)
    | fail
    | (refine auD ?_)
    | (with_reducible refine runR_b (fun h => ?_) (fun h => ?_) <;> first | exact auH | simp only [h, runR_t, runR_f])
    | (with_reducible refine condK_bl ?_ ?_)
    | (with_reducible refine condK_b (fun h => ?_) (fun h => ?_) <;> first | exact auH | skip)
    | fail)
  (all_goals first | exact auP | skip)
  all_goals refine auF ?_
  all_goals (try first | refine auR ?_ | exact auR0)
  all_goals (try simp only [hsM] at *)
  all_goals rfl
abbrev SegArg (g : Sg) : Prop := g.opts.length ≤ maxLen ∧ g.opts.length * 24 ≤ 140737488351232 ∧ (∀ t ∈ g.opts, t.d.length ≤ 140737488351232) ∧ (0 ≤ g.seq ∧ g.seq < 4294967296) ∧ (0 ≤ g.ack ∧ g.ack < 4294967296)
abbrev oGu (n : Nat) (k0 k1 sz now : Int) (tk cl sv : DV) : Option AObj := some ⟨n, 7, [cGu k0 k1 sz now tk cl sv]⟩
theorem nf_opt (g : Nat) (l : List Op2) : nfLL g (l.map Op2.enc) := nfLL_map (fun x => by simp [nfL, nfD])
theorem onR_comm (a b : Gd) : onR a.rd b = onR b.rd a := by
  unfold onR
  rw [decide_eq_decide]
  constructor <;> (rintro ⟨h1, h2, h3, h4⟩; exact ⟨h1.symm, h2.symm, h3.symm, h4.symm⟩)
theorem onR_eq {r : Rd} {t : Gd} (h : onR r t = true) : t.rd = r := by
  unfold onR at h
  obtain ⟨h1, h2, h3, h4⟩ := of_decide_eq_true h
  obtain ⟨a, b, c, d⟩ := r
  dsimp only at h1 h2 h3 h4
  subst h1 h2 h3 h4
  rfl
abbrev Apart (ms : List Gd) : Prop := ms.Pairwise (fun o t => onR t.rd o = false)
theorem apart_of : ∀ (ms pre : List Gd), goodG refP pre ms = true → Apart ms ∧ (∀ t ∈ ms, ∀ o ∈ pre, onR t.rd o = false) ∧ ∀ t ∈ ms, 0 ≤ t.at' ∧ t.at' ≤ 1099511627776
  | [], pre, _ => ⟨List.Pairwise.nil, fun t ht => (by simp at ht), fun t ht => (by simp at ht)⟩
  | m :: r, pre, h => by
    simp only [goodG, Bool.and_eq_true] at h
    obtain ⟨h1, h2⟩ := h
    obtain ⟨i1, i2, i3⟩ := apart_of r (pre ++ [m]) h2
    unfold refP at h1
    simp only [Bool.and_eq_true, decide_eq_true_eq, List.all_eq_true, Bool.not_eq_true', Bool.or_eq_false_iff] at h1
    refine ⟨List.Pairwise.cons (fun t ht => i2 t ht m (by simp)) i1, fun t ht o ho => ?_, fun t ht => ?_⟩
    · rcases List.mem_cons.1 ht with rfl | ht
      · exact (h1.2 o ho).1
      · exact i2 t ht o (by simp [ho])
    · rcases List.mem_cons.1 ht with rfl | ht
      · exact h1.1.1.2
      · exact i3 t ht
theorem fnd_none (r : Rd) : ∀ (l : List Gd) (a : Gd × Bool), (∀ o ∈ l, onR r o = false) → l.foldl (fun a t => if onR r t = true then (t, true) else a) a = a
  | [], a, _ => rfl
  | o :: l, a, h => by
    rw [List.foldl_cons, if_neg (by rw [h o (by simp)]; simp)]
    exact fnd_none r l a (fun y hy => h y (by simp [hy]))
theorem filter_all {p : Gd → Bool} : ∀ (l : List Gd), (∀ o ∈ l, p o = true) → l.filter p = l := fun l h => List.filter_eq_self.2 h
theorem roadL (q : List Gd) (r : Rd) (hp : Apart q) : (firstI (onR r) q 0 = -1 ∧ (fndL r q).2 = false) ∨ ∃ i t, q[i]? = some t ∧ firstI (onR r) q 0 = (i : Nat) ∧ butI i q = butR t.rd q ∧ fndL r q = (t, true) := by
  rcases firstI_cases (onR r) q 0 with ⟨h1, h2⟩ | ⟨i, t, h1, h2, h3, h4⟩
  · refine .inl ⟨h1, ?_⟩
    unfold fndL
    rw [fnd_none r q _ h2]
  · refine .inr ⟨i, t, h1, by rw [h4, Nat.zero_add], ?_⟩
    have hi := (List.getElem?_eq_some_iff.1 h1).1
    have hrd := onR_eq h2
    subst hrd
    have e : q = q.take i ++ t :: q.drop (i + 1) := by
      conv => lhs; rw [← List.take_append_drop i q, List.drop_eq_getElem_cons hi, show q[i] = t from Option.some.inj ((List.getElem?_eq_getElem hi).symm.trans h1)]
    have hB : ∀ o ∈ q.drop (i + 1), onR t.rd o = false := by
      have hp2 := hp
      rw [e] at hp2
      have := (List.pairwise_append.1 hp2).2.1
      intro o ho
      rw [onR_comm]
      exact (List.pairwise_cons.1 this).1 o ho
    constructor
    · unfold butI butR
      conv => rhs; rw [e]
      rw [List.filter_append, List.filter_cons, filter_all (q.take i) (fun o ho => by rw [h3 o ho]; rfl), filter_all (q.drop (i + 1)) (fun o ho => by rw [hB o ho]; rfl)]
      simp [onR_refl]
    · unfold fndL
      conv => lhs; rw [e]
      rw [List.foldl_append, List.foldl_cons, if_pos h2]
      exact fnd_none t.rd _ _ hB
theorem proxErr_ok {sz : Int} {ms : List Gd} (h : proxErr sz ms = 0) : ms.length ≤ 64 ∧ goodG refP [] ms = true := by
  unfold proxErr at h
  split at h
  · split at h
    · cases h
    · split at h
      · rename_i h1 h2 h3
        exact ⟨by omega, h3⟩
      · cases h
  · cases h
theorem apart_yng {now : Int} {ms : List Gd} (h : Apart ms) : Apart (yngG now ms) := List.Pairwise.filter _ h
theorem yng_mem {now : Int} {ms : List Gd} {t : Gd} (h : t ∈ yngG now ms) : t ∈ ms := (List.mem_filter.1 h).1
theorem lastA_nn {ms : List Gd} (h : ∀ t ∈ ms, 0 ≤ t.at') : 0 ≤ lastA ms := by
  unfold lastA
  cases hq : ms[ms.length - 1]? with
  | none => exact Int.le_refl _
  | some t => exact h t (List.mem_of_getElem? hq)
theorem ref_ok {sz now : Int} {ms : List Gd} {r : Rd} {g : Sg} (h : refG sz ms r g now = 0) : ms.length ≤ 64 ∧ Apart ms ∧ (∀ t ∈ ms, 0 ≤ t.at' ∧ t.at' ≤ 1099511627776) ∧ (0 ≤ now ∧ now ≤ 1099511627776) := by
  unfold refG at h
  split at h
  · rename_i h1; exact (h1 h).elim
  rename_i h1
  obtain ⟨h2, h3⟩ := proxErr_ok (Decidable.not_not.1 h1)
  obtain ⟨h4, -, h5⟩ := apart_of ms [] h3
  split at h
  · cases h
  rename_i h6
  have h7 := Decidable.not_not.1 h6
  unfold refC at h7
  have := lastA_nn (fun t ht => (h5 t ht).1)
  exact ⟨h2, h4, h5, by omega, h7.2.1.2⟩
theorem has_pos (g : Sg) (fl : Int) (h : 0 ≤ bits .and .i64 g.flags fl) : decide (0 < bits .and .i64 g.flags fl) = hasF g fl := by
  unfold hasF
  by_cases q : bits .and .i64 g.flags fl = 0
  · simp [q]
  · have : 0 < bits .and .i64 g.flags fl := by omega
    simp [q, this]
theorem and_nn (p : Int) (m : Nat) (hm : m < 9223372036854775808) : 0 ≤ bits .and .i64 p (m : Nat) := by
  show 0 ≤ IntKind.i64.wrap ((BitVec.ofInt 64 p &&& BitVec.ofInt 64 ((m : Nat) : Int)).toNat : Int)
  rw [BitVec.ofInt_natCast, BitVec.toNat_and, BitVec.toNat_ofNat]
  have h1 : (BitVec.ofInt 64 p).toNat &&& m % 2 ^ 64 ≤ m % 2 ^ 64 := Nat.and_le_right
  have h2 : m % 2 ^ 64 = m := Nat.mod_eq_of_lt (by omega)
  rw [h2] at h1 ⊢
  rw [IntWalk.i64_in _ (by omega)]
  omega
theorem but1_spec (k0 k1 sz : Int) (ms : List Gd) (r : Rd) (t1 : Gd) (fu : Bool) (k n : Nat) (hl : ms.length ≤ 64) : HSpec Try.prog 22 [dPx k0 k1 sz ms, .agg r.enc, .sl k n 9 0 1 fu] [some ⟨n, 9, [t1.enc]⟩] (fun d H => d = dPx k0 k1 sz (butR r ms ++ [t1]) ∧ H = [some ⟨n, 9, [t1.enc]⟩]) := by
  refine hspec_args (but1 k0 k1 sz ms r t1 fu n hl) (fun K w vs hv => argsRel_mem hv rfl (fun i d e h1 h2 v hv => ?_))
  match i, h1, h2 with
  | 0, h1, h2 =>
    obtain rfl := Option.some.inj h1
    obtain rfl := Option.some.inj h2
    exact hv
  | 1, h1, h2 =>
    obtain rfl := Option.some.inj h1
    obtain rfl := Option.some.inj h2
    exact hv
  | 2, h1, h2 =>
    obtain rfl := Option.some.inj h1
    obtain rfl := Option.some.inj h2
    exact sl_label hv
  | i + 3, h1, _ => simp at h1
abbrev U32 (x : Int) : Prop := 0 ≤ x ∧ x < 4294967296
abbrev GdOk (t : Gd) : Prop := U32 t.seq ∧ U32 t.ck ∧ U32 t.dl
theorem one_row (a : List DV) : xtake (xdrop [a] 0) 1 = [a] := rfl
end Go.Proofs.Ytegejpieedckiaa
