/-
  Tries in the program: Find.
-/
import Derived.Test.YtlfbjdafnappdaaTriZ
namespace Go.Proofs.Ytlfbjdafnappdaa
set_option linter.unusedVariables false
set_option linter.unusedSimpArgs false
abbrev dNt (a l : Nat) : DV := .agg [.v (.int .u32 (a : Nat)), .v (.int .i64 (l : Nat))]
abbrev ntC (a l : Nat) : List DV := [.v (.int .u32 (a : Nat)), .v (.int .i64 (l : Nat))]
/-- The best so far. -/
abbrev Bst := Option (Nat × Int × Tr × Tr)
def Bst.up (b : Bst) : Option (Nat × Int) := b.map (fun x => (x.1, x.2.1))
def bstD : Bst → DV
  | none => .v (.pointer none)
  | some (d, v, l, r) => .rptr [dTr l, dTr r, .v (.bool true), .v (.int .i64 v)]
def bA (a : Nat) : Bst → Nat
  | none => 0
  | some (d, v, l, r) => netA (bitsL a d)
def bL : Bst → Nat
  | none => 0
  | some (d, v, l, r) => d
abbrev bstC (a : Nat) (b : Bst) : List DV := ntC (bA a b) (bL b)
def dFind (a : Nat) : Option (Nat × Int) → DV
  | none => .tup [dNt 0 0, .v (.int .i64 0), .v (.int .i64 7)]
  | some (d, v) => .tup [dNt (netA (bitsL a d)) d, .v (.int .i64 v), .v (.int .i64 0)]
theorem dTr_any (T : Tr) : (match dTr T with | DV.any => True | e => dTr T = e) := by cases T <;> exact rfl
theorem bst_any (b : Bst) : (match bstD b with | DV.any => True | e => bstD b = e) := by cases b <;> exact rfl
theorem find_bad (L : List Nd) (c : Bool) (T : DV) (a : Nat) (e : Int) (he : e ≠ 0) (hrd : Spec Try.prog 19 [dTrie L c] (.tup [T, .v (.int .i64 e)])) : Spec Try.prog 5 [dTrie L c, .v (.int .u32 (a : Nat))] (.tup [dNt 0 0, .v (.int .i64 0), .v (.int .i64 e)]) := by
  refine hspec_fn Try.func5 rfl ok_prefix_Find okr_prefix_Find rfl (by kernel_rfl) ?_
  intro Γ hW0 hN0 hL0
  have hW := hW0 rfl
  clear hW0 hN0 hL0
  unfold x_prefix_Find r_prefix_Find
  with_reducible refine auC ?_
  repeat' (first
    | (with_reducible refine auS ?_)
    | (with_reducible refine runR_call hrd ?_)
    | (with_reducible refine auD ?_)
    | ((with_reducible refine auB ?_ ?_); all_goals first | (intro h; first | exact auH | simp only [h, runR_t, runR_f] | skip) | skip)
    | fail)
  (all_goals first | exact auP | skip)
  all_goals with_reducible refine auF ?_
  all_goals (try first | with_reducible refine auR ?_ | exact auR0)
  all_goals (try simp only [hsM] at *)
  all_goals rfl
set_option maxHeartbeats 2000000 in
theorem find_good (L : List Nd) (c : Bool) (T0 : Tr) (a : Nat) (ha : a < 4294967296) (hd0 : T0.deep ≤ 33) (hrd : Spec Try.prog 19 [dTrie L c] (.tup [dTr T0, .v (.int .i64 0)])) : Spec Try.prog 5 [dTrie L c, .v (.int .u32 (a : Nat))] (dFind a (findT a T0 0 none)) := by
  generalize hF : findT a T0 0 none = F
  refine hspec_fn Try.func5 rfl ok_prefix_Find okr_prefix_Find rfl (by kernel_rfl) ?_
  intro Γ hW0 hN0 hL0
  have hW := hW0 rfl
  clear hW0 hN0 hL0
  unfold x_prefix_Find r_prefix_Find
  with_reducible refine auC ?_
  repeat' (first
    | (with_reducible refine auS ?_)
    | (with_reducible refine runR_call hrd ?_)
    | (with_reducible refine auD ?_)
    | ((with_reducible refine auB ?_ ?_); all_goals first | (intro h; first | exact auH | simp only [h, runR_t, runR_f] | skip) | skip)
    | fail)
  (all_goals first | exact auP | skip)
  refine go_loopH (α := Tr × Nat × Bst) (fun y => [(⟨.d0, .d0, .d7⟩, dTr y.1), (⟨.d0, .d1, .d1⟩, bstD y.2.2), (⟨.d0, .d1, .d3⟩, .v (.int .i64 (y.2.1 : Nat)))]) (fun y => [(2, some ⟨Γ.g0 + 2, 2, [bstC a y.2.2]⟩)]) (fun _ => Γ.g0 + 3) (fun y => 33 - y.2.1) (fun y => y.2.1 + y.1.deep ≤ 33 ∧ y.2.1 ≤ 33 ∧ findT a y.1 y.2.1 y.2.2.up = F) (T0, 0, none) ⟨by show 0 + T0.deep ≤ 33; omega, by show 0 ≤ 33; omega, hF⟩ ?_ ?_
  · skip
    refine le_mk ?_ ?_ (Nat.le_refl _)
    all_goals first | with_reducible refine auE ?_ | exact auE0
    all_goals (repeat' (first | exact trivial | exact rfl | apply And.intro))
    all_goals first
      | exact dTr_any _
      | rfl
  rintro ⟨T, d, b⟩ ⟨hd, hd', hT⟩
  dsimp only at hd hd' hT ⊢
  with_reducible refine auL ?_
  cases T with
  | nil =>
    have hF : b.up = F := hT
    subst hF
    cases b with
    | none =>
      show Go _ _ _ (RetQ _ _ _ (fun d H => d = .tup [dNt 0 0, .v (.int .i64 0), .v (.int .i64 7)] ∧ H = [])) _ _ _
      simp only [dTr, bstD, bA, bL]
      repeat' (first
        | (with_reducible refine auS ?_)
        | fail
        | (with_reducible refine auD ?_)
        | ((with_reducible refine auB ?_ ?_); all_goals first | (intro h; first | exact auH | simp only [h, runR_t, runR_f] | skip) | skip)
        | fail)
      (all_goals first | exact auP | skip)
      all_goals with_reducible refine auF ?_
      all_goals (try first | with_reducible refine auR ?_ | exact auR0)
      all_goals (try simp only [hsM] at *)
      all_goals rfl
    | some b =>
      obtain ⟨bd, bv, bl, br⟩ := b
      show Go _ _ _ (RetQ _ _ _ (fun d H => d = .tup [dNt (netA (bitsL a bd)) bd, .v (.int .i64 bv), .v (.int .i64 0)] ∧ H = [])) _ _ _
      simp only [dTr, bstD, bA, bL]
      repeat' (first
        | (with_reducible refine auS ?_)
        | fail
        | (with_reducible refine auD ?_)
        | ((with_reducible refine auB ?_ ?_); all_goals first | (intro h; first | exact auH | simp only [h, runR_t, runR_f] | skip) | skip)
        | fail)
      (all_goals first | exact auP | skip)
      all_goals with_reducible refine auF ?_
      all_goals (try first | with_reducible refine auR ?_ | exact auR0)
      all_goals (try simp only [hsM] at *)
      all_goals rfl
  | node l r s v =>
    simp only [Tr.deep] at hd
    have e1 : (d : Int) = 32 ↔ d = 32 := by omega
    have hw : IntKind.i64.wrap ((d : Int) + 1) = ((d + 1 : Nat) : Int) := (IntWalk.i64_in _ (by omega)).trans (by omega)
    have hdl : d + 1 + l.deep ≤ 33 := by omega
    have hdr : d + 1 + r.deep ≤ 33 := by omega
    have hfs := first_spec a d ha (by omega)
    obtain ⟨b', hb', hT'⟩ : ∃ b' : Bst, b' = (if s = true then some (d, v, l, r) else b) ∧ (if a / 2 ^ (31 - d) % 2 = 0 then findT a l (d + 1) b'.up else findT a r (d + 1) b'.up) = F := by
      refine ⟨_, rfl, ?_⟩
      cases s <;> exact hT
    by_cases h32 : d = 32
    · have hl : l = .nil := by
        cases l with
        | nil => rfl
        | node => simp only [Tr.deep] at hdl; omega
      have hr : r = .nil := by
        cases r with
        | nil => rfl
        | node => simp only [Tr.deep] at hdr; omega
      subst hl hr
      have hF' : b'.up = F := by rw [← hT']; unfold findT; exact (ite_self _).symm
      subst hF'
      subst h32
      cases s with
      | true =>
        subst hb'
        show Go _ _ _ (RetQ _ _ _ (fun d H => d = .tup [dNt (netA (bitsL a 32)) 32, .v (.int .i64 v), .v (.int .i64 0)] ∧ H = [])) _ _ _
        simp only [dTr]
        repeat' (first
          | (with_reducible refine auS ?_)
          | (with_reducible refine runR_call hfs ?_)
          | (with_reducible refine auD ?_)
          | ((with_reducible refine auB ?_ ?_); all_goals first | (intro h; first | exact auH | simp only [h, runR_t, runR_f] | skip) | skip)
          | fail)
        (all_goals first | exact auP | skip)
        all_goals with_reducible refine auF ?_
        all_goals (try first | with_reducible refine auR ?_ | exact auR0)
        all_goals (try simp only [hsM] at *)
      | false =>
        obtain rfl : b = b' := hb'.symm
        cases b with
        | none =>
          show Go _ _ _ (RetQ _ _ _ (fun d H => d = .tup [dNt 0 0, .v (.int .i64 0), .v (.int .i64 7)] ∧ H = [])) _ _ _
          simp only [dTr, bstD, bA, bL]
          repeat' (first
            | (with_reducible refine auS ?_)
            | fail
            | (with_reducible refine auD ?_)
            | ((with_reducible refine auB ?_ ?_); all_goals first | (intro h; first | exact auH | simp only [h, runR_t, runR_f] | skip) | skip)
            | fail)
          (all_goals first | exact auP | skip)
          all_goals with_reducible refine auF ?_
          all_goals (try first | with_reducible refine auR ?_ | exact auR0)
          all_goals (try simp only [hsM] at *)
          all_goals rfl
        | some b =>
          obtain ⟨bd, bv, bl, br⟩ := b
          show Go _ _ _ (RetQ _ _ _ (fun d H => d = .tup [dNt (netA (bitsL a bd)) bd, .v (.int .i64 bv), .v (.int .i64 0)] ∧ H = [])) _ _ _
          simp only [dTr, bstD, bA, bL]
          repeat' (first
            | (with_reducible refine auS ?_)
            | fail
            | (with_reducible refine auD ?_)
            | ((with_reducible refine auB ?_ ?_); all_goals first | (intro h; first | exact auH | simp only [h, runR_t, runR_f] | skip) | skip)
            | fail)
          (all_goals first | exact auP | skip)
          all_goals with_reducible refine auF ?_
          all_goals (try first | with_reducible refine auR ?_ | exact auR0)
          all_goals (try simp only [hsM] at *)
          all_goals rfl
    · have hbs := bit_spec a d ha (by omega)
      rcases Nat.mod_two_eq_zero_or_one (a / 2 ^ (31 - d)) with h0 | h0
      all_goals
        rw [h0] at hbs hT'
        simp only [reduceIte, Nat.one_ne_zero] at hT'
        cases s
      all_goals
          subst hb'
          simp only [dTr]
          repeat' (first
            | (with_reducible refine auS ?_)
            | (first | (simp only [Int.toNat_natCast, Nat.zero_mul, Nat.one_mul]) | (with_reducible refine runR_call hfs ?_) | (with_reducible refine runR_call hbs ?_))
            | (with_reducible refine auD ?_)
            | ((with_reducible refine auB ?_ ?_); all_goals first | (intro h; first | exact auH | simp only [h, runR_t, runR_f] | skip) | skip)
            | fail)
          (all_goals first | exact auP | skip)
          first
            | refine nx_loop ⟨(l, d + 1, _), ⟨hdl, (show d + 1 ≤ 33 by omega), hT'⟩, (show 33 - (d + 1) < 33 - d by omega), ?_⟩
            | refine nx_loop ⟨(r, d + 1, _), ⟨hdr, (show d + 1 ≤ 33 by omega), hT'⟩, (show 33 - (d + 1) < 33 - d by omega), ?_⟩
          (refine le_mk ?_ ?_ (Nat.le_refl _)); (all_goals first | with_reducible refine auE ?_ | exact auE0); (all_goals (repeat' (first | exact trivial | exact rfl | apply And.intro)))
          all_goals first
            | exact dTr_any _
            | exact bst_any _
            | rfl
            | exact dint hw
end Go.Proofs.Ytlfbjdafnappdaa
