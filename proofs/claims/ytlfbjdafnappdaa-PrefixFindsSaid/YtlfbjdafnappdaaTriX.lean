/-
  Tries in the program: how nodes grow into a tree, and what reading a trie answers.
-/
import Derived.Test.YtlfbjdafnappdaaCodeX
import Derived.Test.YtlfbjdafnappdaaGen
import Derived.Test.YtlfbjdafnappdaaTriT
namespace Go.Proofs.Ytlfbjdafnappdaa
set_option linter.unusedVariables false
set_option linter.unusedSimpArgs false
abbrev Nd.enc (x : Nd) : List DV := [.v (.int .i64 x.a), .v (.int .i64 x.b), .v (.bool x.s), .v (.int .i64 x.v)]
def dTr : Tr → DV
  | .nil => .v (.pointer none)
  | .node l r s v => .rptr [dTr l, dTr r, .v (.bool s), .v (.int .i64 v)]
def growD : Option Tr → DV
  | none => .v (.pointer none)
  | some T => dTr T
theorem dTr_nf : ∀ (T : Tr) (g : Nat), nfD g (dTr T)
  | .nil, g => by simp [dTr, nfD]
  | .node l r s v, g => by simp [dTr, nfD, nfL, dTr_nf l g, dTr_nf r g]
set_option maxHeartbeats 1000000 in
theorem bare_spec (l r : Tr) (s : Bool) (v : Int) : Spec Try.prog 39 [dTr (.node l r s v)] (.v (.bool (bareT (.node l r s v)))) := by
  unfold dTr bareT
  cases s <;> cases l <;> cases r <;> simp only [dTr, Tr.size]
  all_goals
    refine hspec_fn Try.func39 rfl ok_prefix_bare okr_prefix_bare rfl (by kernel_rfl) ?_
    intro Γ hW0 hN0 hL0
    have hW := hW0 rfl
    clear hW0 hN0 hL0
    unfold x_prefix_bare r_prefix_bare
    with_reducible refine auC ?_
    repeat' (first
      | (with_reducible refine auS ?_)
      | fail
      | (with_reducible refine auD ?_)
      | ((with_reducible refine auB ?_ ?_); all_goals first | (intro h; first | exact auH | simp only [h, runR_t, runR_f] | skip) | skip)
      | fail)
    (all_goals first | exact auP | skip)
    all_goals first
      | (exfalso; simp at h; done)
      | skip
    all_goals with_reducible refine auF ?_
    all_goals (try first | with_reducible refine auR ?_ | exact auR0)
    all_goals (try simp only [hsM] at *)
    all_goals first
      | rfl
      | (refine dbool ?_; simp)
theorem kid_none {L : List Nd} {g : Nat → Option Tr × Nat} {n : Int} {i : Nat} (h0 : ¬ n = 0) (h : ¬ (n = ((i + 1 : Nat) : Int) ∧ i + 1 < L.length)) : kid L g n i = (none, i + 1) := by unfold kid; rw [if_neg h0, if_neg h]
theorem kid_some {L : List Nd} {g : Nat → Option Tr × Nat} {n : Int} {i : Nat} (h0 : ¬ n = 0) (h : n = ((i + 1 : Nat) : Int) ∧ i + 1 < L.length) : kid L g n i = g (i + 1) := by unfold kid; rw [if_neg h0, if_pos h]
theorem growG_succ (L : List Nd) (f i : Nat) (x : Nd) (hx : L[i]? = some x) : growG L (f + 1) i = match kid L (growG L f) x.a i with
    | (none, j) => (none, j)
    | (some l, j) =>
      match kid L (growG L f) x.b j with
      | (none, k) => (none, k)
      | (some r, k) => (some (.node l r x.s x.v), k) := by
  rw [← getD_of hx]
  rfl
abbrev GrowS (L : List Nd) (c : Bool) (g n i : Nat) : Prop := HSpec Try.prog 38 [.snap 4 (L.map Nd.enc) c, .ptr 0 n 1 0 0, .v (.int .i64 ((33 - g : Nat) : Int))] [some ⟨n, 1, [[.v (.int .i64 (i : Nat))]]⟩] (fun d H => d = growD (growG L g i).1 ∧ H = [some ⟨n, 1, [[.v (.int .i64 ((growG L g i).2 : Nat))]]⟩])
set_option maxHeartbeats 2000000 in
theorem grow_spec (L : List Nd) (c : Bool) (hl : L.length ≤ 500) (f : Nat) : ∀ (n i : Nat), f ≤ 32 → i < L.length → GrowS L c (f + 1) n i := by
  induction f with
  | zero =>
    intro n i hf hi
    obtain ⟨x, hx⟩ : ∃ x, L[i]? = some x := ⟨_, List.getElem?_eq_getElem hi⟩
    have ex := xget_map Nd.enc L i x hx
    have hgs := growG_succ L 0 i x hx
    unfold GrowS
    generalize hG : growG L (0 + 1) i = G at *
    refine hspec_fn Try.func38 rfl ok_prefix_grow okr_prefix_grow rfl (by kernel_rfl) ?_
    intro Γ hW0 hN0 hL0
    clear hW0
    unfold x_prefix_grow r_prefix_grow
    with_reducible refine auC ?_
    have hn : n < Γ.g0 := hN0 0 _ rfl
    repeat' (first
      | (with_reducible refine auS ?_)
      | (first | (simp only [Int.toNat_natCast, ex]))
      | (with_reducible refine auD ?_)
      | ((with_reducible refine auB ?_ ?_); all_goals first | (intro h; first | exact auH | simp only [h, runR_t, runR_f] | skip) | skip)
      | fail)
    refine go_loopH (α := Nat × Tr × Tr × Nat) (fun y => [(⟨.d0, .d3, .d1⟩, .v (.int .i64 (y.1 : Nat)))]) (fun y => [(0, some ⟨n, 1, [[.v (.int .i64 (y.2.2.2 : Nat))]]⟩), (2, some ⟨Γ.g0 + 1, 4, [[dTr y.2.1, dTr y.2.2.1, .v (.bool x.s), .v (.int .i64 x.v)]]⟩)]) (fun _ => Γ.g0 + 2) (fun y => 2 - y.1)
      (fun y => y.1 ≤ 2 ∧ y.2.2.2 < L.length ∧ (y.1 = 0 → y.2.1 = .nil ∧ y.2.2.1 = .nil ∧ y.2.2.2 = i) ∧ (y.1 = 1 → y.2.2.1 = .nil ∧ kid L (growG L 0) x.a i = (some y.2.1, y.2.2.2)) ∧ (y.1 = 2 → G = (some (.node y.2.1 y.2.2.1 x.s x.v), y.2.2.2))) (0, .nil, .nil, i) (by refine ⟨Nat.zero_le _, hi, fun _ => ⟨rfl, rfl, rfl⟩, fun h => ?_, fun h => ?_⟩ <;> exact absurd (show (0 : Nat) = _ from h) (by decide)) ?_ ?_
    · skip
      refine le_mk ?_ ?_ (Nat.le_refl _)
      all_goals first | with_reducible refine auE ?_ | exact auE0
      all_goals (repeat' (first | exact trivial | exact rfl | apply And.intro))
    rintro ⟨k, l, r, j⟩ ⟨hk, hj, h0, h1, h2⟩
    dsimp only at hk hj h0 h1 h2 ⊢
    obtain rfl | rfl | rfl : k = 0 ∨ k = 1 ∨ k = 2 := by omega
    · obtain ⟨rfl, rfl, rfl⟩ := h0 rfl
      have hw : IntKind.i64.wrap ((j : Int) + 1) = ((j + 1 : Nat) : Int) := (IntWalk.i64_in _ (by omega)).trans (by omega)
      with_reducible refine auL ?_
      by_cases ha : x.a = 0
      · have hk0 : kid L (growG L 0) x.a j = (some .nil, j) := by unfold kid; rw [if_pos ha]
        repeat' (first
          | (with_reducible refine auS ?_)
          | (first | (simp only [Int.toNat_natCast, Nat.zero_mul]))
          | (with_reducible refine auD ?_)
          | ((with_reducible refine auB ?_ ?_); all_goals first | (intro h; first | exact auH | simp only [h, runR_t, runR_f] | skip) | skip)
          | fail)
        (all_goals first | exact auP | skip)
        all_goals first
          | (exfalso; simp [ha] at h; done)
          | skip
        refine nx_loop ⟨(1, .nil, .nil, j), ⟨(show (1 : Nat) ≤ 2 by decide), hj, fun h => absurd (show (1 : Nat) = 0 from h) (by decide), fun _ => ⟨rfl, hk0⟩, fun h => absurd (show (1 : Nat) = 2 from h) (by decide)⟩, (show (2 - 1 : Nat) < 2 - 0 by decide), ?_⟩
        refine le_mk ?_ ?_ (Nat.le_refl _)
        all_goals first | with_reducible refine auE ?_ | exact auE0
        all_goals (repeat' (first | exact trivial | exact rfl | apply And.intro))
      · have hk0 : kid L (growG L 0) x.a j = (none, j + 1) := by unfold kid; rw [if_neg ha]; split <;> rfl
        rw [hk0] at hgs
        have hG' : G = (none, j + 1) := hgs
        subst hG'
        repeat' (first
          | (with_reducible refine auS ?_)
          | (first | (simp only [Int.toNat_natCast, Nat.zero_mul, hw, List.length_map]))
          | (with_reducible refine auD ?_)
          | ((with_reducible refine auB ?_ ?_); all_goals first | (intro h; first | exact auH | simp only [h, runR_t, runR_f] | skip) | skip)
          | fail)
        (all_goals first | exact auP | skip)
        all_goals first
          | (exfalso; simp [ha] at h; done)
          | skip
        all_goals first
          | exact ret_h1 trivial trivial rfl rfl hn ⟨⟨trivial, trivial⟩, trivial⟩ rfl
          | skip
    · obtain ⟨rfl, hkl⟩ := h1 rfl
      rw [hkl] at hgs
      dsimp only at hgs
      have hw : IntKind.i64.wrap ((j : Int) + 1) = ((j + 1 : Nat) : Int) := (IntWalk.i64_in _ (by omega)).trans (by omega)
      with_reducible refine auL ?_
      by_cases ha : x.b = 0
      · have hk0 : kid L (growG L 0) x.b j = (some .nil, j) := by unfold kid; rw [if_pos ha]
        rw [hk0] at hgs
        repeat' (first
          | (with_reducible refine auS ?_)
          | (first | (simp only [Int.toNat_natCast, Nat.one_mul]))
          | (with_reducible refine auD ?_)
          | ((with_reducible refine auB ?_ ?_); all_goals first | (intro h; first | exact auH | simp only [h, runR_t, runR_f] | skip) | skip)
          | fail)
        (all_goals first | exact auP | skip)
        all_goals first
          | (exfalso; simp [ha] at h; done)
          | skip
        refine nx_loop ⟨(2, l, .nil, j), ⟨(show (2 : Nat) ≤ 2 by decide), hj, fun h => absurd (show (2 : Nat) = 0 from h) (by decide), fun h => absurd (show (2 : Nat) = 1 from h) (by decide), fun _ => hgs⟩, (show (2 - 2 : Nat) < 2 - 1 by decide), ?_⟩
        refine le_mk ?_ ?_ (Nat.le_refl _)
        all_goals first | with_reducible refine auE ?_ | exact auE0
        all_goals (repeat' (first | exact trivial | exact rfl | apply And.intro))
      · have hk0 : kid L (growG L 0) x.b j = (none, j + 1) := by unfold kid; rw [if_neg ha]; split <;> rfl
        rw [hk0] at hgs
        have hG' : G = (none, j + 1) := hgs
        subst hG'
        repeat' (first
          | (with_reducible refine auS ?_)
          | (first | (simp only [Int.toNat_natCast, Nat.one_mul, hw, List.length_map]))
          | (with_reducible refine auD ?_)
          | ((with_reducible refine auB ?_ ?_); all_goals first | (intro h; first | exact auH | simp only [h, runR_t, runR_f] | skip) | skip)
          | fail)
        (all_goals first | exact auP | skip)
        all_goals first
          | (exfalso; simp [ha] at h; done)
          | skip
        all_goals first
          | exact ret_h1 trivial trivial rfl rfl hn ⟨⟨trivial, trivial⟩, trivial⟩ rfl
          | skip
    · have hG := h2 rfl
      subst hG
      with_reducible refine auL ?_
      repeat' (first
        | (refine go_leG (leG_freezeP1 hL0 ⟨.d0, .d0, .d6⟩ (k := 1) rfl rfl ⟨rfl, rfl, Nat.succ_pos _⟩ rfl) ?_)
        | (with_reducible refine auS ?_)
        | fail
        | (with_reducible refine auD ?_)
        | ((with_reducible refine auB ?_ ?_); all_goals first | (intro h; first | exact auH | simp only [h, runR_t, runR_f] | skip) | skip)
        | fail)
      (all_goals first | exact auP | skip)
      exact ret_h1 trivial (dTr_nf (.node l r x.s x.v) _) rfl rfl hn ⟨⟨trivial, trivial⟩, trivial⟩ rfl
  | succ f ih =>
    intro n i hf hi
    obtain ⟨x, hx⟩ : ∃ x, L[i]? = some x := ⟨_, List.getElem?_eq_getElem hi⟩
    have ex := xget_map Nd.enc L i x hx
    have hgs := growG_succ L (f + 1) i x hx
    have hdp : IntKind.i64.wrap (((33 - (f + 1 + 1) : Nat) : Int) + 1) = ((33 - (f + 1) : Nat) : Int) := (IntWalk.i64_in _ (by omega)).trans (by omega)
    have hd32 : ¬ ((33 - (f + 1 + 1) : Nat) : Int) = 32 := by omega
    unfold GrowS
    generalize hG : growG L (f + 1 + 1) i = G at *
    refine hspec_fn Try.func38 rfl ok_prefix_grow okr_prefix_grow rfl (by kernel_rfl) ?_
    intro Γ hW0 hN0 hL0
    clear hW0
    unfold x_prefix_grow r_prefix_grow
    with_reducible refine auC ?_
    have hn : n < Γ.g0 := hN0 0 _ rfl
    repeat' (first
      | (with_reducible refine auS ?_)
      | (first | (simp only [Int.toNat_natCast, ex]))
      | (with_reducible refine auD ?_)
      | ((with_reducible refine auB ?_ ?_); all_goals first | (intro h; first | exact auH | simp only [h, runR_t, runR_f] | skip) | skip)
      | fail)
    refine go_loopH (α := Nat × Tr × Tr × Nat) (fun y => [(⟨.d0, .d3, .d1⟩, .v (.int .i64 (y.1 : Nat)))]) (fun y => [(0, some ⟨n, 1, [[.v (.int .i64 (y.2.2.2 : Nat))]]⟩), (2, some ⟨Γ.g0 + 1, 4, [[dTr y.2.1, dTr y.2.2.1, .v (.bool x.s), .v (.int .i64 x.v)]]⟩)]) (fun _ => Γ.g0 + 2) (fun y => 2 - y.1)
      (fun y => y.1 ≤ 2 ∧ y.2.2.2 < L.length ∧ (y.1 = 0 → y.2.1 = .nil ∧ y.2.2.1 = .nil ∧ y.2.2.2 = i) ∧ (y.1 = 1 → y.2.2.1 = .nil ∧ kid L (growG L (f + 1)) x.a i = (some y.2.1, y.2.2.2)) ∧ (y.1 = 2 → G = (some (.node y.2.1 y.2.2.1 x.s x.v), y.2.2.2))) (0, .nil, .nil, i) (by refine ⟨Nat.zero_le _, hi, fun _ => ⟨rfl, rfl, rfl⟩, fun h => ?_, fun h => ?_⟩ <;> exact absurd (show (0 : Nat) = _ from h) (by decide)) ?_ ?_
    · skip
      refine le_mk ?_ ?_ (Nat.le_refl _)
      all_goals first | with_reducible refine auE ?_ | exact auE0
      all_goals (repeat' (first | exact trivial | exact rfl | apply And.intro))
    rintro ⟨k, l, r, j⟩ ⟨hk, hj, h0, h1, h2⟩
    dsimp only at hk hj h0 h1 h2 ⊢
    obtain rfl | rfl | rfl : k = 0 ∨ k = 1 ∨ k = 2 := by omega
    · obtain ⟨rfl, rfl, rfl⟩ := h0 rfl
      have hw : IntKind.i64.wrap ((j : Int) + 1) = ((j + 1 : Nat) : Int) := (IntWalk.i64_in _ (by omega)).trans (by omega)
      with_reducible refine auL ?_
      by_cases ha : x.a = 0
      · have hk0 : kid L (growG L (f + 1)) x.a j = (some .nil, j) := by unfold kid; rw [if_pos ha]
        repeat' (first
          | (with_reducible refine auS ?_)
          | (first | (simp only [Int.toNat_natCast, Nat.zero_mul]))
          | (with_reducible refine auD ?_)
          | ((with_reducible refine auB ?_ ?_); all_goals first | (intro h; first | exact auH | simp only [h, runR_t, runR_f] | skip) | skip)
          | fail)
        (all_goals first | exact auP | skip)
        all_goals first
          | (exfalso; simp [ha] at h; done)
          | skip
        refine nx_loop ⟨(1, .nil, .nil, j), ⟨(show (1 : Nat) ≤ 2 by decide), hj, fun h => absurd (show (1 : Nat) = 0 from h) (by decide), fun _ => ⟨rfl, hk0⟩, fun h => absurd (show (1 : Nat) = 2 from h) (by decide)⟩, (show (2 - 1 : Nat) < 2 - 0 by decide), ?_⟩
        refine le_mk ?_ ?_ (Nat.le_refl _)
        all_goals first | with_reducible refine auE ?_ | exact auE0
        all_goals (repeat' (first | exact trivial | exact rfl | apply And.intro))
      · by_cases hc : x.a = ((j + 1 : Nat) : Int) ∧ j + 1 < L.length
        · cases hg : growG L (f + 1) (j + 1) with
          | mk o j' =>
            have hcall := ih n (j + 1) (by omega) hc.2
            unfold GrowS at hcall
            rw [hg] at hcall
            have hks := kid_some (g := growG L (f + 1)) ha hc
            rw [hg] at hks
            cases o with
            | none =>
              rw [hks] at hgs
              have hG' : G = (none, j') := hgs
              subst hG'
              have hcall : HSpec Try.prog 38 [.snap 4 (L.map Nd.enc) c, .ptr 0 n 1 0 0, .v (.int .i64 ((33 - (f + 1) : Nat) : Int))] [some ⟨n, 1, [[.v (.int .i64 ((j + 1 : Nat) : Int))]]⟩] (fun d H => d = .v (.pointer none) ∧ H = [some ⟨n, 1, [[.v (.int .i64 (j' : Nat))]]⟩]) := hcall
              repeat' (first
                | (with_reducible refine auS ?_)
                | (first | (simp only [Int.toNat_natCast, Nat.zero_mul, hw, hdp, List.length_map]) | ((with_reducible refine runR_callH 0 ?_ hcall (fun _ _ _ h => h) ?_); (exact rfl)))
                | (with_reducible refine auD ?_)
                | ((with_reducible refine auB ?_ ?_); all_goals first | (intro h; first | exact auH | simp only [h, runR_t, runR_f] | skip) | skip)
                | fail)
              (all_goals first | exact auP | skip)
              all_goals first
                | (exfalso; simp [ha, hd32] at h; done)
                | skip
              all_goals first
                | exact ret_h1 trivial trivial rfl rfl hn ⟨⟨trivial, trivial⟩, trivial⟩ rfl
                | skip
            | some T =>
              obtain ⟨g1, -, -, g4, -⟩ := grow_inv L (f + 1) (j + 1) j' T hg hc.2
              cases T with
              | nil => exact absurd g1 (Nat.lt_irrefl _)
              | node tl tr ts tv =>
                have hcall : HSpec Try.prog 38 [.snap 4 (L.map Nd.enc) c, .ptr 0 n 1 0 0, .v (.int .i64 ((33 - (f + 1) : Nat) : Int))] [some ⟨n, 1, [[.v (.int .i64 ((j + 1 : Nat) : Int))]]⟩] (fun d H => d = .rptr [dTr tl, dTr tr, .v (.bool ts), .v (.int .i64 tv)] ∧ H = [some ⟨n, 1, [[.v (.int .i64 (j' : Nat))]]⟩]) := hcall
                repeat' (first
                  | (with_reducible refine auS ?_)
                  | (first | (simp only [Int.toNat_natCast, Nat.zero_mul, hw, hdp, List.length_map]) | ((with_reducible refine runR_callH 0 ?_ hcall (fun _ _ _ h => h) ?_); (exact rfl)))
                  | (with_reducible refine auD ?_)
                  | ((with_reducible refine auB ?_ ?_); all_goals first | (intro h; first | exact auH | simp only [h, runR_t, runR_f] | skip) | skip)
                  | fail)
                (all_goals first | exact auP | skip)
                all_goals first
                  | (exfalso; simp [ha, hd32] at h; done)
                  | (exfalso; have h1 := hc.1; have h2 := hc.2; simp at h; omega)
                  | skip
                refine nx_loop ⟨(1, .node tl tr ts tv, .nil, j'), ⟨(show (1 : Nat) ≤ 2 by decide), g4, fun h => absurd (show (1 : Nat) = 0 from h) (by decide), fun _ => ⟨rfl, hks⟩, fun h => absurd (show (1 : Nat) = 2 from h) (by decide)⟩, (show (2 - 1 : Nat) < 2 - 0 by decide), ?_⟩
                refine le_mk ?_ ?_ (Nat.le_refl _)
                all_goals first | with_reducible refine auE ?_ | exact auE0
                all_goals (repeat' (first | exact trivial | exact rfl | apply And.intro))
        · have hk0 := kid_none (g := growG L (f + 1)) ha hc
          rw [hk0] at hgs
          have hG' : G = (none, j + 1) := hgs
          subst hG'
          repeat' (first
            | (with_reducible refine auS ?_)
            | (first | (simp only [Int.toNat_natCast, Nat.zero_mul, hw, List.length_map]))
            | (with_reducible refine auD ?_)
            | ((with_reducible refine auB ?_ ?_); all_goals first | (intro h; first | exact auH | simp only [h, runR_t, runR_f] | skip) | skip)
            | fail)
          (all_goals first | exact auP | skip)
          all_goals first
            | (exfalso; simp [ha] at h; done)
            | skip
          all_goals first
            | exact ret_h1 trivial trivial rfl rfl hn ⟨⟨trivial, trivial⟩, trivial⟩ rfl
            | skip
    · obtain ⟨rfl, hkl⟩ := h1 rfl
      rw [hkl] at hgs
      dsimp only at hgs
      have hw : IntKind.i64.wrap ((j : Int) + 1) = ((j + 1 : Nat) : Int) := (IntWalk.i64_in _ (by omega)).trans (by omega)
      with_reducible refine auL ?_
      by_cases ha : x.b = 0
      · have hk0 : kid L (growG L (f + 1)) x.b j = (some .nil, j) := by unfold kid; rw [if_pos ha]
        rw [hk0] at hgs
        repeat' (first
          | (with_reducible refine auS ?_)
          | (first | (simp only [Int.toNat_natCast, Nat.one_mul]))
          | (with_reducible refine auD ?_)
          | ((with_reducible refine auB ?_ ?_); all_goals first | (intro h; first | exact auH | simp only [h, runR_t, runR_f] | skip) | skip)
          | fail)
        (all_goals first | exact auP | skip)
        all_goals first
          | (exfalso; simp [ha] at h; done)
          | skip
        refine nx_loop ⟨(2, l, .nil, j), ⟨(show (2 : Nat) ≤ 2 by decide), hj, fun h => absurd (show (2 : Nat) = 0 from h) (by decide), fun h => absurd (show (2 : Nat) = 1 from h) (by decide), fun _ => hgs⟩, (show (2 - 2 : Nat) < 2 - 1 by decide), ?_⟩
        refine le_mk ?_ ?_ (Nat.le_refl _)
        all_goals first | with_reducible refine auE ?_ | exact auE0
        all_goals (repeat' (first | exact trivial | exact rfl | apply And.intro))
      · by_cases hc : x.b = ((j + 1 : Nat) : Int) ∧ j + 1 < L.length
        · cases hg : growG L (f + 1) (j + 1) with
          | mk o j' =>
            have hcall := ih n (j + 1) (by omega) hc.2
            unfold GrowS at hcall
            rw [hg] at hcall
            have hks := kid_some (g := growG L (f + 1)) ha hc
            rw [hg] at hks
            cases o with
            | none =>
              rw [hks] at hgs
              have hG' : G = (none, j') := hgs
              subst hG'
              have hcall : HSpec Try.prog 38 [.snap 4 (L.map Nd.enc) c, .ptr 0 n 1 0 0, .v (.int .i64 ((33 - (f + 1) : Nat) : Int))] [some ⟨n, 1, [[.v (.int .i64 ((j + 1 : Nat) : Int))]]⟩] (fun d H => d = .v (.pointer none) ∧ H = [some ⟨n, 1, [[.v (.int .i64 (j' : Nat))]]⟩]) := hcall
              repeat' (first
                | (with_reducible refine auS ?_)
                | (first | (simp only [Int.toNat_natCast, Nat.one_mul, hw, hdp, List.length_map]) | ((with_reducible refine runR_callH 0 ?_ hcall (fun _ _ _ h => h) ?_); (exact rfl)))
                | (with_reducible refine auD ?_)
                | ((with_reducible refine auB ?_ ?_); all_goals first | (intro h; first | exact auH | simp only [h, runR_t, runR_f] | skip) | skip)
                | fail)
              (all_goals first | exact auP | skip)
              all_goals first
                | (exfalso; simp [ha, hd32] at h; done)
                | skip
              all_goals first
                | exact ret_h1 trivial trivial rfl rfl hn ⟨⟨trivial, trivial⟩, trivial⟩ rfl
                | skip
            | some T =>
              obtain ⟨g1, -, -, g4, -⟩ := grow_inv L (f + 1) (j + 1) j' T hg hc.2
              cases T with
              | nil => exact absurd g1 (Nat.lt_irrefl _)
              | node tl tr ts tv =>
                have hcall : HSpec Try.prog 38 [.snap 4 (L.map Nd.enc) c, .ptr 0 n 1 0 0, .v (.int .i64 ((33 - (f + 1) : Nat) : Int))] [some ⟨n, 1, [[.v (.int .i64 ((j + 1 : Nat) : Int))]]⟩] (fun d H => d = .rptr [dTr tl, dTr tr, .v (.bool ts), .v (.int .i64 tv)] ∧ H = [some ⟨n, 1, [[.v (.int .i64 (j' : Nat))]]⟩]) := hcall
                repeat' (first
                  | (with_reducible refine auS ?_)
                  | (first | (simp only [Int.toNat_natCast, Nat.one_mul, hw, hdp, List.length_map]) | ((with_reducible refine runR_callH 0 ?_ hcall (fun _ _ _ h => h) ?_); (exact rfl)))
                  | (with_reducible refine auD ?_)
                  | ((with_reducible refine auB ?_ ?_); all_goals first | (intro h; first | exact auH | simp only [h, runR_t, runR_f] | skip) | skip)
                  | fail)
                (all_goals first | exact auP | skip)
                all_goals first
                  | (exfalso; simp [ha, hd32] at h; done)
                  | (exfalso; have h1 := hc.1; have h2 := hc.2; simp at h; omega)
                  | skip
                rw [hks] at hgs
                refine nx_loop ⟨(2, l, .node tl tr ts tv, j'), ⟨(show (2 : Nat) ≤ 2 by decide), g4, fun h => absurd (show (2 : Nat) = 0 from h) (by decide), fun h => absurd (show (2 : Nat) = 1 from h) (by decide), fun _ => hgs⟩, (show (2 - 2 : Nat) < 2 - 1 by decide), ?_⟩
                refine le_mk ?_ ?_ (Nat.le_refl _)
                all_goals first | with_reducible refine auE ?_ | exact auE0
                all_goals (repeat' (first | exact trivial | exact rfl | apply And.intro))
        · have hk0 := kid_none (g := growG L (f + 1)) ha hc
          rw [hk0] at hgs
          have hG' : G = (none, j + 1) := hgs
          subst hG'
          repeat' (first
            | (with_reducible refine auS ?_)
            | (first | (simp only [Int.toNat_natCast, Nat.one_mul, hw, List.length_map]))
            | (with_reducible refine auD ?_)
            | ((with_reducible refine auB ?_ ?_); all_goals first | (intro h; first | exact auH | simp only [h, runR_t, runR_f] | skip) | skip)
            | fail)
          (all_goals first | exact auP | skip)
          all_goals first
            | (exfalso; simp [ha] at h; done)
            | skip
          all_goals first
            | exact ret_h1 trivial trivial rfl rfl hn ⟨⟨trivial, trivial⟩, trivial⟩ rfl
            | skip
    · have hG := h2 rfl
      subst hG
      with_reducible refine auL ?_
      repeat' (first
        | (refine go_leG (leG_freezeP1 hL0 ⟨.d0, .d0, .d6⟩ (k := 1) rfl rfl ⟨rfl, rfl, Nat.succ_pos _⟩ rfl) ?_)
        | (with_reducible refine auS ?_)
        | fail
        | (with_reducible refine auD ?_)
        | ((with_reducible refine auB ?_ ?_); all_goals first | (intro h; first | exact auH | simp only [h, runR_t, runR_f] | skip) | skip)
        | fail)
      (all_goals first | exact auP | skip)
      exact ret_h1 trivial (dTr_nf (.node l r x.s x.v) _) rfl rfl hn ⟨⟨trivial, trivial⟩, trivial⟩ rfl
end Go.Proofs.Ytlfbjdafnappdaa
