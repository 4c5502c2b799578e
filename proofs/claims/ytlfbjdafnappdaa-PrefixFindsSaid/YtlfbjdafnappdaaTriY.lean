/-
  Tries in the program: what reading a trie answers.
-/
import Derived.Test.YtlfbjdafnappdaaTriX
namespace Go.Proofs.Ytlfbjdafnappdaa
set_option linter.unusedVariables false
set_option linter.unusedSimpArgs false
abbrev dRd (R : Tr × Int) : DV := .tup [dTr R.1, .v (.int .i64 R.2)]
abbrev dTrie (L : List Nd) (c : Bool) : DV := .agg [.snap 4 (L.map Nd.enc) c]
theorem read_0 (c : Bool) : Spec Try.prog 19 [dTrie [] c] (dRd (readG [])) := by
  show Spec Try.prog _ _ (.tup [.v (.pointer none), .v (.int .i64 0)])
  refine hspec_fn Try.func19 rfl ok_prefix_read okr_prefix_read rfl (by kernel_rfl) ?_
  intro Γ hW0 hN0 hL0
  have hW := hW0 rfl
  clear hW0 hN0 hL0
  unfold x_prefix_read r_prefix_read
  with_reducible refine auC ?_
  repeat' (first
    | (with_reducible refine auS ?_)
    | (simp only [List.map_nil, List.length_nil, Int.natCast_zero, decide_true])
    | (with_reducible refine auD ?_)
    | ((with_reducible refine auB ?_ ?_); all_goals first | (intro h; first | exact auH | simp only [h, runR_t, runR_f] | skip) | skip)
    | fail)
  (all_goals first | exact auP | skip)
  all_goals first
    | (exfalso; simp at h; done)
    | skip
  all_goals with_reducible refine auF ?_
  all_goals (try first | with_reducible refine auR ?_ | exact auR0)
  all_goals (try simp only [hsM] at *)
theorem read_l (L : List Nd) (c : Bool) (h5 : 500 < L.length) : Spec Try.prog 19 [dTrie L c] (dRd (readG L)) := by
  have e : readG L = (.nil, 2) := by unfold readG; rw [if_neg (by omega), if_pos h5]
  rw [e]
  show Spec Try.prog _ _ (.tup [.v (.pointer none), .v (.int .i64 2)])
  have hlen : (L.map Nd.enc).length = L.length := List.length_map _
  refine hspec_fn Try.func19 rfl ok_prefix_read okr_prefix_read rfl (by kernel_rfl) ?_
  intro Γ hW0 hN0 hL0
  have hW := hW0 rfl
  clear hW0 hN0 hL0
  unfold x_prefix_read r_prefix_read
  with_reducible refine auC ?_
  repeat' (first
    | (with_reducible refine auS ?_)
    | (simp only [hlen])
    | (with_reducible refine auD ?_)
    | ((with_reducible refine auB ?_ ?_); all_goals first | (intro h; first | exact auH | simp only [h, runR_t, runR_f] | skip) | skip)
    | fail)
  (all_goals first | exact auP | skip)
  all_goals first
    | (exfalso; simp at h; omega)
    | skip
  all_goals with_reducible refine auF ?_
  all_goals (try first | with_reducible refine auR ?_ | exact auR0)
  all_goals (try simp only [hsM] at *)
theorem hspec_ptr2 {P : Program} {f : FuncId} {d0 : DV} {n sz i j : Nat} {ds : List DV} {H0 : HL} {R : DV → HL → Prop} (k : Nat) (h : HSpec P f (d0 :: .ptr 0 n sz i j :: ds) H0 R) : HSpec P f (d0 :: .ptr k n sz i j :: ds) H0 R :=
  hspec_args h (fun K w vs hv => argsRel_mem hv rfl (fun q d e hd he v hr => by
    match q, hd, he with
    | 0, hd, he =>
      obtain rfl := Option.some.inj hd
      obtain rfl := Option.some.inj he
      exact hr
    | 1, hd, he =>
      obtain rfl := Option.some.inj hd
      obtain rfl := Option.some.inj he
      exact ptr_label hr
    | q + 2, hd, he =>
      have hd : ds[q]? = some d := hd
      have he : ds[q]? = some e := he
      rw [hd] at he
      obtain rfl := Option.some.inj he
      exact hr))
set_option maxHeartbeats 2000000 in
theorem read_spec (L : List Nd) (c : Bool) : Spec Try.prog 19 [dTrie L c] (dRd (readG L)) := by
  by_cases h0 : L = []
  · subst h0; exact read_0 c
  by_cases h5 : 500 < L.length
  · exact read_l L c h5
  have hlen : (L.map Nd.enc).length = L.length := List.length_map _
  have hpos : 0 < L.length := List.length_pos_iff.2 h0
  have hgr := fun n => hspec_ptr2 1 (grow_spec L c (by omega) 32 n 0 (Nat.le_refl _) hpos)
  unfold readG
  rw [if_neg (by omega), if_neg h5]
  cases hG : growG L 33 0 with
  | mk o j =>
    rw [hG] at hgr
    cases o with
    | none =>
      show Spec Try.prog _ _ (.tup [.v (.pointer none), .v (.int .i64 4)])
      have hgr : ∀ n, HSpec Try.prog 38 [.snap 4 (L.map Nd.enc) c, .ptr 1 n 1 0 0, .v (.int .i64 0)] [some ⟨n, 1, [[.v (.int .i64 0)]]⟩] (fun d H => d = .v (.pointer none) ∧ H = [some ⟨n, 1, [[.v (.int .i64 (j : Nat))]]⟩]) := hgr
      refine hspec_fn Try.func19 rfl ok_prefix_read okr_prefix_read rfl (by kernel_rfl) ?_
      intro Γ hW0 hN0 hL0
      have hW := hW0 rfl
      clear hW0 hN0 hL0
      unfold x_prefix_read r_prefix_read
      with_reducible refine auC ?_
      repeat' (first
        | (with_reducible refine auS ?_)
        | (first | (simp only [hlen]) | ((with_reducible refine runR_callH 1 ?_ (hgr _) (fun _ _ _ h => h) ?_); (exact rfl)))
        | (with_reducible refine auD ?_)
        | ((with_reducible refine auB ?_ ?_); all_goals first | (intro h; first | exact auH | simp only [h, runR_t, runR_f] | skip) | skip)
        | fail)
      (all_goals first | exact auP | skip)
      all_goals first
        | (exfalso; simp at h; omega)
        | skip
      all_goals with_reducible refine auF ?_
      all_goals (try first | with_reducible refine auR ?_ | exact auR0)
      all_goals (try simp only [hsM] at *)
    | some T =>
      obtain ⟨g1, -, g3, g4, -⟩ := grow_inv L 33 0 j T hG hpos
      cases T with
      | nil => exact absurd g1 (Nat.lt_irrefl _)
      | node tl tr ts tv =>
        have hgr : ∀ n, HSpec Try.prog 38 [.snap 4 (L.map Nd.enc) c, .ptr 1 n 1 0 0, .v (.int .i64 0)] [some ⟨n, 1, [[.v (.int .i64 0)]]⟩] (fun d H => d = .rptr [dTr tl, dTr tr, .v (.bool ts), .v (.int .i64 tv)] ∧ H = [some ⟨n, 1, [[.v (.int .i64 (j : Nat))]]⟩]) := hgr
        have hb : Spec Try.prog 39 [.rptr [dTr tl, dTr tr, .v (.bool ts), .v (.int .i64 tv)]] (.v (.bool (bareT (.node tl tr ts tv)))) := bare_spec tl tr ts tv
        have hw : IntKind.i64.wrap ((L.length : Int) - 1) = ((L.length - 1 : Nat) : Int) := (IntWalk.i64_in _ (by omega)).trans (by omega)
        dsimp only
        generalize bareT (.node tl tr ts tv) = B at *
        by_cases hc : j = L.length - 1 ∧ B = false
        · obtain ⟨hj, rfl⟩ := hc
          have hjj : ((j : Nat) : Int) = ((L.length - 1 : Nat) : Int) := by omega
          have hif : (if j = L.length - 1 ∧ false = false ∧ L.all ndOk = true then (Tr.node tl tr ts tv, (0 : Int)) else (Tr.nil, 4)) = if L.all ndOk = true then (Tr.node tl tr ts tv, 0) else (Tr.nil, 4) := by simp [hj]
          rw [hif]
          refine hspec_fn Try.func19 rfl ok_prefix_read okr_prefix_read rfl (by kernel_rfl) ?_
          intro Γ hW0 hN0 hL0
          have hW := hW0 rfl
          clear hW0 hN0 hL0
          unfold x_prefix_read r_prefix_read
          with_reducible refine auC ?_
          repeat' (first
            | (with_reducible refine auS ?_)
            | (first | (simp only [hlen, hw]) | ((with_reducible refine runR_callH 1 ?_ (hgr _) (fun _ _ _ h => h) ?_); (exact rfl)) | (with_reducible refine runR_call hb ?_))
            | (with_reducible refine auD ?_)
            | ((with_reducible refine auB ?_ ?_); all_goals first | (intro h; first | exact auH | simp only [h, runR_t, runR_f] | skip) | skip)
            | fail)
          (all_goals first | exact auP | skip)
          all_goals first
            | (exfalso; simp [hjj] at h; done)
            | skip
          refine go_loopH (α := Nat × Nat) (fun p => [(⟨.d0, .d4, .d4⟩, .v (.int .i64 (p.1 : Nat)))]) (fun _ => [(2, none)]) (fun p => p.2) (fun p => L.length - p.1) (fun p => p.1 ≤ L.length ∧ ∀ (i : Nat) (x : Nd), i < p.1 → L[i]? = some x → ndOk x = true) (0, Γ.g0 + 2) ⟨Nat.zero_le _, fun i x h => absurd h (Nat.not_lt_zero _)⟩ ?_ ?_
          · skip
            refine le_mk ?_ ?_ (Nat.le_refl _)
            all_goals first | with_reducible refine auE ?_ | exact auE0
            all_goals (repeat' (first | exact trivial | exact rfl | apply And.intro))
          rintro ⟨k, gn⟩ ⟨hk, hall⟩
          dsimp only at hk hall ⊢
          with_reducible refine auL ?_
          by_cases hlt : k < L.length
          · obtain ⟨x, hx⟩ : ∃ x, L[k]? = some x := ⟨_, List.getElem?_eq_getElem hlt⟩
            have ex := xget_map Nd.enc L k x hx
            cases hok : ndOk x with
            | true =>
              obtain ⟨xa, xb, xs, xv⟩ := x
              have hst : ∀ i y, i < k + 1 → L[i]? = some y → ndOk y = true := fun i y hi hy => by
                rcases Nat.lt_succ_iff_lt_or_eq.1 hi with h | rfl
                · exact hall i y h hy
                · rw [hx] at hy; obtain rfl := Option.some.inj hy; exact hok
              have hok' : xs = false → xv = 0 ∧ ¬ (xa = 0 ∧ xb = 0) := fun e => by subst e; have hq : xv = 0 ∧ (¬xa = 0 ∨ ¬xb = 0) := (by simpa [ndOk] using hok); omega
              cases xs
              · have hok := hok' rfl
                repeat' (first
                  | (with_reducible refine auS ?_)
                  | (simp only [Int.toNat_natCast, ex])
                  | (with_reducible refine auD ?_)
                  | ((with_reducible refine auB ?_ ?_); all_goals first | (intro h; first | exact auH | simp only [h, runR_t, runR_f] | skip) | skip)
                  | fail)
                (all_goals first | exact auP | skip)
                all_goals first
                  | (refine nx_loop ⟨(k + 1, gn + 1), ⟨Nat.succ_le_of_lt hlt, hst⟩, Nat.sub_lt_sub_left hlt (Nat.lt_succ_self k), ?_⟩
                     (refine le_mk ?_ ?_ (Nat.le_refl _)); (all_goals first | with_reducible refine auE ?_ | exact auE0); (all_goals (repeat' (first | exact trivial | exact rfl | apply And.intro)))
                     all_goals exact dint ((IntWalk.i64_in _ (by omega)).trans (by omega)))
                  | skip
              · skip
                repeat' (first
                  | (with_reducible refine auS ?_)
                  | (simp only [Int.toNat_natCast, ex])
                  | (with_reducible refine auD ?_)
                  | ((with_reducible refine auB ?_ ?_); all_goals first | (intro h; first | exact auH | simp only [h, runR_t, runR_f] | skip) | skip)
                  | fail)
                (all_goals first | exact auP | skip)
                all_goals first
                  | (refine nx_loop ⟨(k + 1, gn + 1), ⟨Nat.succ_le_of_lt hlt, hst⟩, Nat.sub_lt_sub_left hlt (Nat.lt_succ_self k), ?_⟩
                     (refine le_mk ?_ ?_ (Nat.le_refl _)); (all_goals first | with_reducible refine auE ?_ | exact auE0); (all_goals (repeat' (first | exact trivial | exact rfl | apply And.intro)))
                     all_goals exact dint ((IntWalk.i64_in _ (by omega)).trans (by omega)))
                  | skip
            | false =>
              have hA : ¬ L.all ndOk = true := fun h => by
                have := List.all_eq_true.1 h x (List.mem_of_getElem? hx)
                rw [hok] at this
                cases this
              rw [if_neg hA]
              show Go _ _ _ (RetQ _ _ _ (fun d H => d = .tup [.v (.pointer none), .v (.int .i64 4)] ∧ H = [])) _ _ _
              obtain ⟨xa, xb, xs, xv⟩ := x
              cases xs
              · have hok : ¬ (xv = 0 ∧ ¬ (xa = 0 ∧ xb = 0)) := fun e => by simp [ndOk, e.1] at hok; exact e.2 hok
                repeat' (first
                  | (with_reducible refine auS ?_)
                  | (simp only [Int.toNat_natCast, ex])
                  | (with_reducible refine auD ?_)
                  | ((with_reducible refine auB ?_ ?_); all_goals first | (intro h; first | exact auH | simp only [h, runR_t, runR_f] | skip) | skip)
                  | fail)
                (all_goals first | exact auP | skip)
                all_goals with_reducible refine auF ?_
                all_goals (try first | with_reducible refine auR ?_ | exact auR0)
                all_goals (try simp only [hsM] at *)
              · simp [ndOk] at hok
          · obtain rfl : k = L.length := by omega
            have hA : L.all ndOk = true := List.all_eq_true.2 (fun x hx => by
              obtain ⟨i, hi, rfl⟩ := List.getElem_of_mem hx
              exact hall i _ hi (List.getElem?_eq_getElem hi))
            rw [if_pos hA]
            show Go _ _ _ (RetQ _ _ _ (fun d H => d = .tup [.rptr [dTr tl, dTr tr, .v (.bool ts), .v (.int .i64 tv)], .v (.int .i64 0)] ∧ H = [])) _ _ _
            repeat' (first
              | (with_reducible refine auS ?_)
              | fail
              | (with_reducible refine auD ?_)
              | ((with_reducible refine auB ?_ ?_); all_goals first | (intro h; first | exact auH | simp only [h, runR_t, runR_f] | skip) | skip)
              | fail)
            (all_goals first | exact auP | skip)
            all_goals first
              | (exfalso; simp at h; done)
              | skip
            all_goals with_reducible refine ret_spec2 (by (try first | with_reducible refine auR ?_ | exact auR0); (repeat' (first | exact trivial | exact rfl | exact dTr_nf _ _ | decide | apply And.intro))) ?_
            all_goals (try first | with_reducible refine auR ?_ | exact auR0)
        · rw [if_neg (fun h => hc ⟨h.1, h.2.1⟩)]
          show Spec Try.prog _ _ (.tup [.v (.pointer none), .v (.int .i64 4)])
          by_cases hj : j = L.length - 1
          · have hB : B = true := by
              cases B
              · exact absurd ⟨hj, rfl⟩ hc
              · rfl
            subst hB
            refine hspec_fn Try.func19 rfl ok_prefix_read okr_prefix_read rfl (by kernel_rfl) ?_
            intro Γ hW0 hN0 hL0
            have hW := hW0 rfl
            clear hW0 hN0 hL0
            unfold x_prefix_read r_prefix_read
            with_reducible refine auC ?_
            repeat' (first
              | (with_reducible refine auS ?_)
              | (first | (simp only [hlen, hw]) | ((with_reducible refine runR_callH 1 ?_ (hgr _) (fun _ _ _ h => h) ?_); (exact rfl)) | (with_reducible refine runR_call hb ?_))
              | (with_reducible refine auD ?_)
              | ((with_reducible refine auB ?_ ?_); all_goals first | (intro h; first | exact auH | simp only [h, runR_t, runR_f] | skip) | skip)
              | fail)
            (all_goals first | exact auP | skip)
            all_goals first
              | (exfalso; simp at h; omega)
              | skip
            all_goals with_reducible refine auF ?_
            all_goals (try first | with_reducible refine auR ?_ | exact auR0)
            all_goals (try simp only [hsM] at *)
          · have hj' : ¬ ((j : Nat) : Int) = ((L.length - 1 : Nat) : Int) := by omega
            refine hspec_fn Try.func19 rfl ok_prefix_read okr_prefix_read rfl (by kernel_rfl) ?_
            intro Γ hW0 hN0 hL0
            have hW := hW0 rfl
            clear hW0 hN0 hL0
            unfold x_prefix_read r_prefix_read
            with_reducible refine auC ?_
            repeat' (first
              | (with_reducible refine auS ?_)
              | (first | (simp only [hlen, hw]) | ((with_reducible refine runR_callH 1 ?_ (hgr _) (fun _ _ _ h => h) ?_); (exact rfl)) | (with_reducible refine runR_call hb ?_))
              | (with_reducible refine auD ?_)
              | ((with_reducible refine auB ?_ ?_); all_goals first | (intro h; first | exact auH | simp only [h, runR_t, runR_f] | skip) | skip)
              | fail)
            (all_goals first | exact auP | skip)
            all_goals first
              | (exfalso; simp at h; omega)
              | skip
            all_goals with_reducible refine auF ?_
            all_goals (try first | with_reducible refine auR ?_ | exact auR0)
            all_goals (try simp only [hsM] at *)
end Go.Proofs.Ytlfbjdafnappdaa
