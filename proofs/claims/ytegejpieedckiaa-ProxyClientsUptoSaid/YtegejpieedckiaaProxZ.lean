/-
  A guard hears a client, in the program.
-/
import Derived.Test.YtegejpieedckiaaProxQ
namespace Go.Proofs.Ytegejpieedckiaa
set_option linter.unusedVariables false
set_option linter.unusedSimpArgs false
theorem fl23 : ∀ f : Fin 256, ((bits .and .i64 (f.val : Int) 23 = 2) ↔ (¬ bits .and .i64 (f.val : Int) 2 = 0 ∧ bits .and .i64 (f.val : Int) 16 = 0 ∧ bits .and .i64 (f.val : Int) 1 = 0 ∧ bits .and .i64 (f.val : Int) 4 = 0)) ∧
    ((bits .and .i64 (f.val : Int) 23 = 16 ∨ bits .and .i64 (f.val : Int) 23 = 17) ↔ (¬ bits .and .i64 (f.val : Int) 16 = 0 ∧ bits .and .i64 (f.val : Int) 2 = 0 ∧ bits .and .i64 (f.val : Int) 4 = 0)) := by decide +kernel
theorem ref_flags {sz now : Int} {ms : List Gd} {r : Rd} {g : Sg} (h : refG sz ms r g now = 0) : (0 ≤ g.flags ∧ g.flags ≤ 255) ∧ 0 ≤ sz := by
  unfold refG at h
  split at h
  · rename_i h1; exact (h1 h).elim
  rename_i h1
  have h1' := Decidable.not_not.1 h1
  split at h
  · cases h
  constructor
  · unfold sgW at h
    split at h
    · cases h
    · rename_i h2
      exact (Decidable.not_not.1 h2).2
  · unfold proxErr at h1'
    split at h1'
    · rename_i h3; exact h3.1
    · cases h1'
theorem flags_S1 {g : Sg} (h : 0 ≤ g.flags ∧ g.flags ≤ 255) : bits .and .i64 g.flags 23 = 2 ↔ (hasF g 2 = true ∧ hasF g 16 = false ∧ hasF g 1 = false ∧ hasF g 4 = false) := by
  have := (fl23 ⟨g.flags.toNat, by omega⟩).1
  rw [show ((g.flags.toNat : Nat) : Int) = g.flags by omega] at this
  unfold hasF
  rw [this]
  simp
theorem flags_S2 {g : Sg} (h : 0 ≤ g.flags ∧ g.flags ≤ 255) : (bits .and .i64 g.flags 23 = 16 ∨ bits .and .i64 g.flags 23 = 17) ↔ (hasF g 16 = true ∧ hasF g 2 = false ∧ hasF g 4 = false) := by
  have := (fl23 ⟨g.flags.toNat, by omega⟩).2
  rw [show ((g.flags.toNat : Nat) : Int) = g.flags by omega] at this
  unfold hasF
  rw [this]
  simp
abbrev dCv (k0 k1 sz : Int) (R : Out) : DV := .tup [dPx k0 k1 sz R.1.1, dKp R.1.2.1, dKp R.1.2.2, .v (.int .i64 R.2)]
abbrev CVspec (k0 k1 sz now : Int) (ms : List Gd) (r : Rd) (g : Sg) (R : Out) : Prop := Spec Try.prog 9 [dPx k0 k1 sz ms, .agg r.enc, dG g, .v (.int .i64 now)] (dCv k0 k1 sz R)
set_option maxRecDepth 8000 in
set_option maxHeartbeats 4000000 in
theorem client_ref (k0 k1 sz now : Int) (ms : List Gd) (r : Rd) (g : Sg) (hl : ms.length * 48 ≤ 140737488351232) (hr : U32 r.fr ∧ U32 r.to) (hg : SegOk g) (hg2 : SegArg g) (hd : ∀ t ∈ ms, GdOk t) (he : ¬ refG sz ms r g now = 0) : CVspec k0 k1 sz now ms r g ((ms, none, none), refG sz ms r g now) := by
  have hml : ms.length ≤ maxLen := by unfold maxLen; omega
  have hcl := gdclonef_spec ms false (by unfold room maxLen; omega)
  have hrf := prefused_spec k0 k1 sz now ms r g hml (fun t ht => (hd t ht).2.2.1) hr hg
  have hnf : ∀ g (l : List Gd), nfLL g (l.map Gd.enc) := nf_gd
  have hno := nf_opt
  generalize refG sz ms r g now = e at *
  dsimp only [CVspec, dCv, dKp, SegK.row]
  refine hspec_fn Try.func9 rfl ok_proxy_Client okr_proxy_Client rfl (by kernel_rfl) ?_
  intro Γ hW0 hN0 hL0
  have hW := hW0 rfl
  clear hW0 hN0 hL0
  unfold x_proxy_Client r_proxy_Client
  refine auC ?_
  repeat' (first
    | (refine auS ?_)
    | (first | (with_reducible refine runR_call hcl ?_) | (with_reducible refine runR_call hrf ?_) | (refine runR_callM [0, 1] (by decide) rfl hbg ?_) | (refine runR_callF 1 rfl hpl ⟨⟨rfl, rfl, rfl, .inl ⟨rfl, rfl, by simp, by rw [xall (by simp)]⟩, rfl⟩, ⟨rfl, rfl, rfl, rfl, rfl⟩, rfl⟩ rfl ?_) | fail)
    | (refine auD ?_)
    | (with_reducible refine runR_b (fun h => ?_) (fun h => ?_) <;> first | exact auH | simp only [h, runR_t, runR_f])
    | (with_reducible refine condK_bl ?_ ?_)
    | (with_reducible refine condK_b (fun h => ?_) (fun h => ?_) <;> first | exact auH | skip)
    | fail)
  (all_goals first | exact auP | skip)
  all_goals first
    | (exfalso; simp_all; done)
    | skip
  all_goals with_reducible refine ret_spec2 (by (try first | refine auR ?_ | exact auR0); (repeat' (first | exact trivial | exact rfl | exact nfLL_map (fun x => by simp [nfL, nfD, nfD, nfL, hnf]) | decide | apply And.intro))) ?_
  all_goals (try first | refine auR ?_ | exact auR0)
  all_goals (try simp only [hsM] at *)
set_option maxRecDepth 8000 in
set_option maxHeartbeats 8000000 in
theorem client_talk (k0 k1 sz now : Int) (ms : List Gd) (r : Rd) (g : Sg) (i : Nat) (t : Gd) (hl : ms.length * 48 ≤ 140737488351232) (hr : U32 r.fr ∧ U32 r.to) (hg : SegOk g) (hg2 : SegArg g) (hd : ∀ t ∈ ms, GdOk t) (he : refG sz ms r g now = 0) (h1 : (yngG now ms)[i]? = some t) (h3 : firstI (onR r) (yngG now ms) 0 = (i : Nat)) (h4 : butI i (yngG now ms) = butR t.rd (yngG now ms)) : CVspec k0 k1 sz now ms r g (cliT g now (yngG now ms) t) := by
  have hml : ms.length ≤ maxLen := by unfold maxLen; omega
  have hcl := gdclonef_spec ms false (by unfold room maxLen; omega)
  have hrf := prefused_spec k0 k1 sz now ms r g hml (fun t ht => (hd t ht).2.2.1) hr hg
  have hnf : ∀ g (l : List Gd), nfLL g (l.map Gd.enc) := nf_gd
  have hno := nf_opt
  rw [he] at hrf
  obtain ⟨hl64, hap, hat, hnow⟩ := ref_ok he
  have hbg := begun_spec k0 k1 sz now ms hnow hl64 hat
  have hql : (yngG now ms).length ≤ 64 := Nat.le_trans (List.length_filter_le _ _) hl64
  have hqm : ∀ t ∈ yngG now ms, GdOk t := fun t ht => hd t (yng_mem ht)
  have hpl := place_spec k0 k1 sz (yngG now ms) r (by unfold maxLen; omega)
  clear he
  rw [h3] at hpl
  clear h3
  have htq := hqm t (List.mem_of_getElem? h1)
  generalize yngG now ms = q at *
  clear hqm hap hat hd
  obtain ⟨hsq, hck, hdl⟩ := htq
  unfold cliT
  rw [← h4]
  clear h4
  cases hh4 : hasF g 4 with
  | true =>
    rw [if_pos rfl]
    cases hop : t.op with
    | true =>
      have hfs := fun n m => fromC_A k0 k1 sz now q n m i g t h1 hql hg2 hdl hh4 hop
      simp only [if_true]
      dsimp only [CVspec, dCv, dKp, SegK.row]
      refine hspec_fn Try.func9 rfl ok_proxy_Client okr_proxy_Client rfl (by kernel_rfl) ?_
      intro Γ hW0 hN0 hL0
      have hW := hW0 rfl
      clear hW0 hN0 hL0
      unfold x_proxy_Client r_proxy_Client
      refine auC ?_
      repeat' (first
        | (refine auS ?_)
        | (first | (with_reducible refine runR_call hcl ?_) | (with_reducible refine runR_call hrf ?_) | (refine runR_callM [0, 1] (by decide) rfl hbg ?_) | (refine runR_callF 1 rfl hpl ⟨⟨rfl, rfl, rfl, .inl ⟨rfl, rfl, by simp, by rw [xall (by simp)]⟩, rfl⟩, ⟨rfl, rfl, rfl, rfl, rfl⟩, rfl⟩ rfl ?_) | (refine runR_callHHM 0 1 [8] (by decide) rfl rfl rfl (hfs _ _) ?_))
        | (refine auD ?_)
        | (with_reducible refine runR_b (fun h => ?_) (fun h => ?_) <;> first | exact auH | simp only [h, runR_t, runR_f])
        | (with_reducible refine condK_bl ?_ ?_)
        | (with_reducible refine condK_b (fun h => ?_) (fun h => ?_) <;> first | exact auH | skip)
        | fail)
      (all_goals first | exact auP | skip)
      all_goals first
        | (exfalso; simp_all; done)
        | skip
      refine retq_le (leG_freezeO hW 5 1 (by decide) (ys := [[.v (.int .u64 k0), .v (.int .u64 k1), .v (.int .i64 sz), .snap 9 ((butI i q).map Gd.enc) false]]) rfl rfl ⟨⟨rfl, rfl, rfl, .inl ⟨rfl, rfl, by simp, by rw [xall (by simp)]⟩, rfl⟩, rfl⟩) ?_
      refine retq_le (leG_freeze hW ⟨.d0, .d1, .d2⟩ rfl rfl ⟨rfl, rfl, Nat.le_refl _⟩) ?_
      simp only [one_row]
      all_goals with_reducible refine ret_spec2 (by (try first | refine auR ?_ | exact auR0); (repeat' (first | exact trivial | exact rfl | exact nfLL_map (fun x => by simp [nfL, nfD, nfD, nfL, hnf, hno]) | decide | apply And.intro))) ?_
      all_goals (try first | refine auR ?_ | exact auR0)
      all_goals (try simp only [hsM] at *)
      all_goals (first | rfl | skip)
    | false =>
      have hfs := fun n m => fromC_A2 k0 k1 sz now q n m i g t h1 hql hg2 hdl hh4 hop
      simp only [Bool.false_eq_true, if_false]
      dsimp only [CVspec, dCv, dKp, SegK.row]
      refine hspec_fn Try.func9 rfl ok_proxy_Client okr_proxy_Client rfl (by kernel_rfl) ?_
      intro Γ hW0 hN0 hL0
      have hW := hW0 rfl
      clear hW0 hN0 hL0
      unfold x_proxy_Client r_proxy_Client
      refine auC ?_
      repeat' (first
        | (refine auS ?_)
        | (first | (with_reducible refine runR_call hcl ?_) | (with_reducible refine runR_call hrf ?_) | (refine runR_callM [0, 1] (by decide) rfl hbg ?_) | (refine runR_callF 1 rfl hpl ⟨⟨rfl, rfl, rfl, .inl ⟨rfl, rfl, by simp, by rw [xall (by simp)]⟩, rfl⟩, ⟨rfl, rfl, rfl, rfl, rfl⟩, rfl⟩ rfl ?_) | (refine runR_callHH 0 1 (by decide) rfl rfl (hfs _ _) (fun _ _ _ h => h) ?_))
        | (refine auD ?_)
        | (with_reducible refine runR_b (fun h => ?_) (fun h => ?_) <;> first | exact auH | simp only [h, runR_t, runR_f])
        | (with_reducible refine condK_bl ?_ ?_)
        | (with_reducible refine condK_b (fun h => ?_) (fun h => ?_) <;> first | exact auH | skip)
        | fail)
      (all_goals first | exact auP | skip)
      all_goals first
        | (exfalso; simp_all; done)
        | skip
      refine retq_le (leG_freezeO hW 5 1 (by decide) (ys := [[.v (.int .u64 k0), .v (.int .u64 k1), .v (.int .i64 sz), .snap 9 ((butI i q).map Gd.enc) false]]) rfl rfl ⟨⟨rfl, rfl, rfl, .inl ⟨rfl, rfl, by simp, by rw [xall (by simp)]⟩, rfl⟩, rfl⟩) ?_
      all_goals with_reducible refine ret_spec2 (by (try first | refine auR ?_ | exact auR0); (repeat' (first | exact trivial | exact rfl | exact nfLL_map (fun x => by simp [nfL, nfD, nfD, nfL, hnf]) | decide | apply And.intro))) ?_
      all_goals (try first | refine auR ?_ | exact auR0)
      all_goals (try simp only [hsM] at *)
  | false =>
    rw [if_neg Bool.false_ne_true]
    cases hh2 : hasF g 2 with
    | true =>
      rw [if_pos rfl]
      have hfs := fun n m => fromC_B k0 k1 sz now q n m i g t h1 hql hg2 hdl hh4 hh2
      dsimp only [CVspec, dCv, dKp, SegK.row]
      refine hspec_fn Try.func9 rfl ok_proxy_Client okr_proxy_Client rfl (by kernel_rfl) ?_
      intro Γ hW0 hN0 hL0
      have hW := hW0 rfl
      clear hW0 hN0 hL0
      unfold x_proxy_Client r_proxy_Client
      refine auC ?_
      repeat' (first
        | (refine auS ?_)
        | (first | (with_reducible refine runR_call hcl ?_) | (with_reducible refine runR_call hrf ?_) | (refine runR_callM [0, 1] (by decide) rfl hbg ?_) | (refine runR_callF 1 rfl hpl ⟨⟨rfl, rfl, rfl, .inl ⟨rfl, rfl, by simp, by rw [xall (by simp)]⟩, rfl⟩, ⟨rfl, rfl, rfl, rfl, rfl⟩, rfl⟩ rfl ?_) | (refine runR_callHH 0 1 (by decide) rfl rfl (hfs _ _) (fun _ _ _ h => h) ?_))
        | (refine auD ?_)
        | (with_reducible refine runR_b (fun h => ?_) (fun h => ?_) <;> first | exact auH | simp only [h, runR_t, runR_f])
        | (with_reducible refine condK_bl ?_ ?_)
        | (with_reducible refine condK_b (fun h => ?_) (fun h => ?_) <;> first | exact auH | skip)
        | fail)
      (all_goals first | exact auP | skip)
      all_goals first
        | (exfalso; simp_all; done)
        | skip
      refine retq_le (leG_freezeO hW 5 1 (by decide) (ys := [[.v (.int .u64 k0), .v (.int .u64 k1), .v (.int .i64 sz), .snap 9 ((q).map Gd.enc) false]]) rfl rfl ⟨⟨rfl, rfl, rfl, .inl ⟨rfl, rfl, by simp, by rw [xall (by simp)]⟩, rfl⟩, rfl⟩) ?_
      all_goals with_reducible refine ret_spec2 (by (try first | refine auR ?_ | exact auR0); (repeat' (first | exact trivial | exact rfl | exact nfLL_map (fun x => by simp [nfL, nfD, nfD, nfL, hnf]) | decide | apply And.intro))) ?_
      all_goals (try first | refine auR ?_ | exact auR0)
      all_goals (try simp only [hsM] at *)
    | false =>
      rw [if_neg Bool.false_ne_true]
      cases hop : t.op with
      | true =>
        rw [if_pos rfl]
        have hfs := fun n m => fromC_C k0 k1 sz now q n m i g t h1 hql hg2 hdl hh4 hh2 hop
        generalize t.heardAt now = t2 at *
        dsimp only [CVspec, dCv, dKp, SegK.row]
        refine hspec_fn Try.func9 rfl ok_proxy_Client okr_proxy_Client rfl (by kernel_rfl) ?_
        intro Γ hW0 hN0 hL0
        have hW := hW0 rfl
        clear hW0 hN0 hL0
        unfold x_proxy_Client r_proxy_Client
        refine auC ?_
        repeat' (first
          | (refine auS ?_)
          | (first | (with_reducible refine runR_call hcl ?_) | (with_reducible refine runR_call hrf ?_) | (refine runR_callM [0, 1] (by decide) rfl hbg ?_) | (refine runR_callF 1 rfl hpl ⟨⟨rfl, rfl, rfl, .inl ⟨rfl, rfl, by simp, by rw [xall (by simp)]⟩, rfl⟩, ⟨rfl, rfl, rfl, rfl, rfl⟩, rfl⟩ rfl ?_) | (refine runR_callHHM 0 1 [9, 8] (by decide) rfl rfl rfl (hfs _ _) ?_))
          | (refine auD ?_)
          | (with_reducible refine runR_b (fun h => ?_) (fun h => ?_) <;> first | exact auH | simp only [h, runR_t, runR_f])
          | (with_reducible refine condK_bl ?_ ?_)
          | (with_reducible refine condK_b (fun h => ?_) (fun h => ?_) <;> first | exact auH | skip)
          | fail)
        (all_goals first | exact auP | skip)
        all_goals first
          | (exfalso; simp_all; done)
          | skip
        refine retq_le (leG_freezeO hW 5 9 (by decide) (ys := [[.v (.int .u64 k0), .v (.int .u64 k1), .v (.int .i64 sz), .snap 9 ((butI i q ++ [t2]).map Gd.enc) false]]) rfl rfl ⟨⟨rfl, rfl, rfl, .inl ⟨rfl, rfl, by simp, by rw [xall (by simp)]⟩, rfl⟩, rfl⟩) ?_
        refine retq_le (leG_freeze hW ⟨.d0, .d1, .d2⟩ rfl rfl ⟨rfl, rfl, Nat.le_refl _⟩) ?_
        simp only [one_row]
        all_goals with_reducible refine ret_spec2 (by (try first | refine auR ?_ | exact auR0); (repeat' (first | exact trivial | exact rfl | exact nfLL_map (fun x => by simp [nfL, nfD, nfD, nfL, hnf, hno]) | decide | apply And.intro))) ?_
        all_goals (try first | refine auR ?_ | exact auR0)
        all_goals (try simp only [hsM] at *)
        all_goals (first | rfl | skip)
      | false =>
        rw [if_neg Bool.false_ne_true]
        cases hh16 : hasF g 16 with
        | true =>
          rw [if_pos rfl]
          have hfs := fun n m => fromC_D k0 k1 sz now q n m i g t h1 hql hg2 hdl hh4 hh2 hop hh16
          dsimp only [CVspec, dCv, dKp, SegK.row]
          refine hspec_fn Try.func9 rfl ok_proxy_Client okr_proxy_Client rfl (by kernel_rfl) ?_
          intro Γ hW0 hN0 hL0
          have hW := hW0 rfl
          clear hW0 hN0 hL0
          unfold x_proxy_Client r_proxy_Client
          refine auC ?_
          repeat' (first
            | (refine auS ?_)
            | (first | (with_reducible refine runR_call hcl ?_) | (with_reducible refine runR_call hrf ?_) | (refine runR_callM [0, 1] (by decide) rfl hbg ?_) | (refine runR_callF 1 rfl hpl ⟨⟨rfl, rfl, rfl, .inl ⟨rfl, rfl, by simp, by rw [xall (by simp)]⟩, rfl⟩, ⟨rfl, rfl, rfl, rfl, rfl⟩, rfl⟩ rfl ?_) | (refine runR_callHHM 0 1 [8] (by decide) rfl rfl rfl (hfs _ _) ?_))
            | (refine auD ?_)
            | (with_reducible refine runR_b (fun h => ?_) (fun h => ?_) <;> first | exact auH | simp only [h, runR_t, runR_f])
            | (with_reducible refine condK_bl ?_ ?_)
            | (with_reducible refine condK_b (fun h => ?_) (fun h => ?_) <;> first | exact auH | skip)
            | fail)
          (all_goals first | exact auP | skip)
          all_goals first
            | (exfalso; simp_all; done)
            | skip
          refine retq_le (leG_freezeO hW 5 1 (by decide) (ys := [[.v (.int .u64 k0), .v (.int .u64 k1), .v (.int .i64 sz), .snap 9 ((q).map Gd.enc) false]]) rfl rfl ⟨⟨rfl, rfl, rfl, .inl ⟨rfl, rfl, by simp, by rw [xall (by simp)]⟩, rfl⟩, rfl⟩) ?_
          refine retq_le (leG_freeze hW ⟨.d0, .d1, .d2⟩ rfl rfl ⟨rfl, rfl, Nat.le_refl _⟩) ?_
          simp only [one_row]
          all_goals with_reducible refine ret_spec2 (by (try first | refine auR ?_ | exact auR0); (repeat' (first | exact trivial | exact rfl | exact nfLL_map (fun x => by simp [nfL, nfD, nfD, nfL, hnf, hno]) | decide | apply And.intro))) ?_
          all_goals (try first | refine auR ?_ | exact auR0)
          all_goals (try simp only [hsM] at *)
          all_goals (first | rfl | skip)
        | false =>
          rw [if_neg Bool.false_ne_true]
          have hfs := fun n m => fromC_E k0 k1 sz now q n m i g t h1 hql hg2 hdl hh4 hh2 hop hh16
          dsimp only [CVspec, dCv, dKp, SegK.row]
          refine hspec_fn Try.func9 rfl ok_proxy_Client okr_proxy_Client rfl (by kernel_rfl) ?_
          intro Γ hW0 hN0 hL0
          have hW := hW0 rfl
          clear hW0 hN0 hL0
          unfold x_proxy_Client r_proxy_Client
          refine auC ?_
          repeat' (first
            | (refine auS ?_)
            | (first | (with_reducible refine runR_call hcl ?_) | (with_reducible refine runR_call hrf ?_) | (refine runR_callM [0, 1] (by decide) rfl hbg ?_) | (refine runR_callF 1 rfl hpl ⟨⟨rfl, rfl, rfl, .inl ⟨rfl, rfl, by simp, by rw [xall (by simp)]⟩, rfl⟩, ⟨rfl, rfl, rfl, rfl, rfl⟩, rfl⟩ rfl ?_) | (refine runR_callHH 0 1 (by decide) rfl rfl (hfs _ _) (fun _ _ _ h => h) ?_))
            | (refine auD ?_)
            | (with_reducible refine runR_b (fun h => ?_) (fun h => ?_) <;> first | exact auH | simp only [h, runR_t, runR_f])
            | (with_reducible refine condK_bl ?_ ?_)
            | (with_reducible refine condK_b (fun h => ?_) (fun h => ?_) <;> first | exact auH | skip)
            | fail)
          (all_goals first | exact auP | skip)
          all_goals first
            | (exfalso; simp_all; done)
            | skip
          refine retq_le (leG_freezeO hW 5 1 (by decide) (ys := [[.v (.int .u64 k0), .v (.int .u64 k1), .v (.int .i64 sz), .snap 9 ((q).map Gd.enc) false]]) rfl rfl ⟨⟨rfl, rfl, rfl, .inl ⟨rfl, rfl, by simp, by rw [xall (by simp)]⟩, rfl⟩, rfl⟩) ?_
          all_goals with_reducible refine ret_spec2 (by (try first | refine auR ?_ | exact auR0); (repeat' (first | exact trivial | exact rfl | exact nfLL_map (fun x => by simp [nfL, nfD, nfD, nfL, hnf]) | decide | apply And.intro))) ?_
          all_goals (try first | refine auR ?_ | exact auR0)
          all_goals (try simp only [hsM] at *)
set_option maxRecDepth 8000 in
set_option maxHeartbeats 8000000 in
theorem client_new (k0 k1 sz now : Int) (ms : List Gd) (r : Rd) (g : Sg) (hl : ms.length * 48 ≤ 140737488351232) (hr : U32 r.fr ∧ U32 r.to) (hg : SegOk g) (hg2 : SegArg g) (hd : ∀ t ∈ ms, GdOk t) (he : refG sz ms r g now = 0) (h3 : firstI (onR r) (yngG now ms) 0 = -1) : CVspec k0 k1 sz now ms r g (cliS k0 k1 sz ms r g now (yngG now ms)) := by
  have hml : ms.length ≤ maxLen := by unfold maxLen; omega
  have hcl := gdclonef_spec ms false (by unfold room maxLen; omega)
  have hrf := prefused_spec k0 k1 sz now ms r g hml (fun t ht => (hd t ht).2.2.1) hr hg
  have hnf : ∀ g (l : List Gd), nfLL g (l.map Gd.enc) := nf_gd
  have hno := nf_opt
  rw [he] at hrf
  obtain ⟨hl64, hap, hat, hnow⟩ := ref_ok he
  have hbg := begun_spec k0 k1 sz now ms hnow hl64 hat
  have hql : (yngG now ms).length ≤ 64 := Nat.le_trans (List.length_filter_le _ _) hl64
  have hqm : ∀ t ∈ yngG now ms, GdOk t := fun t ht => hd t (yng_mem ht)
  have hpl := place_spec k0 k1 sz (yngG now ms) r (by unfold maxLen; omega)
  obtain ⟨hfl, hsz⟩ := ref_flags he
  have hF1 := flags_S1 hfl
  have hF2 := flags_S2 hfl
  clear he
  rw [h3] at hpl
  clear h3
  generalize yngG now ms = q at *
  clear hqm hap hat hd
  have hsq : U32 g.seq := hg2.2.2.2.1
  have hak : U32 g.ack := hg2.2.2.2.2
  unfold cliS
  by_cases hs1 : hasF g 2 = true ∧ hasF g 16 = false ∧ hasF g 1 = false ∧ hasF g 4 = false
  · rw [if_pos hs1]
    have hfs := fun n m => str_S1 k0 k1 sz now q n m r g hg2.1 hr hsq hnow (hF1.2 hs1)
    generalize synC k0 k1 r g now = c at *
    clear hF1 hF2 hs1
    dsimp only [CVspec, dCv, dKp, SegK.row]
    refine hspec_fn Try.func9 rfl ok_proxy_Client okr_proxy_Client rfl (by kernel_rfl) ?_
    intro Γ hW0 hN0 hL0
    have hW := hW0 rfl
    clear hW0 hN0 hL0
    unfold x_proxy_Client r_proxy_Client
    refine auC ?_
    repeat' (first
      | (refine auS ?_)
      | (first | (with_reducible refine runR_call hcl ?_) | (with_reducible refine runR_call hrf ?_) | (refine runR_callM [0, 1] (by decide) rfl hbg ?_) | (refine runR_callF 1 rfl hpl ⟨⟨rfl, rfl, rfl, .inl ⟨rfl, rfl, by simp, by rw [xall (by simp)]⟩, rfl⟩, ⟨rfl, rfl, rfl, rfl, rfl⟩, rfl⟩ rfl ?_) | (refine runR_callHHM 0 1 [8] (by decide) rfl rfl rfl (hfs _ _) ?_))
      | (refine auD ?_)
      | (with_reducible refine runR_b (fun h => ?_) (fun h => ?_) <;> first | exact auH | simp only [h, runR_t, runR_f])
      | (with_reducible refine condK_bl ?_ ?_)
      | (with_reducible refine condK_b (fun h => ?_) (fun h => ?_) <;> first | exact auH | skip)
      | fail)
    (all_goals first | exact auP | skip)
    all_goals first
      | (exfalso; simp_all; done)
      | skip
    refine retq_le (leG_freezeO hW 5 1 (by decide) (ys := [[.v (.int .u64 k0), .v (.int .u64 k1), .v (.int .i64 sz), .snap 9 ((q).map Gd.enc) false]]) rfl rfl ⟨⟨rfl, rfl, rfl, .inl ⟨rfl, rfl, by simp, by rw [xall (by simp)]⟩, rfl⟩, rfl⟩) ?_
    refine retq_le (leG_freeze hW ⟨.d0, .d1, .d1⟩ rfl rfl ⟨rfl, rfl, Nat.le_refl _⟩) ?_
    simp only [one_row]
    all_goals with_reducible refine ret_spec2 (by (try first | refine auR ?_ | exact auR0); (repeat' (first | exact trivial | exact rfl | exact nfLL_map (fun x => by simp [nfL, nfD, nfD, nfL, hnf, hno]) | decide | apply And.intro))) ?_
    all_goals (try first | refine auR ?_ | exact auR0)
    all_goals (try simp only [hsM] at *)
    all_goals (first | rfl | skip)
  rw [if_neg hs1]
  by_cases hs2 : hasF g 16 = true ∧ hasF g 2 = false ∧ hasF g 4 = false
  · rw [if_pos hs2]
    have hf2 := hF2.2 hs2
    clear hF1 hF2 hs1 hs2
    by_cases hx : (opnC k0 k1 r g now).2 = 0
    rotate_left
    · rw [if_pos hx]
      have hfs := fun n m => str_S2a k0 k1 sz now q n m r g hql hr hsq hak hnow hf2 hx
      clear hx hf2
      dsimp only [CVspec, dCv, dKp, SegK.row]
      refine hspec_fn Try.func9 rfl ok_proxy_Client okr_proxy_Client rfl (by kernel_rfl) ?_
      intro Γ hW0 hN0 hL0
      have hW := hW0 rfl
      clear hW0 hN0 hL0
      unfold x_proxy_Client r_proxy_Client
      refine auC ?_
      repeat' (first
        | (refine auS ?_)
        | (first | (with_reducible refine runR_call hcl ?_) | (with_reducible refine runR_call hrf ?_) | (refine runR_callM [0, 1] (by decide) rfl hbg ?_) | (refine runR_callF 1 rfl hpl ⟨⟨rfl, rfl, rfl, .inl ⟨rfl, rfl, by simp, by rw [xall (by simp)]⟩, rfl⟩, ⟨rfl, rfl, rfl, rfl, rfl⟩, rfl⟩ rfl ?_) | (refine runR_callHHM 0 1 [8] (by decide) rfl rfl rfl (hfs _ _) ?_))
        | (refine auD ?_)
        | (with_reducible refine runR_b (fun h => ?_) (fun h => ?_) <;> first | exact auH | simp only [h, runR_t, runR_f])
        | (with_reducible refine condK_bl ?_ ?_)
        | (with_reducible refine condK_b (fun h => ?_) (fun h => ?_) <;> first | exact auH | skip)
        | fail)
      (all_goals first | exact auP | skip)
      all_goals first
        | (exfalso; simp_all; done)
        | skip
      refine retq_le (leG_freezeO hW 5 1 (by decide) (ys := [[.v (.int .u64 k0), .v (.int .u64 k1), .v (.int .i64 sz), .snap 9 ((q).map Gd.enc) false]]) rfl rfl ⟨⟨rfl, rfl, rfl, .inl ⟨rfl, rfl, by simp, by rw [xall (by simp)]⟩, rfl⟩, rfl⟩) ?_
      refine retq_le (leG_freeze hW ⟨.d0, .d1, .d1⟩ rfl rfl ⟨rfl, rfl, Nat.le_refl _⟩) ?_
      simp only [one_row]
      all_goals with_reducible refine ret_spec2 (by (try first | refine auR ?_ | exact auR0); (repeat' (first | exact trivial | exact rfl | exact nfLL_map (fun x => by simp [nfL, nfD, nfD, nfL, hnf, hno]) | decide | apply And.intro))) ?_
      all_goals (try first | refine auR ?_ | exact auR0)
      all_goals (try simp only [hsM] at *)
      all_goals (first | rfl | skip)
    rw [if_neg (not_not_intro hx)]
    by_cases h64 : q.length = 64
    · rw [if_pos h64]
      have hfs := fun n m => str_S2b k0 k1 sz now q n m r g hql hr hsq hak hnow hf2 hx h64
      clear hx hf2
      dsimp only [CVspec, dCv, dKp, SegK.row]
      refine hspec_fn Try.func9 rfl ok_proxy_Client okr_proxy_Client rfl (by kernel_rfl) ?_
      intro Γ hW0 hN0 hL0
      have hW := hW0 rfl
      clear hW0 hN0 hL0
      unfold x_proxy_Client r_proxy_Client
      refine auC ?_
      repeat' (first
        | (refine auS ?_)
        | (first | (with_reducible refine runR_call hcl ?_) | (with_reducible refine runR_call hrf ?_) | (refine runR_callM [0, 1] (by decide) rfl hbg ?_) | (refine runR_callF 1 rfl hpl ⟨⟨rfl, rfl, rfl, .inl ⟨rfl, rfl, by simp, by rw [xall (by simp)]⟩, rfl⟩, ⟨rfl, rfl, rfl, rfl, rfl⟩, rfl⟩ rfl ?_) | (refine runR_callHH 0 1 (by decide) rfl rfl (hfs _ _) (fun _ _ _ h => h) ?_))
        | (refine auD ?_)
        | (with_reducible refine runR_b (fun h => ?_) (fun h => ?_) <;> first | exact auH | simp only [h, runR_t, runR_f])
        | (with_reducible refine condK_bl ?_ ?_)
        | (with_reducible refine condK_b (fun h => ?_) (fun h => ?_) <;> first | exact auH | skip)
        | fail)
      (all_goals first | exact auP | skip)
      all_goals first
        | (exfalso; simp_all; done)
        | skip
      all_goals with_reducible refine ret_spec2 (by (try first | refine auR ?_ | exact auR0); (repeat' (first | exact trivial | exact rfl | exact nfLL_map (fun x => by simp [nfL, nfD, nfD, nfL, hnf]) | decide | apply And.intro))) ?_
      all_goals (try first | refine auR ?_ | exact auR0)
      all_goals (try simp only [hsM] at *)
    · rw [if_neg h64]
      have hfs := fun n m => str_S2c k0 k1 sz now q n m r g hql hr hsq hak hnow hf2 hx h64
      generalize (opnC k0 k1 r g now).1 = x1 at *
      clear hx hf2 h64
      generalize newT r g now = t2 at *
      dsimp only [CVspec, dCv, dKp, SegK.row]
      refine hspec_fn Try.func9 rfl ok_proxy_Client okr_proxy_Client rfl (by kernel_rfl) ?_
      intro Γ hW0 hN0 hL0
      have hW := hW0 rfl
      clear hW0 hN0 hL0
      unfold x_proxy_Client r_proxy_Client
      refine auC ?_
      repeat' (first
        | (refine auS ?_)
        | (first | (with_reducible refine runR_call hcl ?_) | (with_reducible refine runR_call hrf ?_) | (refine runR_callM [0, 1] (by decide) rfl hbg ?_) | (refine runR_callF 1 rfl hpl ⟨⟨rfl, rfl, rfl, .inl ⟨rfl, rfl, by simp, by rw [xall (by simp)]⟩, rfl⟩, ⟨rfl, rfl, rfl, rfl, rfl⟩, rfl⟩ rfl ?_) | (refine runR_callHHM 0 1 [9, 8] (by decide) rfl rfl rfl (hfs _ _) ?_))
        | (refine auD ?_)
        | (with_reducible refine runR_b (fun h => ?_) (fun h => ?_) <;> first | exact auH | simp only [h, runR_t, runR_f])
        | (with_reducible refine condK_bl ?_ ?_)
        | (with_reducible refine condK_b (fun h => ?_) (fun h => ?_) <;> first | exact auH | skip)
        | fail)
      (all_goals first | exact auP | skip)
      all_goals first
        | (exfalso; simp_all; done)
        | skip
      refine retq_le (leG_freezeO hW 5 9 (by decide) (ys := [[.v (.int .u64 k0), .v (.int .u64 k1), .v (.int .i64 sz), .snap 9 ((q ++ [t2]).map Gd.enc) false]]) rfl rfl ⟨⟨rfl, rfl, rfl, .inl ⟨rfl, rfl, by simp, by rw [xall (by simp)]⟩, rfl⟩, rfl⟩) ?_
      refine retq_le (leG_freeze hW ⟨.d0, .d1, .d2⟩ rfl rfl ⟨rfl, rfl, Nat.le_refl _⟩) ?_
      simp only [one_row]
      all_goals with_reducible refine ret_spec2 (by (try first | refine auR ?_ | exact auR0); (repeat' (first | exact trivial | exact rfl | exact nfLL_map (fun x => by simp [nfL, nfD, nfD, nfL, hnf, hno]) | decide | apply And.intro))) ?_
      all_goals (try first | refine auR ?_ | exact auR0)
      all_goals (try simp only [hsM] at *)
      all_goals (first | rfl | skip)
  · rw [if_neg hs2]
    have hfs := fun n m => str_S3 k0 k1 sz now q n m r g hql hr hsq hak hnow ⟨fun h => hs1 (hF1.1 h), fun h => hs2 (hF2.1 (.inl h)), fun h => hs2 (hF2.1 (.inr h))⟩
    clear hF1 hF2 hs1 hs2
    dsimp only [CVspec, dCv, dKp, SegK.row]
    refine hspec_fn Try.func9 rfl ok_proxy_Client okr_proxy_Client rfl (by kernel_rfl) ?_
    intro Γ hW0 hN0 hL0
    have hW := hW0 rfl
    clear hW0 hN0 hL0
    unfold x_proxy_Client r_proxy_Client
    refine auC ?_
    repeat' (first
      | (refine auS ?_)
      | (first | (with_reducible refine runR_call hcl ?_) | (with_reducible refine runR_call hrf ?_) | (refine runR_callM [0, 1] (by decide) rfl hbg ?_) | (refine runR_callF 1 rfl hpl ⟨⟨rfl, rfl, rfl, .inl ⟨rfl, rfl, by simp, by rw [xall (by simp)]⟩, rfl⟩, ⟨rfl, rfl, rfl, rfl, rfl⟩, rfl⟩ rfl ?_) | (refine runR_callHH 0 1 (by decide) rfl rfl (hfs _ _) (fun _ _ _ h => h) ?_))
      | (refine auD ?_)
      | (with_reducible refine runR_b (fun h => ?_) (fun h => ?_) <;> first | exact auH | simp only [h, runR_t, runR_f])
      | (with_reducible refine condK_bl ?_ ?_)
      | (with_reducible refine condK_b (fun h => ?_) (fun h => ?_) <;> first | exact auH | skip)
      | fail)
    (all_goals first | exact auP | skip)
    all_goals first
      | (exfalso; simp_all; done)
      | skip
    refine retq_le (leG_freezeO hW 5 1 (by decide) (ys := [[.v (.int .u64 k0), .v (.int .u64 k1), .v (.int .i64 sz), .snap 9 ((q).map Gd.enc) false]]) rfl rfl ⟨⟨rfl, rfl, rfl, .inl ⟨rfl, rfl, by simp, by rw [xall (by simp)]⟩, rfl⟩, rfl⟩) ?_
    all_goals with_reducible refine ret_spec2 (by (try first | refine auR ?_ | exact auR0); (repeat' (first | exact trivial | exact rfl | exact nfLL_map (fun x => by simp [nfL, nfD, nfD, nfL, hnf]) | decide | apply And.intro))) ?_
    all_goals (try first | refine auR ?_ | exact auR0)
    all_goals (try simp only [hsM] at *)
end Go.Proofs.Ytegejpieedckiaa
