/-
  Tries in the program: flat; a function that only reads a tree, given one of the caller's own.
-/
import Derived.Test.YtlfbjdafnappdaaPutT
namespace Go.Proofs.Ytlfbjdafnappdaa
set_option linter.unusedVariables false
set_option linter.unusedSimpArgs false
theorem go_rowG {Γ : Gm} {P : Program} {N : Nat} {R : St → Prop} {x : XC} {kk : List KI} {st : St} (j k sz : Nat) (hjk : j ≠ k) {n : Nat} (hp : lget st.H j = some ⟨n, 1, [[.v (.slice none 0 0)]]⟩) (h : Go Γ P N R x kk ⟨st.tm, lset (lset st.H j (some ⟨n, 1, [[.sl k st.gen sz 0 0 false]]⟩)) k (some ⟨st.gen, sz, []⟩), st.gen + 1⟩) : Go Γ P N R x kk st :=
  go_leG (le_leG (le_rowG j k sz 1 hjk (y := [.sl k st.gen sz 0 0 false]) hp rfl (fun i d d' h1 h2 => by
    match i, h1, h2 with
    | 0, h1, h2 =>
      obtain rfl := Option.some.inj h1
      obtain rfl := Option.some.inj h2
      exact .inr ⟨rfl, k, rfl⟩
    | i + 1, h1, h2 => simp at h1) Nat.one_pos)) h
abbrev FlatS (T : Tr) : Prop := MSpec Try.prog 29 [dTr T] [] 1 (fun n d H => d = .agg [.sl 0 n 4 0 (lay T 0).length false] ∧ H = [some ⟨n, 4, ndX (lay T 0)⟩])
theorem flat_spec : ∀ (T : Tr), T.size ≤ 20000 → FlatS T
  | .nil, _ => by
    have hcall := fun (a b : Nat) => a
    show MSpec Try.prog _ [.v (.pointer none)] [] 1 (fun n d H => d = .agg [.sl 0 n 4 0 0 false] ∧ H = [some ⟨n, 4, []⟩])
    refine mspec_fn Try.func29 rfl ok_prefix_flat okr_prefix_flat rfl (by kernel_rfl) ?_
    intro Γ hW0 hN0 hL0
    have hW := hW0 rfl
    clear hW0 hN0 hL0
    unfold x_prefix_flat r_prefix_flat
    with_reducible refine auC ?_
    repeat' (first
      | ((with_reducible refine atGo ?_); (refine go_rowG 1 3 4 (by decide) rfl ?_))
      | (with_reducible refine auS ?_)
      | (first | ((with_reducible refine atCall 44 ?_); (refine runR_callG [1, 8, 9, 3] [] [1, 8, 9, 3] rfl (by decide) rfl rfl (hcall _ _) ?_)))
      | (with_reducible refine auD ?_)
      | ((with_reducible refine auB ?_ ?_); all_goals first | (intro h; first | exact auH | simp only [h, runR_t, runR_f] | skip) | skip)
      | fail)
    (all_goals first | exact auP | skip)
    refine ret_m [3] [Γ.g0 + 2] ⟨⟨rfl, rfl, Nat.succ_pos _, Nat.le_refl 1⟩, trivial⟩ (by decide) rfl (fun a ha => by simp at ha; subst ha; exact ⟨3, _, rfl, rfl⟩) (fun m => ⟨⟨0, m, .inl ⟨0, rfl, rfl⟩, rfl⟩, rfl⟩) (fun m => ⟨⟨.inl ⟨0, rfl, rfl⟩, rfl, rfl⟩, rfl⟩)
  | .node l r s v, hs => by
    have hcall : ∀ nL rL, MSpec Try.prog 44 [.rptr [dTr l, dTr r, .v (.bool s), .v (.int .i64 v)], .ptr 1 nL 1 0 0] [some (lC nL rL 0), none, none, some ⟨rL, 4, []⟩] 1 (fun m d H => d = .v (.int .i64 ((0 : Nat) : Int)) ∧ H = hLay nL m (lay (.node l r s v) 0)) := fun nL rL => mspec_args (lay_spec (.node l r s v) nL rL [] (by intro h; cases h) (by simpa using hs)) (fun K w vs hv => argsRel_mem hv rfl (fun q d e hd he v hr => by
      match q, hd, he with
      | 0, hd, he => obtain rfl := Option.some.inj hd; obtain rfl := Option.some.inj he; exact hr
      | 1, hd, he => obtain rfl := Option.some.inj hd; obtain rfl := Option.some.inj he; exact ptr_label hr
      | q + 2, hd, he => simp at hd))
    unfold FlatS
    simp only [dTr]
    generalize lay (.node l r s v) 0 = Y at *
    refine mspec_fn Try.func29 rfl ok_prefix_flat okr_prefix_flat rfl (by kernel_rfl) ?_
    intro Γ hW0 hN0 hL0
    have hW := hW0 rfl
    clear hW0 hN0 hL0
    unfold x_prefix_flat r_prefix_flat
    with_reducible refine auC ?_
    repeat' (first
      | ((with_reducible refine atGo ?_); (refine go_rowG 1 3 4 (by decide) rfl ?_))
      | (with_reducible refine auS ?_)
      | (first | ((with_reducible refine atCall 44 ?_); (refine runR_callG [1, 8, 9, 3] [] [1, 8, 9, 3] rfl (by decide) rfl rfl (hcall _ _) ?_)))
      | (with_reducible refine auD ?_)
      | ((with_reducible refine auB ?_ ?_); all_goals first | (intro h; first | exact auH | simp only [h, runR_t, runR_f] | skip) | skip)
      | fail)
    (all_goals first | exact auP | skip)
    refine ret_m [3] [Γ.g0 + 3] ⟨⟨rfl, rfl, Nat.succ_pos _, Nat.le_refl 1⟩, trivial⟩ (by decide) rfl (fun a ha => by simp at ha; subst ha; exact ⟨3, _, rfl, rfl⟩) (fun m => ⟨⟨0, m, .inl ⟨0, rfl, rfl⟩, rfl⟩, rfl⟩) (fun m => ⟨⟨.inl ⟨0, rfl, rfl⟩, rfl, renMLL_nf _ (ndX_nf _ _)⟩, rfl⟩)
/-- What is known, the objects of a list not written any more. -/
def offH (K : Kr) (H0 : HL) : Kr := ⟨K.dom, K.real, K.μ, fun g => K.M g ∧ ¬ ∃ k o, lget H0 k = some o ∧ K.real o.n ∧ K.μ o.n = g⟩
theorem mono_offH (K : Kr) (H0 : HL) (w : World) : Mono K w (offH K H0) w := ⟨Ext.refl _ _, fun n h => ⟨h, rfl⟩, fun g _ h => h.1⟩
theorem lget_of : ∀ (H : HL) (i : Nat) (o : AObj), H[i]? = some (some o) → lget H i = some o
  | [], i, o, h => by simp at h
  | a :: H, 0, o, h => by
    have h : a = some o := by simpa using h
    exact h
  | a :: H, i + 1, o, h => lget_of H i o (by simpa using h)
theorem tree_rel {Γ : Gm} {K : Kr} {w : World} {H0 : HL} (hI : Inv Γ K (lget H0) w) : ∀ (T : Tr) (a : Nat) (v : Value), (∀ o, some o ∈ spH T a → some o ∈ H0) → VRel K w (spD T a) v → VRel (offH K H0) w (dTr T) v
  | .nil, a, v, _, h => by
    cases h
    exact .v _
  | .node l r s x, a, v, hin, h => by
    have ho := hin _ List.mem_cons_self
    obtain ⟨i, hi⟩ := List.mem_iff_getElem?.1 ho
    have hg := lget_of _ _ _ hi
    have hL := tree_rel hI l (a + 1)
    have hR := tree_rel hI r (a + 1 + l.size)
    have hiL : ∀ o, some o ∈ spH l (a + 1) → some o ∈ H0 := fun o h => hin o (List.mem_cons_of_mem _ (List.mem_append_left _ h))
    have hiR : ∀ o, some o ∈ spH r (a + 1 + l.size) → some o ∈ H0 := fun o h => hin o (List.mem_cons_of_mem _ (List.mem_append_right _ h))
    have h : VRel K w (.ptr 0 a 4 0 0) v := h
    cases h with
    | ptr hreal hcl =>
      rcases (hI.obj i _ hg).two (fun hm => by have := hm.2.1; simp only at this; omega) with ⟨q1, -⟩ | ⟨q1, cs, t, fr, q2, q3, q4, q5, q6⟩
      · exact absurd hreal q1
      · have hat : ∀ (j : Nat) (d : DV), (spC l r s x a)[j]? = some d → ∃ c, cs[j]? = some c ∧ VRel K w d c := fun j d hd => by
          obtain ⟨c, c1, c2⟩ := q6 0 _ j d rfl hd
          rw [Nat.zero_mul, Nat.zero_add] at c1
          exact ⟨c, c1, c2⟩
        have hrel : ∀ (j : Nat) (d : DV), [dTr l, dTr r, DV.v (.bool s), DV.v (.int .i64 x)][j]? = some d → ∃ c, cs[j]? = some c ∧ VRel (offH K H0) w d c := fun j d hd => by
          match j, hd with
          | 0, hd =>
            obtain ⟨c, c1, c2⟩ := hat 0 _ rfl
            obtain rfl := Option.some.inj hd
            exact ⟨c, c1, hL c hiL c2⟩
          | 1, hd =>
            obtain ⟨c, c1, c2⟩ := hat 1 _ rfl
            obtain rfl := Option.some.inj hd
            exact ⟨c, c1, hR c hiR c2⟩
          | 2, hd =>
            obtain ⟨c, c1, c2⟩ := hat 2 _ rfl
            obtain rfl := Option.some.inj hd
            exact ⟨c, c1, c2.mono (mono_offH K H0 w)⟩
          | 3, hd =>
            obtain ⟨c, c1, c2⟩ := hat 3 _ rfl
            obtain rfl := Option.some.inj hd
            exact ⟨c, c1, c2.mono (mono_offH K H0 w)⟩
          | j + 4, hd => simp at hd
        show VRel (offH K H0) w (.rptr [dTr l, dTr r, .v (.bool s), .v (.int .i64 x)]) _
        refine .rptr (fun t => (cs[t]?).getD undef) rfl (hI.lt _ hreal) (fun q => q.2 ⟨i, _, hg, hreal, rfl⟩) (fun t d ht => ?_) (fun t d ht => ?_)
        · obtain ⟨c, c1, -⟩ := hrel t d ht
          rw [addr_add, cell_of_row w _ _ cs _ fr q3]
          simp [c1]
        · obtain ⟨c, c1, c2⟩ := hrel t d ht
          simp only [c1, Option.getD_some]
          exact c2
theorem lget_two : ∀ (A B : HL) (k : Nat) (o : AObj), lget (A ++ B) k = some o → (k < A.length ∧ lget A k = some o) ∨ (A.length ≤ k ∧ lget B (k - A.length) = some o)
  | [], B, k, o, h => .inr ⟨Nat.zero_le _, h⟩
  | a :: A, B, 0, o, h => .inl ⟨Nat.succ_pos _, h⟩
  | a :: A, B, k + 1, o, h => by
    rcases lget_two A B k o h with ⟨h1, h2⟩ | ⟨h1, h2⟩
    · exact .inl ⟨Nat.succ_lt_succ h1, h2⟩
    · exact .inr ⟨Nat.succ_le_succ h1, by rw [List.length_cons, Nat.succ_sub_succ]; exact h2⟩
theorem lget_one {r : AObj} {k : Nat} {o : AObj} (h : lget [some r] k = some o) : k = 0 ∧ o = r := by
  cases k with
  | zero => exact ⟨rfl, (Option.some.inj h).symm⟩
  | succ k => simp [lget] at h
/-- What only reads what is given reads what is the caller's own, too. -/
theorem mspec_giveG {P : Program} {f : FuncId} {ds ds' : List DV} {H0 : HL} (Y : List Nd) (harg : ∀ (Γ : Gm) (K : Kr) (w : World) (vs : Array Value), Inv Γ K (lget H0) w → ArgsRel K w ds' vs → ArgsRel (offH K H0) w ds vs) (h : MSpec P f ds [] 1 (fun m d H => d = .agg [.sl 0 m 4 0 Y.length false] ∧ H = [some ⟨m, 4, ndX Y⟩])) : MSpec P f ds' H0 1 (fun m d H => d = .agg [.sl 0 m 4 0 Y.length false] ∧ H = H0 ++ [some ⟨m, 4, ndX Y⟩]) := by
  refine ⟨h.1, fun K w vs g0 hI hlt hargs => ?_⟩
  have hargs1 := harg _ _ _ _ hI hargs
  have hI1 : Inv (lend (offH (K.cut w) H0) w g0 []) ((offH (K.cut w) H0).cut w) (lget []) w :=
    ⟨Ext.refl _ _, ⟨fun m hm => .inl hm, fun m hm _ => hm, fun m hm => ⟨hm, rfl⟩, fun g _ => Iff.rfl⟩, fun k o h => by simp [lget] at h, fun k k' o o' h => by simp [lget] at h, fun m hm => hI.dr m hm, fun m hm => hI.lt m hm, fun k o h => by simp [lget] at h, fun k o h => by simp [lget] at h, fun g cs hg => ⟨fun ⟨_, _, q, _⟩ => by simp [lget] at q, fun q => (hI.glob hg).1 ⟨q.1.1.1, q.2⟩, (hI.glob hg).2⟩⟩
  refine (h.2 (offH (K.cut w) H0) w vs g0 hI1 hlt (argsRel_cut hargs1)).mono ?_
  rintro e w' ⟨v, rfl, hret⟩
  refine ⟨v, rfl, fun n hn => ?_⟩
  obtain ⟨K', d, H1, ⟨rfl, rfl⟩, hdom, hreal, hI', hv⟩ := hret n hn
  have hext : Ext (fun _ => False) w w' := hI'.ext.weaken (fun g _ ⟨k, o, hk, _⟩ => by simp [lget] at hk)
  have hrow : lget [some (⟨n, 4, ndX Y⟩ : AObj)] 0 = some ⟨n, 4, ndX Y⟩ := rfl
  have hnk : ¬ K.dom n := hn n (Nat.le_refl _) (Nat.lt_succ_self _)
  have hMold : ∀ g, g < w.heap.size → (K'.M g → (K.cut w).M g) := fun g hg q => ((hI'.base.M g hg).1 q).1.1
  have hrowN : K'.real n → w.heap.size ≤ K'.μ n := fun q => ((hI'.own 0 _ hrow q).2).resolve_right (fun ⟨k, o, hk, _⟩ => by simp [lget] at hk)
  let K2 : Kr := ⟨K'.dom, K'.real, K'.μ, fun g => K'.M g ∨ (K.cut w).M g⟩
  have hkeep : ∀ m, K.real m → K'.real m ∧ K'.μ m = K.μ m := fun m hm => hI'.base.keep m hm
  have hm : Mono (K.cut w) w K2 w' := ⟨hext.weaken (fun _ _ hf => hf.elim), fun m hm => hkeep m hm, fun g hg q => q.elim (hMold g hg) id⟩
  have hplain : ∀ d c, VRel K' w' d c → (∃ x, d = .v x) → VRel K2 w' d c := fun d c hvc ⟨x, hx⟩ => by
    subst hx
    cases hvc
    exact .v _
  have hnr : ∀ k o, lget H0 k = some o → o.n ≠ n := fun k o hk e => hnk (e ▸ hI.dobj k o hk)
  refine ⟨K2, _, _, ⟨rfl, rfl⟩, hdom, hreal, ⟨hext.weaken (fun _ _ hf => hf.elim), ⟨hI'.base.dom, hI'.base.old, hI'.base.keep, fun g hg => ⟨fun q => q.elim (hMold g hg) id, .inr⟩⟩, fun k o hk => ?_, fun k k' o o' h1 h2 r1 r2 he => ?_, hI'.dr, hI'.lt, fun k o hk => ?_, fun k o hk hr => ?_, fun g cs hg => hI.gl g cs hg⟩, ?_⟩
  · rcases lget_two _ _ _ _ hk with ⟨-, hk⟩ | ⟨-, hk⟩
    · exact (hI.obj k o hk).mono hm (fun q1 q2 => q1 ((hreal o.n q2).resolve_right (fun q => hnr k o hk (by omega)))) (fun q => hext.keep _ (hI.lt _ q) (fun hf => hf))
    · obtain ⟨-, rfl⟩ := lget_one hk
      rcases hI'.obj 0 _ hrow with ⟨q1, q2⟩ | ⟨q1, cs, t, fr, q2, q3, q4, q5, q6⟩ | hmr
      · exact .inl ⟨q1, q2⟩
      · refine .inr (.inl ⟨q1, cs, t, fr, q2, q3, q4, q5, fun i x j d hx hd => ?_⟩)
        obtain ⟨c, c1, c2⟩ := q6 i x j d hx hd
        refine ⟨c, c1, hplain d c c2 ?_⟩
        obtain ⟨y, -, rfl⟩ := List.mem_map.1 (List.mem_of_getElem? hx)
        match j, hd with
        | 0, hd => exact ⟨_, (Option.some.inj hd).symm⟩
        | 1, hd => exact ⟨_, (Option.some.inj hd).symm⟩
        | 2, hd => exact ⟨_, (Option.some.inj hd).symm⟩
        | 3, hd => exact ⟨_, (Option.some.inj hd).symm⟩
        | j + 4, hd => simp at hd
      · exact absurd hmr.2.1 (by show ¬ (4 : Nat) = 0; omega)
  · have hbl : ∀ k o, lget H0 k = some o → K'.real o.n → K.real o.n ∧ K'.μ o.n = K.μ o.n := fun k o hk q => by
      have hr := (hreal o.n q).resolve_right (fun q => hnr k o hk (by omega))
      exact ⟨hr, (hkeep _ hr).2⟩
    rcases lget_two _ _ _ _ h1 with ⟨p1, h1⟩ | ⟨p1, h1⟩
    · rcases lget_two _ _ _ _ h2 with ⟨p2, h2⟩ | ⟨p2, h2⟩
      · obtain ⟨a1, a2⟩ := hbl _ _ h1 r1
        obtain ⟨b1, b2⟩ := hbl _ _ h2 r2
        exact hI.inj k k' o o' h1 h2 a1 b1 (a2.symm.trans (he.trans b2))
      · obtain ⟨-, rfl⟩ := lget_one h2
        obtain ⟨a1, a2⟩ := hbl _ _ h1 r1
        have z1 := hI.lt _ a1
        have z2 := hrowN r2
        have he : K'.μ o.n = K'.μ n := he
        rw [a2] at he
        have z1 : K.μ o.n < w.heap.size := z1
        omega
    · obtain ⟨e1, rfl⟩ := lget_one h1
      rcases lget_two _ _ _ _ h2 with ⟨p2, h2⟩ | ⟨p2, h2⟩
      · obtain ⟨b1, b2⟩ := hbl _ _ h2 r2
        have z1 := hI.lt _ b1
        have z2 := hrowN r1
        have he : K'.μ n = K'.μ o'.n := he
        rw [b2] at he
        have z1 : K.μ o'.n < w.heap.size := z1
        omega
      · obtain ⟨e2, rfl⟩ := lget_one h2
        omega
  · rcases lget_two _ _ _ _ hk with ⟨-, hk⟩ | ⟨-, hk⟩
    · exact (hdom _).2 (.inl (hI.dobj k o hk))
    · obtain ⟨-, rfl⟩ := lget_one hk
      exact hI'.dobj 0 _ hrow
  · rcases lget_two _ _ _ _ hk with ⟨-, hk⟩ | ⟨-, hk⟩
    · have hr2 := (hreal o.n hr).resolve_right (fun q => hnr k o hk (by omega))
      have hmu : K'.μ o.n = K.μ o.n := (hkeep _ hr2).2
      have := hI.own k o hk hr2
      show (K'.M (K'.μ o.n) ∨ (K.cut w).M (K'.μ o.n)) ∧ _
      rw [hmu]
      exact ⟨.inr this.1, this.2⟩
    · obtain ⟨-, rfl⟩ := lget_one hk
      have := hI'.own 0 _ hrow hr
      exact ⟨.inl this.1, .inl (hrowN hr)⟩
  · cases hv with
    | agg hl hc =>
      refine .agg hl fun i d c hd hcc => ?_
      have := hc i d c hd hcc
      cases i with
      | zero =>
        obtain rfl := Option.some.inj hd
        cases this with
        | sl h1 h2 h3 => exact .sl h1 h2 h3
      | succ i => simp at hd
/-- What reads a tree reads one of the caller's own, too. -/
theorem mspec_give {P : Program} {f : FuncId} (T : Tr) (Y : List Nd) (h : MSpec P f [dTr T] [] 1 (fun m d H => d = .agg [.sl 0 m 4 0 Y.length false] ∧ H = [some ⟨m, 4, ndX Y⟩])) (a : Nat) : MSpec P f [spD T a] (spH T a) 1 (fun m d H => d = .agg [.sl 0 m 4 0 Y.length false] ∧ H = spH T a ++ [some ⟨m, 4, ndX Y⟩]) :=
  mspec_giveG (ds := [dTr T]) Y (fun Γ K w vs hI hargs => ⟨hargs.1, fun i d v hd hv => by
    cases i with
    | zero =>
      obtain rfl := Option.some.inj hd
      exact tree_rel hI T a v (fun o ho => ho) (hargs.2 0 _ v rfl hv)
    | succ i => simp at hd⟩) h
/-- What reads a row reads one of the caller's own, too. -/
theorem mspec_giveR {P : Program} {f : FuncId} {sz len : Nat} {full : Bool} {xs : List (List DV)} (Y : List Nd) (hlen : xs.length = len) (h : MSpec P f [.snap sz xs false] [] 1 (fun m d H => d = .agg [.sl 0 m 4 0 Y.length false] ∧ H = [some ⟨m, 4, ndX Y⟩])) (k n : Nat) : MSpec P f [.sl k n sz 0 len full] [some ⟨n, sz, xs⟩] 1 (fun m d H => d = .agg [.sl 0 m 4 0 Y.length false] ∧ H = [some ⟨n, sz, xs⟩, some ⟨m, 4, ndX Y⟩]) :=
  mspec_giveG (ds := [.snap sz xs false]) Y (fun Γ K w vs hI hargs => ⟨hargs.1, fun i d v hd hv => by
    cases i with
    | zero =>
      obtain rfl := Option.some.inj hd
      have hobj := hI.obj 0 ⟨n, sz, xs⟩ rfl
      have h1 := frz_rel (o := ⟨n, sz, xs⟩) hobj (fun hr => hI.lt _ hr) (hargs.2 0 _ v rfl hv) (.snap sz xs false) (Or.inl ⟨rfl, rfl, by dsimp only; omega, by dsimp only; rw [xdrop_eq, xtake_eq, List.drop_zero, List.take_of_length_le (Nat.le_of_eq hlen)]⟩)
      exact h1.mono (show Mono (K.off n) w (offH K [some ⟨n, sz, xs⟩]) w from ⟨Ext.refl _ _, fun m hm => ⟨hm, rfl⟩, fun g _ hg => ⟨hg.1, fun q => hg.2 ⟨0, _, rfl, q.1, q.2.symm⟩⟩⟩)
    | succ i => simp at hd⟩) h
theorem spec_m0 {P : Program} {f : FuncId} {ds : List DV} {D : DV} (h : MSpec P f ds [] 0 (fun m d H => d = D ∧ H = [])) (hn : ∀ g, nfD g D) : Spec P f ds D :=
  ⟨h.1, fun K w vs g0 hI hlt ha => (h.2 K w vs g0 hI hlt ha).mono fun e w' ⟨v, q1, hr⟩ => by
    obtain ⟨K', d, H1, ⟨rfl, rfl⟩, hdom, hreal, hI', hv⟩ := hr g0 (fun m h1 h2 hd => by have := hlt m hd; omega)
    have hext : Ext (fun _ => False) w w' := hI'.ext.weaken (fun g _ ⟨k, o, hk, _⟩ => by simp [lget] at hk)
    refine ⟨v, d, [], q1, ⟨rfl, rfl⟩, inv_ext hI hext, vrel_old (g := g0) (fun m hm hg => ?_) (fun b hb hM => (hI'.base.M b (show K.M b ∧ b < w.heap.size from hM).2).2 hM) hv (hn g0)⟩
    have h1 := hI'.base.old m hm hg
    exact ⟨h1, ((hI'.base.keep m h1).2).symm⟩⟩
/-- A row of its own that a function hands back, given up at once. -/
theorem spec_frz {P : Program} {f : FuncId} {ds : List DV} {D : Nat → DV} {D' : DV} {sz : Nat} {xs : List (List DV)} (h : MSpec P f ds [] 1 (fun m d H => d = D m ∧ H = [some ⟨m, sz, xs⟩])) (hf : ∀ m, frzP ⟨m, sz, xs⟩ (D m) D') (hn : ∀ g, nfD g D') : Spec P f ds D' :=
  ⟨h.1, fun K w vs g0 hI hlt ha => (h.2 K w vs g0 hI hlt ha).mono fun e w' ⟨v, q1, hr⟩ => by
    obtain ⟨K', d, H1, ⟨rfl, rfl⟩, hdom, hreal, hI', hv⟩ := hr g0 (fun m h1 h2 hd => by have := hlt m hd; omega)
    have hrow : lget [some (⟨g0, sz, xs⟩ : AObj)] 0 = some ⟨g0, sz, xs⟩ := rfl
    have hv2 := frz_rel (hI'.obj 0 _ hrow) (fun hr => hI'.lt _ hr) hv D' (hf g0)
    have hext : Ext (fun _ => False) w w' := hI'.ext.weaken (fun g _ ⟨k, o, hk, _⟩ => by simp [lget] at hk)
    refine ⟨v, D', [], q1, ⟨rfl, rfl⟩, inv_ext hI hext, vrel_old (g := g0) (fun m hm hg => ?_) (fun b hb hM => ?_) hv2 (hn g0)⟩
    · have h1 := hI'.base.old m hm hg
      exact ⟨h1, ((hI'.base.keep m h1).2).symm⟩
    · refine ⟨(hI'.base.M b hM.2).2 hM, fun q => ?_⟩
      have := ((hI'.own 0 _ hrow q.1).2).resolve_right (fun ⟨k, o, hk, _⟩ => by simp [lget] at hk)
      have h2 : b < w.heap.size := hM.2
      have h3 : w.heap.size ≤ K'.μ g0 := this
      have h4 : b = K'.μ g0 := q.2
      omega⟩
end Go.Proofs.Ytlfbjdafnappdaa
