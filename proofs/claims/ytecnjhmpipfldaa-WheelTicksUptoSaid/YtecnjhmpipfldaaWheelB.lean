/-
  A turn of the wheel, in the program.
-/
import Derived.Test.YtecnjhmpipfldaaWheelA
namespace Go.Proofs.Ytecnjhmpipfldaa
set_option linter.unusedVariables false
set_option linter.unusedSimpArgs false
theorem splice_at (d : DV) : ∀ (X : List DV) (i : Nat), i < X.length → splice X i [d] = X.take i ++ d :: X.drop (i + 1)
  | [], i, h => by simp at h
  | x :: r, 0, _ => by
    show d :: splice r 0 [] = _
    rw [splice_nil]
    rfl
  | x :: r, i + 1, h => by
    show x :: splice r i [d] = _
    rw [splice_at d r i (by simpa using h)]
    rfl
theorem splice_lb {lb nm : Nat → Nat} (x : Nat) (d : DV) : ∀ (L : WL) (j i : Nat), splice (rowc (upd lb (j + i) x) nm j L) i [d] = splice (rowc lb nm j L) i [d]
  | [], _, _ => rfl
  | l :: r, j, 0 => by
    show d :: splice (rowc (upd lb (j + 0) x) nm (j + 1) r) 0 [] = d :: splice (rowc lb nm (j + 1) r) 0 []
    rw [rowc_congr (nm := nm) (nm' := nm) (lb := upd lb (j + 0) x) (lb' := lb) _ _ (fun k hk _ => ⟨rfl, upd_ne (by omega)⟩)]
  | l :: r, j, i + 1 => by
    have ih := splice_lb (lb := lb) (nm := nm) x d r (j + 1) i
    rw [show j + 1 + i = j + (i + 1) by omega] at ih
    show .sl (upd lb (j + (i + 1)) x j) (nm j) 2 0 l.length false :: splice (rowc (upd lb (j + (i + 1)) x) nm (j + 1) r) i [d] = .sl (lb j) (nm j) 2 0 l.length false :: splice (rowc lb nm (j + 1) r) i [d]
    rw [ih, upd_ne (by omega)]
theorem lset_len (o : Option AObj) : ∀ (T : HL) (k : Nat), k < T.length → (lset T k o).length = T.length
  | [], k, h => by simp at h
  | a :: r, 0, _ => rfl
  | a :: r, k + 1, h => by
    show (lset r k o).length + 1 = _
    rw [lset_len o r k (by simpa using h)]
    rfl
theorem lset_twice (a b : Option AObj) : ∀ (T : HL) (i : Nat), lset (lset T i a) i b = lset T i b
  | [], 0 => rfl
  | [], i + 1 => by
    show none :: lset (lset [] i a) i b = none :: lset [] i b
    rw [lset_twice a b [] i]
  | _ :: _, 0 => rfl
  | x :: r, i + 1 => by
    show x :: lset (lset r i a) i b = x :: lset r i b
    rw [lset_twice a b r i]
set_option maxRecDepth 4000 in
set_option maxHeartbeats 8000000 in
theorem turn0 (n : Nat) (hn : n + 1 ≤ 16777215) (L : WL) (hok : OkL ((n + 1 : Nat) : Int) 500 (L, [])) (lb nm lb' : Nat → Nat) (nb q : Nat) :
    MSpec Try.prog 30 [.ptr 0 nb 97 0 0] (some ⟨nb, 97, [.v (.int .i64 (n : Nat)) :: rowc lb nm 0 L]⟩ :: rowh nm 0 L) 97 (fun m dd H => dd = .sl q (m + 96) 2 0 (levs (n + 1) 6 (L, [])).2.length false ∧ H = some ⟨nb, 97, [.v (.int .i64 ((n + 1 : Nat) : Int)) :: rowc lb' (fun j => m + j) 0 (levs (n + 1) 6 (L, [])).1]⟩ :: (rowh (fun j => m + j) 0 (levs (n + 1) 6 (L, [])).1 ++ [some ⟨m + 96, 2, (levs (n + 1) 6 (L, [])).2.map Du.enc⟩])) := by
  have w0 : IntKind.i64.wrap ((n : Int) + 1) = ((n + 1 : Nat) : Int) := by rw [IntWalk.i64_in _ (by omega)]; omega
  refine mspec_fn Try.func30 rfl ok_wheel_turn okr_wheel_turn rfl (by kernel_rfl) ?_
  intro Γ hW0 hN0 hL0
  clear hW0
  unfold x_wheel_turn r_wheel_turn
  refine auC ?_
  have hnb : nb < Γ.g0 := hN0 0 _ rfl
  apply go_le
  · exact le_shift6 _ _ _ _
  apply go_le
  · exact le_same0 0 (fun j => j + 6) rfl
  generalize hτ : n + 1 = τ at *
  repeat' (first
    | (refine auS ?_)
    | (simp only [w0, splice_nil])
    | (refine auD ?_)
    | (with_reducible refine runR_b (fun h => ?_) (fun h => ?_) <;> first | exact auH | simp only [h, runR_t, runR_f])
    | (with_reducible refine condK_bl ?_ ?_)
    | (with_reducible refine condK_b (fun h => ?_) (fun h => ?_) <;> first | exact auH | skip)
    | fail)
  apply go_le
  · exact le_row ⟨.d0, .d0, .d3⟩ 3 2 rfl rfl
  refine auL ?_
  refine go_loopT (α := Nat × (WL × List Du) × (Nat → Nat) × Nat × Nat) (fun x => [(⟨.d0, .d0, .d3⟩, .sl 3 x.2.2.2.1 2 0 x.2.1.2.length false), (⟨.d0, .d0, .d4⟩, .v (.int .i64 (((x.1 : Nat) : Int) - 1)))]) (fun x => some ⟨nb, 97, [.v (.int .i64 ((τ : Nat) : Int)) :: rowc (fun j => j + 6) x.2.2.1 0 x.2.1.1]⟩ :: none :: none :: some ⟨x.2.2.2.1, 2, x.2.1.2.map Du.enc⟩ :: none :: none :: rowh x.2.2.1 0 x.2.1.1) (fun x => x.2.2.2.2) (fun x => x.1) (fun x => x.1 ≤ 6 ∧ levs τ x.1 x.2.1 = levs τ 6 (L, []) ∧ OkL ((τ : Nat) : Int) (500 * 2 ^ (6 - x.1)) x.2.1) (6, (L, []), nm, Γ.g0, Γ.g0 + 1) ⟨Nat.le_refl _, rfl, hok⟩ ?_ ?_
  · refine le_mk2 ?_ ?_ (Nat.le_refl _)
    · first | refine auE ?_ | exact auE0
      all_goals (repeat' (first | exact trivial | exact rfl | apply And.intro))
    · exact hs_refl _
  rintro ⟨k, ⟨L1, out⟩, nm1, on, gn⟩ ⟨hk, hlev, hok1⟩
  dsimp only at hk hlev hok1 ⊢
  refine auL ?_
  have h196 := hok1.1
  dsimp only at h196
  cases k with
  | zero =>
    have hlev' : levs τ 6 (L, []) = (L1, out) := hlev.symm
    rw [hlev']
    dsimp only
    apply go_le
    · exact le_wnames _ _ _ _ _ _ _ h196 _ _ _ _ _
    have hTl : (rowh (fun j => gn + j) 0 L1).length = 96 := by rw [rowh_len]; exact h196
    have hrn : ∀ m k, 0 ≤ k → k < 0 + L1.length → renN Γ.g0 ((List.range 96).map (fun j => gn + j) ++ [on]) m (gn + k) (m + k) := fun m k _ hk => .inl ⟨k, by rw [List.getElem?_append_left (by simp; omega)]; exact range96 (by omega) _, rfl⟩
    have hrC := fun m => renC (g := Γ.g0) (n := m) (ns := (List.range 96).map (fun j => gn + j) ++ [on]) (lb := fun j => j + 6) (lb' := lb') (nm := fun j => gn + j) (nm' := fun j => m + j) L1 0 (hrn m)
    have hrH := fun m => renHr (g := Γ.g0) (n := m) (ns := (List.range 96).map (fun j => gn + j) ++ [on]) (nm := fun j => gn + j) (nm' := fun j => m + j) L1 0 (hrn m)
    have hon : ∀ m, renN Γ.g0 ((List.range 96).map (fun j => gn + j) ++ [on]) m on (m + 96) := fun m => .inl ⟨96, by rw [List.getElem?_append_right (by simp)]; simp, rfl⟩
    have hin : ∀ a ∈ (List.range 96).map (fun j => gn + j), ∃ k o, lget (rowh (fun j => gn + j) 0 L1) k = some o ∧ o.n = a := fun a ha => by
      obtain ⟨k, hk, rfl⟩ := List.mem_map.1 ha
      have hk96 : k < 96 := List.mem_range.1 hk
      obtain ⟨l, hl⟩ : ∃ l, L1[k]? = some l := ⟨_, List.getElem?_eq_getElem (by omega)⟩
      have := rowh_get (nm := fun j => gn + j) L1 0 k l hl
      rw [Nat.zero_add] at this
      exact ⟨k, _, this, rfl⟩
    generalize rowh (fun j => gn + j) 0 L1 = T at *
    generalize rowc (fun j => j + 6) (fun j => gn + j) 0 L1 = X at *
    repeat' (first
      | (refine auS ?_)
      | fail
      | (refine auD ?_)
      | (with_reducible refine runR_b (fun h => ?_) (fun h => ?_) <;> first | exact auH | simp only [h, runR_t, runR_f])
      | (with_reducible refine condK_bl ?_ ?_)
      | (with_reducible refine condK_b (fun h => ?_) (fun h => ?_) <;> first | exact auH | skip)
      | fail)
    (all_goals first | exact auP | skip)
    refine ret_m (0 :: List.range' 6 96 ++ [3]) ((List.range 96).map (fun j => gn + j) ++ [on]) trivial (by decide +kernel) (by simp) (fun a ha => ?_) (fun m => ?_) (fun m => ?_)
    · rcases List.mem_append.1 ha with ha | ha
      · obtain ⟨k, o, h1, h2⟩ := hin a ha
        exact ⟨k + 6, o, h1, h2⟩
      · simp at ha
        subst ha
        exact ⟨3, _, rfl, rfl⟩
    · show renM _ _ _ (.sl 3 on 2 0 out.length false) _
      simp only [renM]
      exact ⟨_, _, hon m, rfl⟩
    · refine Eq.mpr (congrArg (fun z => renH Γ.g0 ((List.range 96).map (fun j => gn + j) ++ [on]) m z _) (lgets_lend6 hTl)) ?_
      refine ⟨⟨.inr ⟨hnb, rfl⟩, rfl, ?_⟩, renH_app (hrH m) ⟨⟨hon m, rfl, ren_du out⟩, rfl⟩⟩
      refine ⟨?_, rfl⟩
      simp only [renML, renM]
      exact ⟨⟨trivial, trivial⟩, hrC m⟩
  | succ j =>
    have hj : j < 6 := by omega
    have hz : ((((j + 1 : Nat) : Int)) - 1) = (j : Nat) := by omega
    rw [hz]
    have p1 := shl_one j hj
    have p2 := and_low τ j hj
    have p3 := shr_dig τ j hj
    have p4 := and15 (τ / 16 ^ j)
    have hmod : τ / 16 ^ j % 16 < 16 := Nat.mod_lt _ (by decide)
    have hpos : 0 < 16 ^ j := Nat.pow_pos (by decide)
    have hple : 16 ^ j ≤ 1048576 := Nat.pow_le_pow_right (by omega) (show j ≤ 5 by omega)
    have f1 : IntKind.i64.wrap (4 * ((j : Nat) : Int)) = 4 * ((j : Nat) : Int) := IntWalk.i64_in _ (by omega)
    have f2 : IntKind.i64.wrap (16 * ((j : Nat) : Int)) = 16 * ((j : Nat) : Int) := IntWalk.i64_in _ (by omega)
    have f3 : IntKind.i64.wrap (((j : Nat) : Int) - 1) = ((j : Nat) : Int) - 1 := IntWalk.i64_in _ (by omega)
    obtain ⟨i, hi⟩ : ∃ i, i = 16 * j + τ / 16 ^ j % 16 := ⟨_, rfl⟩
    have hi96 : i < 96 := by omega
    have f4 : IntKind.i64.wrap (16 * ((j : Nat) : Int) + ((τ / 16 ^ j % 16 : Nat) : Int)) = (i : Nat) := by rw [IntWalk.i64_in _ (by omega)]; omega
    have f5 : IntKind.i64.wrap (((16 ^ j : Nat) : Int) - 1) = ((16 ^ j - 1 : Nat) : Int) := by generalize 16 ^ j = p at *; rw [IntWalk.i64_in _ (by omega)]; omega
    have hL : levs τ (j + 1) (L1, out) = levs τ j (lev τ j (L1, out)) := rfl
    rw [hL] at hlev
    clear hL
    have hB : OkL ((τ : Nat) : Int) (500 * 2 ^ (6 - (j + 1))) (L1, out) → 500 * 2 ^ (6 - j) = 500 * 2 ^ (6 - (j + 1)) + 500 * 2 ^ (6 - (j + 1)) := fun _ => by
      rw [show 6 - j = (6 - (j + 1)) + 1 by omega, Nat.pow_succ]
      omega
    have hB := hB hok1
    have hBs : 500 * 2 ^ (6 - (j + 1)) ≤ 32000 := by
      have : 2 ^ (6 - (j + 1)) ≤ 2 ^ 5 := Nat.pow_le_pow_right (by omega) (by omega)
      omega
    generalize 500 * 2 ^ (6 - (j + 1)) = Bd at *
    by_cases hdv : τ % 16 ^ j = 0
    · have d1 : (!decide (((τ % 16 ^ j : Nat) : Int) = 0)) = false := by rw [decide_eq_true (by omega)]; rfl
      obtain ⟨l, hl⟩ : ∃ l, L1[i]? = some l := ⟨_, List.getElem?_eq_getElem (by omega)⟩
      have hlv : lev τ j (L1, out) = l.foldl (stepL (τ : Nat)) (L1.set i [], out) := by
        unfold lev
        rw [if_neg (by omega), ← hi, hl]
        rfl
      have hlv0 := hlv
      rw [hlv] at hlev
      have hln := (hok1.2.1 l (List.mem_of_getElem? hl)).1
      have hlr := (hok1.2.1 l (List.mem_of_getElem? hl)).2
      have hX := dget_ddrop _ _ _ (rowc_get (lb := upd (fun j => j + 6) i 5) (nm := nm1) L1 0 i l hl)
      rw [Nat.zero_add, upd_eq] at hX
      have hspl := splice_lb (lb := fun j => j + 6) (nm := nm1) 5 nilD L1 0 i
      rw [Nat.zero_add] at hspl
      have hXl := rowc_len (lb := upd (fun j => j + 6) i 5) (nm := nm1) L1 0
      have hget := rowh_get (nm := nm1) L1 0 i l hl
      rw [Nat.zero_add] at hget
      apply go_le
      · exact le_same0 0 (upd (fun j => j + 6) i 5) rfl
      apply go_le
      · exact le_take6 i hget
      generalize rowc (upd (fun j => j + 6) i 5) nm1 0 L1 = X at *
      have hml : (l.map Du.enc).length = l.length := List.length_map _
      repeat' (first
        | (refine auS ?_)
        | (simp only [f1, f2, f3, f4, f5, p1, p2, p3, p4, d1, splice_one, ddrop_one, Nat.mul_one, Int.toNat_natCast, hX, hml])
        | (refine auD ?_)
        | (with_reducible refine runR_b (fun h => ?_) (fun h => ?_) <;> first | exact auH | simp only [h, runR_t, runR_f])
        | (with_reducible refine condK_bl ?_ ?_)
        | (with_reducible refine condK_b (fun h => ?_) (fun h => ?_) <;> first | exact auH | skip)
        | (first | (refine runR_n ⟨by omega, by omega⟩ ?_) | (refine runR_n ⟨by omega, by omega, rfl⟩ ?_) | fail))
      refine go_loopT (α := Nat × (WL × List Du) × (Nat → Nat) × Nat × Nat) (fun x => [(⟨.d0, .d0, .d3⟩, .sl 3 x.2.2.2.1 2 0 x.2.1.2.length false), (⟨.d0, .d6, .d6⟩, .v (.int .i64 (x.1 : Nat)))]) (fun x => some ⟨nb, 97, [.v (.int .i64 ((τ : Nat) : Int)) :: rowc (fun j => j + 6) x.2.2.1 0 x.2.1.1]⟩ :: none :: none :: some ⟨x.2.2.2.1, 2, x.2.1.2.map Du.enc⟩ :: none :: some ⟨nm1 i, 2, l.map Du.enc⟩ :: rowh x.2.2.1 0 x.2.1.1) (fun x => x.2.2.2.2) (fun x => l.length - x.1) (fun x => x.1 ≤ l.length ∧ (l.drop x.1).foldl (stepL (τ : Nat)) x.2.1 = lev τ j (L1, out) ∧ OkL ((τ : Nat) : Int) (Bd + x.1) x.2.1) (0, (L1.set i [], out), upd nm1 i gn, on, gn + 1) ⟨Nat.zero_le _, hlv.symm, okl_nil hok1 i⟩ ?_ ?_
      · rw [hspl]
        have hsp1 := rowc_set (lb := fun j => j + 6) (nm := nm1) gn [] L1 0 i (by omega)
        have hsp2 := rowh_set (nm := nm1) gn [] L1 0 i (by omega)
        rw [Nat.zero_add] at hsp1 hsp2
        have hXl2 : i < (rowc (fun j => j + 6) nm1 0 L1).length := by rw [rowc_len]; omega
        rw [← hsp1, ← hsp2]
        generalize rowc (fun j => j + 6) nm1 0 L1 = Z at *
        generalize lset (rowh nm1 0 L1) i none = T at *
        have hrL : rowL (i + 6) gn 2 (.v (.int .i64 ((τ : Nat) : Int)) :: splice Z i [nilD]) (.v (.int .i64 ((τ : Nat) : Int)) :: splice Z i [.sl (i + 6) gn 2 0 0 false]) := by
          rw [splice_at _ _ _ hXl2, splice_at _ _ _ hXl2]
          exact ⟨.inl rfl, rowL_mid _ _ _ _ _⟩
        refine (le_rowO 0 (i + 6) 2 (by omega) rfl hrL).trans ?_
        refine le_mk2 ?_ ?_ (Nat.le_refl _)
        · first | refine auE ?_ | exact auE0
          all_goals (repeat' (first | exact trivial | exact rfl | apply And.intro))
        · exact hs_refl _
      clear hX hspl hXl hget hlv
      rintro ⟨t, ⟨L2, out2⟩, nm2, on2, gn2⟩ ⟨ht, hfold, hok2⟩
      dsimp only at ht hfold hok2 ⊢
      refine auL ?_
      have h296 := hok2.1
      dsimp only at h296
      by_cases hlt : t < l.length
      · obtain ⟨d, hd⟩ : ∃ d, l[t]? = some d := ⟨_, List.getElem?_eq_getElem hlt⟩
        have hdr := hlr d (List.mem_of_getElem? hd)
        rw [List.drop_eq_getElem_cons hlt, show l[t] = d from Option.some.inj ((List.getElem?_eq_getElem hlt).symm.trans hd), List.foldl_cons] at hfold
        have w1 : IntKind.i64.wrap ((t : Int) + 1) = ((t + 1 : Nat) : Int) := by rw [IntWalk.i64_in _ (by omega)]; omega
        have c0 : decide (((t : Nat) : Int) < ((l.length : Nat) : Int)) = true := decide_eq_true (by omega)
        have hxd := xget_du hd
        by_cases heq : d.t = ((τ : Nat) : Int)
        · have c1 : decide (d.t = ((τ : Nat) : Int)) = true := decide_eq_true heq
          have hst : stepL ((τ : Nat) : Int) (L2, out2) d = (L2, out2 ++ [d]) := if_pos heq
          rw [hst] at hfold
          have hol := hok2.2.2
          dsimp only at hol
          have hml2 : (out2.map Du.enc).length = out2.length := List.length_map _
          have hrm : room (out2.length + 1) 16 := room_due (by omega)
          have hol2 : (out2 ++ [d]).length = out2.length + 1 := by simp
          repeat' (first
            | (refine auS ?_)
            | (simp only [c0, c1, w1, Int.toNat_natCast, Nat.zero_add, hxd, hml, hml2])
            | (refine auD ?_)
            | (with_reducible refine runR_b (fun h => ?_) (fun h => ?_) <;> first | exact auH | simp only [h, runR_t, runR_f])
            | (with_reducible refine condK_bl ?_ ?_)
            | (with_reducible refine condK_b (fun h => ?_) (fun h => ?_) <;> first | exact auH | skip)
            | (first | (refine runR_n ⟨rfl, rfl, rfl, rfl, hml2.symm⟩ ?_) | (refine runR_n ⟨rfl, hrm⟩ ?_) | (refine runR_n ⟨by omega, by omega⟩ ?_) | fail))
          (all_goals first | exact auP | skip)
          refine nx_loop ⟨(t + 1, (L2, out2 ++ [d]), nm2, gn2 + 1 + 1, gn2 + 3), ⟨hlt, hfold, okl_out hok2 d⟩, Nat.sub_lt_sub_left hlt (Nat.lt_succ_self t), ?_⟩
          refine le_mk2 ?_ ?_ (Nat.le_refl _)
          · first | refine auE ?_ | exact auE0
            all_goals (repeat' (first | exact trivial | exact rfl | apply And.intro))
            all_goals rw [hol2]
          · dsimp only
            rw [List.map_append]
            exact hs_cons (.inl rfl) (hs_cons (.inr rfl) (hs_cons (.inr rfl) (hs_refl _)))
        · have c1 : decide (d.t = ((τ : Nat) : Int)) = false := decide_eq_false heq
          have hcast : ((d.t.toNat : Nat) : Int) = d.t := by omega
          have hrng := lis_rng (n := τ) (m := d.t.toNat) (by omega) (by omega)
          obtain ⟨a, ha⟩ : ∃ a : Nat, lisR τ d.t.toNat 6 = a := ⟨(lisR τ d.t.toNat 6).toNat, by omega⟩
          have ha96 : a < 96 := by omega
          have hlo : listOf ((τ : Nat) : Int) d.t = (a : Nat) := ha
          obtain ⟨l2, hl2⟩ : ∃ l2, L2[a]? = some l2 := ⟨_, List.getElem?_eq_getElem (by omega)⟩
          have hst : stepL ((τ : Nat) : Int) (L2, out2) d = (L2.set a (l2 ++ [d]), out2) := by
            unfold stepL
            rw [if_neg heq]
            unfold putL
            rw [hlo, Int.toNat_natCast, hl2]
            rfl
          rw [hst] at hfold
          have hl2b := (hok2.2.1 l2 (List.mem_of_getElem? hl2)).1
          have hput : ∀ nm nb, MSpec Try.prog 18 [.ptr 0 nb 97 0 0, .agg [.v (.int .i64 d.id), .v (.int .i64 d.t)]] (some ⟨nb, 97, [.v (.int .i64 (τ : Nat)) :: rowc (fun j => j + 6) nm 0 L2]⟩ :: rowh nm 0 L2) 1 (fun m dd H => dd = .tup [] ∧ H = some ⟨nb, 97, [.v (.int .i64 (τ : Nat)) :: rowc (fun j => j + 6) (upd nm a m) 0 (L2.set a (l2 ++ [d]))]⟩ :: (lset (rowh nm 0 L2) a none ++ [some ⟨m, 2, (l2 ++ [d]).map Du.enc⟩])) :=
            fun nm nb => put_spec 0 τ d (by omega) L2 h296 a hlo l2 hl2 (by omega) (fun j => j + 6) nm nb
          have hTl : (rowh nm2 0 L2).length = 96 := by rw [rowh_len]; exact h296
          have hTl2 : (lset (rowh nm2 0 L2) a none).length = 96 := by rw [lset_len _ _ _ (by omega), hTl]
          have hTn : lget (lset (rowh nm2 0 L2) a none) a = none := by rw [lget_lset, if_pos rfl]
          have hrs := rowh_set (nm := nm2) (gn2 + 1) (l2 ++ [d]) L2 0 a (by omega)
          rw [Nat.zero_add] at hrs
          repeat' (first
            | (refine auS ?_)
            | (first | (simp only [c0, c1, w1, Int.toNat_natCast, Nat.zero_add, hxd, hml]) | (with_reducible refine runR_lend6 hTl (hput _ _) hTl2 ?_))
            | (refine auD ?_)
            | (with_reducible refine runR_b (fun h => ?_) (fun h => ?_) <;> first | exact auH | simp only [h, runR_t, runR_f])
            | (with_reducible refine condK_bl ?_ ?_)
            | (with_reducible refine condK_b (fun h => ?_) (fun h => ?_) <;> first | exact auH | skip)
            | (first | (refine runR_n ⟨by omega, by omega⟩ ?_) | fail))
          (all_goals first | exact auP | skip)
          refine nx_loop ⟨(t + 1, (L2.set a (l2 ++ [d]), out2), upd nm2 a (gn2 + 1), on2, gn2 + 1 + 1), ⟨hlt, hfold, okl_put hok2 hdr hl2⟩, Nat.sub_lt_sub_left hlt (Nat.lt_succ_self t), ?_⟩
          refine (le_give6 a hTn).trans ?_
          refine le_mk2 ?_ ?_ (Nat.le_refl _)
          · first | refine auE ?_ | exact auE0
            all_goals (repeat' (first | exact trivial | exact rfl | apply And.intro))
          · dsimp only
            rw [hrs]
            exact hs_refl _
      · obtain rfl : t = l.length := by omega
        have c0 : decide (((l.length : Nat) : Int) < ((l.length : Nat) : Int)) = false := decide_eq_false (by omega)
        rw [List.drop_length] at hfold
        have hfold' : lev τ j (L1, out) = (L2, out2) := hfold.symm
        have hlev' : levs τ j (L2, out2) = levs τ 6 (L, []) := by rw [← hlev, ← hlv0, hfold']
        repeat' (first
          | (refine auS ?_)
          | (simp only [c0, f3])
          | (refine auD ?_)
          | (with_reducible refine runR_b (fun h => ?_) (fun h => ?_) <;> first | exact auH | simp only [h, runR_t, runR_f])
          | (with_reducible refine condK_bl ?_ ?_)
          | (with_reducible refine condK_b (fun h => ?_) (fun h => ?_) <;> first | exact auH | skip)
          | fail)
        (all_goals first | exact auP | skip)
        refine nx_loop ⟨(j, (L2, out2), nm2, on2, gn2), ⟨by dsimp only; omega, hlev', okl_mono hok2 (by dsimp only; rw [hB]; omega)⟩, Nat.lt_succ_self j, ?_⟩
        refine le_mk2 ?_ ?_ (Nat.le_refl _)
        · first | refine auE ?_ | exact auE0
          all_goals (repeat' (first | exact trivial | exact rfl | apply And.intro))
        · exact hs_cons (.inl rfl) (hs_cons (.inl rfl) (hs_cons (.inl rfl) (hs_cons (.inl rfl) (hs_cons (.inl rfl) (hs_cons (.inr rfl) (hs_refl _))))))
    · have d1 : (!decide (((τ % 16 ^ j : Nat) : Int) = 0)) = true := by rw [decide_eq_false (by omega)]; rfl
      have hlv : lev τ j (L1, out) = (L1, out) := if_pos hdv
      rw [hlv] at hlev
      repeat' (first
        | (refine auS ?_)
        | (simp only [f1, f3, f5, p1, p2, d1])
        | (refine auD ?_)
        | (with_reducible refine runR_b (fun h => ?_) (fun h => ?_) <;> first | exact auH | simp only [h, runR_t, runR_f])
        | (with_reducible refine condK_bl ?_ ?_)
        | (with_reducible refine condK_b (fun h => ?_) (fun h => ?_) <;> first | exact auH | skip)
        | fail)
      (all_goals first | exact auP | skip)
      refine nx_loop ⟨(j, (L1, out), nm1, on, gn), ⟨by dsimp only; omega, hlev, okl_mono hok1 (Nat.le_trans (Nat.le_add_right _ _) (Nat.le_of_eq hB.symm))⟩, Nat.lt_succ_self j, ?_⟩
      refine le_mk2 ?_ ?_ (Nat.le_refl _)
      · first | refine auE ?_ | exact auE0
        all_goals (repeat' (first | exact trivial | exact rfl | apply And.intro))
      · exact hs_refl _
theorem turn_spec (pl n : Nat) (hn : n + 1 ≤ 16777215) (L : WL) (hok : OkL ((n + 1 : Nat) : Int) 500 (L, [])) (lb nm lb' : Nat → Nat) (nb q : Nat) :
    MSpec Try.prog 30 [.ptr pl nb 97 0 0] (some ⟨nb, 97, [.v (.int .i64 (n : Nat)) :: rowc lb nm 0 L]⟩ :: rowh nm 0 L) 97 (fun m dd H => dd = .sl q (m + 96) 2 0 (levs (n + 1) 6 (L, [])).2.length false ∧ H = some ⟨nb, 97, [.v (.int .i64 ((n + 1 : Nat) : Int)) :: rowc lb' (fun j => m + j) 0 (levs (n + 1) 6 (L, [])).1]⟩ :: (rowh (fun j => m + j) 0 (levs (n + 1) 6 (L, [])).1 ++ [some ⟨m + 96, 2, (levs (n + 1) 6 (L, [])).2.map Du.enc⟩])) :=
  mspec_ptr pl (turn0 n hn L hok lb nm lb' nb q)
end Go.Proofs.Ytecnjhmpipfldaa
