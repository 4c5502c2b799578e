/-
  strings.Split at one byte: the row of its pieces.
-/
import Derived.Test.YtbcamncabckbnaaGreatDoorSplS
namespace Go.Proofs.YtbcamncabckbnaaGreatDoor
set_option linter.unusedVariables false
set_option linter.unusedSimpArgs false
def rowS (l : List ByteArray) : List (List DV) := l.map fun x => [.v (.string x)]
theorem spl_count (c : UInt8) : ∀ l : List UInt8, (spl c l).length = Lib.countByte l c + 1
  | [] => rfl
  | b :: l => by
    have ih := spl_count c l
    unfold Lib.countByte at ih ⊢
    by_cases h : b = c
    · subst h
      rw [spl_eq, List.length_cons, ih, List.count_cons_self]
    · cases hq : spl c l with
      | nil => exact absurd hq (spl_ne c l)
      | cons p ps =>
        rw [spl_cons h hq, List.count_cons_of_ne h, ← ih, hq]
        rfl
theorem spl_le (c : UInt8) (l : List UInt8) : (spl c l).length ≤ l.length + 1 := by
  rw [spl_count]
  unfold Lib.countByte
  have := List.count_le_length (a := c) (l := l)
  omega
theorem ib_app {c : UInt8} : ∀ {p : List UInt8} (r : List UInt8), c ∉ p → Lib.indexByte (p ++ c :: r) c = p.length
  | [], r, _ => by simp [Lib.indexByte]
  | b :: p, r, h => by
    have hb : ¬ b = c := fun e => h (by simp [e])
    have ih := ib_app (p := p) r (fun q => h (List.mem_cons_of_mem _ q))
    simp only [List.cons_append, Lib.indexByte, beq_iff_eq, if_neg hb, ih, List.length_cons]
    rw [if_neg (by omega)]
    omega
def blk : List DV := [.v (.string ⟨#[]⟩)]
theorem repl_append (x : List DV) (k : Nat) (A : List (List DV)) (y : List DV) : xset (A ++ repl x (k + 1)) A.length y = A ++ [y] ++ repl x k := by
  have := xset_app x y [] (repl x k) A
  simpa [repl] using this
theorem repl_len (x : List DV) : ∀ k, (repl x k).length = k
  | 0 => rfl
  | k + 1 => by simp [repl, repl_len x k]
theorem row_len (dn : List (List UInt8)) (k : Nat) : (rowS (dn.map mkS) ++ repl blk k).length = dn.length + k := by simp [rowS, repl_len]
theorem row_set (dn : List (List UInt8)) (k : Nat) (y : DV) : xset (rowS (dn.map mkS) ++ repl blk (k + 1)) dn.length (splice (xget (rowS (dn.map mkS) ++ repl blk (k + 1)) dn.length) 0 [y]) = rowS (dn.map mkS) ++ [[y]] ++ repl blk k := by
  have hl : (rowS (dn.map mkS)).length = dn.length := by simp [rowS]
  have hg : xget (rowS (dn.map mkS) ++ repl blk (k + 1)) dn.length = blk := by
    rw [xget_get, List.getElem?_append_right (by omega), hl, Nat.sub_self]
    rfl
  rw [hg]
  have := repl_append blk k (rowS (dn.map mkS)) [y]
  rw [hl] at this
  exact this
set_option maxHeartbeats 2000000 in
theorem gensplit_spec (c : UInt8) (l : List UInt8) (hl : l.length ≤ 1048576) : Spec Tryz.prog 41 [.v (.string (mkS l)), .v (.string (mkS [c])), .v (.int .i64 0), .v (.int .i64 (-1))] (.snap 1 (rowS ((spl c l).map mkS)) false) := by
  have hc := count_spec c l
  have hle := spl_le c l
  have hcn := spl_count c l
  have hpos : 0 < (spl c l).length := by rw [hcn]; omega
  have w1 : IntKind.i64.wrap ((Lib.countByte l c : Nat) + 1) = ((spl c l).length : Nat) := by rw [hcn, IntWalk.i64_in _ (by omega)]; omega
  have w2 : IntKind.i64.wrap ((l.length : Nat) + 1) = ((l.length + 1 : Nat) : Int) := by rw [IntWalk.i64_in _ (by omega)]; omega
  have w3 : min ((spl c l).length : Int) ((l.length + 1 : Nat) : Int) = ((spl c l).length : Nat) := by omega
  have w4 : IntKind.i64.wrap (((spl c l).length : Nat) - 1) = (((spl c l).length - 1 : Nat) : Int) := by rw [IntWalk.i64_in _ (by omega)]; omega
  have e1 : (mkS [c] = ⟨#[]⟩) = False := by
    refine eq_false ?_
    show ¬ mkS [c] = mkS []
    rw [mkS_inj]
    simp
  generalize hn : (spl c l).length = n at *
  refine hspec_fn Tryz.func41 rfl ok_strings_genSplit okr_strings_genSplit rfl (by kernel_rfl) ?_
  intro Γ hW0 hN0 hL0
  have hW := hW0 rfl
  clear hW0 hN0 hL0
  unfold x_strings_genSplit r_strings_genSplit
  with_reducible refine auC ?_
  repeat' (first
    | (with_reducible refine auS ?_)
    | (first | (simp only [e1]) | (simp only [mkS_size, w1, w2, w3, w4, Int.toNat_natCast]) | (with_reducible refine runR_call hc ?_))
    | (with_reducible refine auD ?_)
    | ((with_reducible refine auB ?_ ?_); all_goals first | (intro h; first | exact auH | simp only [h, runR_t, runR_f] | skip) | skip)
    | (refine runR_n ⟨by omega, by omega, by (unfold room maxLen; omega)⟩ ?_))
  (all_goals first | exact auP | skip)
  refine go_loopH (α := List (List UInt8) × List UInt8) (fun x => [(⟨.d0, .d0, .d0⟩, .v (.string (mkS x.2))), (⟨.d0, .d1, .d2⟩, .v (.int .i64 (x.1.length : Nat)))]) (fun x => [(0, some ⟨Γ.g0, 1, rowS (x.1.map mkS) ++ repl blk (n - x.1.length)⟩)]) (fun _ => Γ.g0 + 1) (fun x => n - x.1.length) (fun x => spl c l = x.1 ++ spl c x.2 ∧ x.2.length ≤ 1048576) ([], l) ⟨rfl, hl⟩ ?_ ?_
  · skip
    refine le_mk ?_ ?_ (Nat.le_refl _)
    all_goals first | with_reducible refine auE ?_ | exact auE0
    all_goals (repeat' (first | exact trivial | exact rfl | apply And.intro))
  rintro ⟨dn, rest⟩ ⟨hsp, hrl⟩
  dsimp only at hsp hrl ⊢
  with_reducible refine auL ?_
  have hlen : dn.length + (spl c rest).length = n := by rw [← hn, hsp, List.length_append]
  cases hq : spl c rest with
  | nil => exact absurd hq (spl_ne _ _)
  | cons p ps =>
  rw [hq] at hlen hsp
  rw [List.length_cons] at hlen
  obtain ⟨hp1, hp2⟩ := spl_inv hq
  rcases hp2 with ⟨rfl, rfl⟩ | ⟨r, rfl, hr⟩
  · have hd : dn.length = n - 1 := by simp at hlen; omega
    have w5 : IntKind.i64.wrap ((dn.length : Int) + 1) = ((n : Nat) : Int) := by rw [IntWalk.i64_in _ (by omega)]; omega
    have hs := row_set dn 0
    have hlx := row_len dn (0 + 1)
    rw [show n - dn.length = 0 + 1 by omega]
    have hfin : rowS (dn.map mkS) ++ repl blk 0 = rowS (dn.map mkS) := List.append_nil _
    generalize rowS (dn.map mkS) ++ repl blk (0 + 1) = X at hs hlx ⊢
    repeat' (first
      | (with_reducible refine auS ?_)
      | (simp only [w5, hs, Nat.zero_add, Int.toNat_natCast])
      | (with_reducible refine auD ?_)
      | ((with_reducible refine auB ?_ ?_); all_goals first | (intro h; first | exact auH | simp only [h, runR_t, runR_f] | skip) | skip)
      | (refine runR_n ⟨by omega, Nat.le_refl _, rfl⟩ ?_))
    (all_goals first | exact auP | skip)
    refine retq_le (leG_freeze hW ⟨.d0, .d1, .d0⟩ rfl rfl ⟨rfl, rfl, ?_⟩) ?_
    · simp [rowS]
      omega
    · rw [hsp, List.map_append, List.append_nil, show (n : Int) - 0 = ((n : Nat) : Int) by omega, Int.toNat_natCast]
      rw [xall (l := rowS (dn.map mkS) ++ [[DV.v (.string (mkS rest))]]) (by simp [rowS]; omega)]
      rw [show rowS (dn.map mkS) ++ [[DV.v (.string (mkS rest))]] = rowS (List.map mkS dn ++ List.map mkS [rest]) by simp [rowS]]
      have hnf : nfLL Γ.g0 (rowS (List.map mkS dn ++ List.map mkS [rest])) := nfLL_map (fun x => by simp [nfL, nfD])
      all_goals with_reducible refine auF ?_
      all_goals (try first | with_reducible refine auR ?_ | exact auR0)
      all_goals (try simp only [hsM] at *)
      all_goals rfl
  · have hd : dn.length < n - 1 := by
      have : 0 < ps.length := by rw [← hr]; exact List.length_pos_iff.2 (spl_ne _ _)
      omega
    have hidx := index_spec c (p ++ c :: r)
    rw [ib_app r hp1] at hidx
    have hpl : p.length + 1 + r.length ≤ 1048576 := by simp at hrl; omega
    have ea : (mkS (p ++ c :: r)).extract 0 p.length = mkS p := by rw [mkS_ext]; simp
    have eb : (mkS (p ++ c :: r)).extract (p.length + 1) (p ++ c :: r).length = mkS r := by
      have hd2 : (p ++ c :: r).drop (p.length + 1) = r := by
        rw [show p ++ c :: r = (p ++ [c]) ++ r by simp]
        exact List.drop_left' (by simp)
      rw [mkS_ext, hd2, List.take_of_length_le (by simp; omega)]
    have w5 : IntKind.i64.wrap ((p.length : Int) + 0) = ((p.length : Nat) : Int) := by rw [IntWalk.i64_in _ (by omega)]; omega
    have w6 : IntKind.i64.wrap ((p.length : Int) + 1) = ((p.length + 1 : Nat) : Int) := by rw [IntWalk.i64_in _ (by omega)]; omega
    have w7 : IntKind.i64.wrap ((dn.length : Int) + 1) = ((dn.length + 1 : Nat) : Int) := by rw [IntWalk.i64_in _ (by omega)]; omega
    have hsz1 : ((mkS [c]).size : Int) = 1 := rfl
    obtain ⟨k, hk⟩ : ∃ k, n - dn.length = k + 1 := ⟨n - dn.length - 1, by omega⟩
    rw [hk]
    have hs := row_set dn k
    have hlx := row_len dn (k + 1)
    generalize rowS (dn.map mkS) ++ repl blk (k + 1) = X at hs hlx ⊢
    repeat' (first
      | (with_reducible refine auS ?_)
      | (first | (simp only [hsz1, w5, w6, w7, Int.toNat_natCast, ea, eb, hs, Nat.zero_add]) | (simp only [mkS_size]) | (with_reducible refine runR_call hidx ?_))
      | (with_reducible refine auD ?_)
      | ((with_reducible refine auB ?_ ?_); all_goals first | (intro h; first | exact auH | simp only [h, runR_t, runR_f] | skip) | skip)
      | (refine runR_n ⟨by omega, Nat.le_refl _, rfl⟩ ?_))
    (all_goals first | exact auP | skip)
    refine nx_loop ⟨(dn ++ [p], r), ⟨by dsimp only; rw [hsp, hr]; simp, by dsimp only; omega⟩, by simp; omega, ?_⟩
    have hlp : (dn ++ [p]).length = dn.length + 1 := by simp
    have hk2 : n - (dn.length + 1) = k := by omega
    refine le_mk ?_ ?_ (Nat.le_refl _)
    all_goals first | with_reducible refine auE ?_ | exact auE0
    all_goals (repeat' (first | exact trivial | exact rfl | apply And.intro))
    · rw [hlp]
    · rw [hlp, hk2]
      simp [rowS]
theorem split_spec (c : UInt8) (l : List UInt8) (hl : l.length ≤ 1048576) : Spec Tryz.prog 24 [.v (.string (mkS l)), .v (.string (mkS [c]))] (.snap 1 (rowS ((spl c l).map mkS)) false) := by
  have hcal := gensplit_spec c l hl
  have hnf : ∀ g, nfLL g (rowS ((spl c l).map mkS)) := fun g => nfLL_map (fun x => by simp [nfL, nfD])
  refine hspec_fn Tryz.func24 rfl ok_strings_Split okr_strings_Split rfl (by kernel_rfl) ?_
  intro Γ hW0 hN0 hL0
  have hW := hW0 rfl
  clear hW0 hN0 hL0
  unfold x_strings_Split r_strings_Split
  with_reducible refine auC ?_
  repeat' (first
    | (with_reducible refine auS ?_)
    | (with_reducible refine runR_call hcal ?_)
    | (with_reducible refine auD ?_)
    | ((with_reducible refine auB ?_ ?_); all_goals first | (intro h; first | exact auH | simp only [h, runR_t, runR_f] | skip) | skip)
    | fail)
  (all_goals first | exact auP | skip)
  have hnf := hnf Γ.g0
  all_goals with_reducible refine auF ?_
  all_goals (try first | with_reducible refine auR ?_ | exact auR0)
  all_goals (try simp only [hsM] at *)
end Go.Proofs.YtbcamncabckbnaaGreatDoor
