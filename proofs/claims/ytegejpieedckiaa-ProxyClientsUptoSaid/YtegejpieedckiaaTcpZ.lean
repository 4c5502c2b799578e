/-
  Segments: the reference's Moved.
-/
import Derived.Test.YtegejpieedckiaaTcpY
import Derived.Test.YtegejpieedckiaaTcpE
namespace Go.Proofs.Ytegejpieedckiaa
set_option linter.unusedVariables false
set_option linter.unusedSimpArgs false
theorem lgAt_drop (d : List UInt8) (i : Nat) : lgAt (d.drop i) 0 = lgAt d i := by
  unfold lgAt
  rw [wordAtI_drop, wordAtI_drop, Nat.add_zero]
theorem tk_snoc {l : List Op2} {k : Nat} {t : Op2} (f : Op2 → Op2) (ht : l[k]? = some t) : ((l.take (k + 1)).map f).map Op2.enc = ((l.take k).map f).map Op2.enc ++ [(f t).enc] := by
  rw [take_snoc ht, List.map_append, List.map_append]; rfl
set_option maxHeartbeats 4000000 in
theorem moved_spec (g : Sg) (s a : Int) (hl : g.opts.length ≤ maxLen) (hl2 : g.opts.length * 24 ≤ 140737488351232) (hd : ∀ t ∈ g.opts, t.d.length ≤ 140737488351232) (hs : 0 ≤ s ∧ s < 4294967296) (ha : 0 ≤ a ∧ a < 4294967296) (hq : 0 ≤ g.seq ∧ g.seq < 4294967296) (hk : 0 ≤ g.ack ∧ g.ack < 4294967296) : Spec Try.prog 23 [dG g, .v (.int .u32 s), .v (.int .u32 a)] (dG (mvd g s a)) := by
  have p1 := plus_spec g.seq s hq hs
  have p2 := plus_spec g.ack a hk ha
  unfold maxLen at hl
  obtain ⟨fr, to, seq, ack, flags, win, urg, l, data⟩ := g
  dsimp only at *
  unfold mvd
  dsimp only
  by_cases hfl : bits .and .i64 flags 16 = 0
  · rw [if_pos hfl]
    refine hspec_fn Try.func23 rfl ok_custref_Moved okr_custref_Moved rfl (by kernel_rfl) ?_
    intro Γ hW0 hN0 hL0
    have hW := hW0 rfl
    clear hW0 hN0 hL0
    unfold x_custref_Moved r_custref_Moved
    refine auC ?_
    repeat' (first
      | (refine auS ?_)
      | (first | (simp only [hfl]) | (with_reducible refine runR_call p1 ?_))
      | (refine auD ?_)
      | (with_reducible refine runR_b (fun h => ?_) (fun h => ?_) <;> first | exact auH | simp only [h, runR_t, runR_f])
      | (with_reducible refine condK_bl ?_ ?_)
      | (with_reducible refine condK_b (fun h => ?_) (fun h => ?_) <;> first | exact auH | skip)
      | fail)
    (all_goals first | exact auP | skip)
    all_goals first
      | (exfalso; simp at h; done)
      | skip
    have hnf : nfLL Γ.g0 (l.map Op2.enc) := nfLL_map (fun x => by simp [nfL, nfD])
    all_goals refine auF ?_
    all_goals (try first | refine auR ?_ | exact auR0)
    all_goals (try simp only [hsM] at *)
  · rw [if_neg hfl]
    refine hspec_fn Try.func23 rfl ok_custref_Moved okr_custref_Moved rfl (by kernel_rfl) ?_
    intro Γ hW0 hN0 hL0
    have hW := hW0 rfl
    clear hW0 hN0 hL0
    unfold x_custref_Moved r_custref_Moved
    refine auC ?_
    repeat' (first
      | (refine auS ?_)
      | (first | (with_reducible refine runR_call p1 ?_) | (with_reducible refine runR_call p2 ?_))
      | (refine auD ?_)
      | (with_reducible refine runR_b (fun h => ?_) (fun h => ?_) <;> first | exact auH | simp only [h, runR_t, runR_f])
      | (with_reducible refine condK_bl ?_ ?_)
      | (with_reducible refine condK_b (fun h => ?_) (fun h => ?_) <;> first | exact auH | skip)
      | fail)
    (all_goals first | exact auP | skip)
    all_goals first
      | (exfalso; simp at h; exact hfl h)
      | skip
    apply go_le
    · exact le_row ⟨.d0, .d0, .d7⟩ 4 2 rfl rfl
    refine auL ?_
    refine go_loopH (α := Nat × Nat × Nat) (fun x => [(⟨.d0, .d0, .d7⟩, .sl 4 x.2.1 2 0 x.1 false), (⟨.d0, .d3, .d6⟩, .v (.int .i64 (x.1 : Nat)))]) (fun x => [(2, none), (3, none), (4, some ⟨x.2.1, 2, ((l.take x.1).map (movO a)).map Op2.enc⟩)]) (fun x => x.2.2) (fun x => l.length - x.1) (fun x => x.1 ≤ l.length) (0, Γ.g0 + 1 + 1, Γ.g0 + 1 + 1 + 1) (Nat.zero_le _) ?_ ?_
    · skip
      refine le_mk ?_ ?_ (Nat.le_refl _)
      all_goals first | refine auE ?_ | exact auE0
      all_goals (repeat' (first | exact trivial | exact rfl | apply And.intro))
    rintro ⟨k, nm, gn⟩ hkl
    dsimp only at hkl ⊢
    have htk : (l.take k).length = k := by simp; omega
    refine auL ?_
    have hrl : (((l.take k).map (movO a)).map Op2.enc).length = k := by simp; omega
    by_cases hlt : k < l.length
    · obtain ⟨t, ht⟩ : ∃ t, l[k]? = some t := ⟨_, List.getElem?_eq_getElem hlt⟩
      have ex := xget_op ht
      have htd := hd t (List.mem_of_getElem? ht)
      have hsn := tk_snoc (movO a) ht
      cases hm : isMov t with
      | false =>
        have hu : movO a t = t := by unfold movO; rw [hm]; rfl
        have hq2 : ¬ (t.k = 5 ∧ t.d.length % 8 = 0) := fun q => by unfold isMov at hm; rw [q.1, q.2] at hm; simp at hm
        rw [hu] at hsn
        repeat' (first
          | (refine auS ?_)
          | (first | (simp only [mkS_size, tm8]))
          | (refine auD ?_)
          | (with_reducible refine runR_b (fun h => ?_) (fun h => ?_) <;> first | exact auH | simp only [h, runR_t, runR_f])
          | (with_reducible refine condK_bl ?_ ?_)
          | (with_reducible refine condK_b (fun h => ?_) (fun h => ?_) <;> first | exact auH | skip)
          | (first | (simp only [Int.toNat_natCast, ex, List.length_map]) | (refine runR_n ⟨by trivial, by trivial, by trivial, by trivial, by rw [hrl]⟩ ?_) | (refine runR_n ⟨by rfl, by unfold room maxLen; rw [hrl]; simp; omega⟩ ?_) | fail))
        (all_goals first | exact auP | skip)
        all_goals first
          | (exfalso; simp_all; done)
          | skip
        all_goals
        refine nx_loop ⟨(k + 1, gn + 1 + 1, gn + 1 + 1 + 1), hlt, Nat.sub_lt_sub_left hlt (Nat.lt_succ_self k), ?_⟩
        refine le_mk ?_ ?_ (Nat.le_refl _)
        all_goals first | refine auE ?_ | exact auE0
        all_goals (repeat' (first | exact trivial | exact rfl | apply And.intro))
        all_goals first
          | exact dint ((IntWalk.i64_in _ (by omega)).trans (by omega))
          | (rw [hrl]; done)
          | (rw [htk]; done)
          | exact congrArg some (congrArg (AObj.mk (gn + 1 + 1) 2) hsn.symm)
          | skip
      | true =>
        have hu : movO a t = ⟨t.k, movN a t.d (t.d.length / 4)⟩ := by unfold movO; rw [hm]; rfl
        rw [hu] at hsn
        unfold isMov at hm
        obtain ⟨hk5, hd8⟩ : t.k = 5 ∧ t.d.length % 8 = 0 := by simpa using hm
        repeat' (first
          | (refine auS ?_)
          | (first | (simp only [mkS_size, tm8, hk5, hd8]))
          | (refine auD ?_)
          | (with_reducible refine runR_b (fun h => ?_) (fun h => ?_) <;> first | exact auH | simp only [h, runR_t, runR_f])
          | (with_reducible refine condK_bl ?_ ?_)
          | (with_reducible refine condK_b (fun h => ?_) (fun h => ?_) <;> first | exact auH | skip)
          | (first | (simp only [Int.toNat_natCast, ex, List.length_map]) | fail))
        (all_goals first | exact auP | skip)
        all_goals first
          | (exfalso; simp_all; done)
          | skip
        refine go_loopH (α := Nat) (fun j => [(⟨.d0, .d1, .d2⟩, .v (.string (mkS (movN a t.d j)))), (⟨.d0, .d1, .d3⟩, .v (.string (mkS (t.d.drop (4 * j)))))]) (fun j => []) (fun j => gn + 1) (fun j => t.d.length / 4 - j) (fun j => j ≤ t.d.length / 4) 0 (Nat.zero_le _) ?_ ?_
        · skip
          refine le_mk ?_ ?_ (Nat.le_refl _)
          all_goals first | refine auE ?_ | exact auE0
          all_goals (repeat' (first | exact trivial | exact rfl | apply And.intro))
        intro j hj
        dsimp only at hj ⊢
        refine auL ?_
        by_cases hjl : j < t.d.length / 4
        · have hne : ¬ t.d.drop (4 * j) = [] := fun q => by
            have := congrArg List.length q
            simp at this
            omega
          have h1 := longAt_spec (t.d.drop (4 * j)) 0 (by simp; omega) (by simp; omega) 0 rfl
          rw [lgAt_drop] at h1
          have h2 := plus_spec (lgAt t.d (4 * j)) a (lgAt_bd _ _) ha
          have h3 := long_spec ((lgAt t.d (4 * j) + a) % 4294967296) (by omega) (by omega)
          have hml := movN_len a t.d j
          have hdl : (t.d.drop (4 * j)).length = t.d.length - 4 * j := List.length_drop
          have x1 : (mkS (t.d.drop (4 * j))).extract 4 (t.d.length - 4 * j) = mkS (t.d.drop (4 * (j + 1))) := by
            rw [mkS_ext, List.drop_drop, List.take_of_length_le (by simp; omega)]; rfl
          repeat' (first
            | (refine auS ?_)
            | (first | (simp only [mkS_size, mkS_app, emT, mkS_inj, hne, hdl, x1, Int.toNat_natCast]) | (with_reducible refine runR_call h1 ?_) | (with_reducible refine runR_call h2 ?_) | (with_reducible refine runR_call h3 ?_))
            | (refine auD ?_)
            | (with_reducible refine runR_b (fun h => ?_) (fun h => ?_) <;> first | exact auH | simp only [h, runR_t, runR_f])
            | (with_reducible refine condK_bl ?_ ?_)
            | (with_reducible refine condK_b (fun h => ?_) (fun h => ?_) <;> first | exact auH | skip)
            | (first | (refine runR_n (by simp only [mkS_size, hml, lg_len]; omega) ?_) | fail))
          (all_goals first | exact auP | skip)
          refine nx_loop ⟨j + 1, hjl, by omega, ?_⟩
          refine le_mk ?_ ?_ (Nat.le_refl _)
          all_goals first | refine auE ?_ | exact auE0
          all_goals (repeat' (first | exact trivial | exact rfl | apply And.intro))
        · obtain rfl : j = t.d.length / 4 := by omega
          have hne : t.d.drop (4 * (t.d.length / 4)) = [] := List.drop_eq_nil_of_le (by omega)
          repeat' (first
            | (refine auS ?_)
            | (first | (simp only [mkS_size, emT, mkS_inj, hne]))
            | (refine auD ?_)
            | (with_reducible refine runR_b (fun h => ?_) (fun h => ?_) <;> first | exact auH | simp only [h, runR_t, runR_f])
            | (with_reducible refine condK_bl ?_ ?_)
            | (with_reducible refine condK_b (fun h => ?_) (fun h => ?_) <;> first | exact auH | skip)
            | (first | (refine runR_n ⟨by trivial, by trivial, by trivial, by trivial, by rw [hrl]⟩ ?_) | (refine runR_n ⟨by rfl, by unfold room maxLen; rw [hrl]; simp; omega⟩ ?_) | fail))
          (all_goals first | exact auP | skip)
          refine nx_loop ⟨(k + 1, gn + 1 + 1, gn + 1 + 1 + 1), hlt, Nat.sub_lt_sub_left hlt (Nat.lt_succ_self k), ?_⟩
          refine le_mk ?_ ?_ (Nat.le_refl _)
          all_goals first | refine auE ?_ | exact auE0
          all_goals (repeat' (first | exact trivial | exact rfl | apply And.intro))
          all_goals first
            | exact dint ((IntWalk.i64_in _ (by omega)).trans (by omega))
            | (rw [hrl]; done)
            | (rw [htk]; done)
            | (refine congrArg some (congrArg (AObj.mk (gn + 1 + 1) 2) ?_)
               rw [hsn, hk5])
            | skip
    · obtain rfl : k = l.length := by omega
      rw [List.take_length] at hrl ⊢
      repeat' (first
        | (refine auS ?_)
        | (simp only [List.length_map])
        | (refine auD ?_)
        | (with_reducible refine runR_b (fun h => ?_) (fun h => ?_) <;> first | exact auH | simp only [h, runR_t, runR_f])
        | (with_reducible refine condK_bl ?_ ?_)
        | (with_reducible refine condK_b (fun h => ?_) (fun h => ?_) <;> first | exact auH | skip)
        | fail)
      (all_goals first | exact auP | skip)
      refine retq_le (leG_freezeO hW 1 4 (by decide) (ys := [[.v (.int .i64 fr), .v (.int .i64 to), .v (.int .u32 ((seq + s) % 4294967296)), .v (.int .u32 ((ack + a) % 4294967296)), .v (.int .i64 flags), .v (.int .i64 win), .v (.int .i64 urg), .snap 2 ((l.map (movO a)).map Op2.enc) false, .v (.string (mkS data))]]) rfl rfl ⟨⟨rfl, rfl, rfl, rfl, rfl, rfl, rfl, Or.inl ⟨rfl, rfl, by simp, ?_⟩, rfl, rfl⟩, rfl⟩) ?_
      · rw [xall (by simp)]
      have hnf : nfLL Γ.g0 ((l.map (movO a)).map Op2.enc) := nfLL_map (fun x => by simp [nfL, nfD])
      all_goals refine auF ?_
      all_goals (try first | refine auR ?_ | exact auR0)
      all_goals (try simp only [hsM] at *)
end Go.Proofs.Ytegejpieedckiaa
