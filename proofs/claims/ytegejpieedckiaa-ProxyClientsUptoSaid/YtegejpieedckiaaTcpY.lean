/-
  Segments: Move, in the program.
-/
import Derived.Test.YtegejpieedckiaaTcpK
namespace Go.Proofs.Ytegejpieedckiaa
set_option linter.unusedVariables false
set_option linter.unusedSimpArgs false
set_option maxHeartbeats 1000000 in
theorem opclone1 (l : List Op2) (c : Bool) (hl : room l.length 24) : OSpec Try.prog 72 [.snap 2 (l.map Op2.enc) c] [] (fun n d H => d = .sl 1 n 2 0 l.length false ∧ H = [some ⟨n, 2, l.map Op2.enc⟩]) := by
  have hones : ∀ r : List Op2, allOnes (r.map Op2.enc) = true := allOnes_map (fun x => rfl)
  cases l with
  | nil =>
    refine ospec_fn Try.func72 rfl ok_slices_Clone_api_Option okr_slices_Clone_api_Option rfl (by kernel_rfl) ?_
    intro Γ hW0 hN0 hL0
    have hW := hW0 rfl
    clear hW0 hN0 hL0
    unfold x_slices_Clone_api_Option r_slices_Clone_api_Option
    refine auC ?_
    dsimp only [List.map]
    repeat' (first
      | (refine auS ?_)
      | (with_reducible refine runR_l ?_)
      | (refine auD ?_)
      | (with_reducible refine runR_b (fun h => ?_) (fun h => ?_) <;> first | exact auH | simp only [h, runR_t, runR_f])
      | (with_reducible refine condK_bl ?_ ?_)
      | (with_reducible refine condK_b (fun h => ?_) (fun h => ?_) <;> first | exact auH | skip)
      | fail)
    · refine retqo_le (le_leG (le_row ⟨.d0, .d0, .d2⟩ 1 2 rfl rfl)) ?_
      exact ret_ospec 1 (fun n => .sl 1 n 2 0 0 false) trivial rfl (Nat.le_refl _) trivial (fun n => .inl ⟨rfl, rfl⟩) (fun n => ⟨rfl, rfl⟩)
    · exact ret_ospec 1 (fun n => .sl 1 n 2 0 0 false) trivial rfl (by show Γ.g0 ≤ Γ.g0 + 1; omega) trivial (fun n => .inl ⟨rfl, rfl⟩) (fun n => ⟨rfl, rfl⟩)
  | cons x r =>
    refine ospec_fn Try.func72 rfl ok_slices_Clone_api_Option okr_slices_Clone_api_Option rfl (by kernel_rfl) ?_
    intro Γ hW0 hN0 hL0
    have hW := hW0 rfl
    clear hW0 hN0 hL0
    unfold x_slices_Clone_api_Option r_slices_Clone_api_Option
    refine auC ?_
    dsimp only [List.map]
    repeat' (first
      | (refine auS ?_)
      | (with_reducible refine runR_l ?_)
      | (refine auD ?_)
      | (with_reducible refine runR_b (fun h => ?_) (fun h => ?_) <;> first | exact auH | simp only [h, runR_t, runR_f])
      | (with_reducible refine condK_bl ?_ ?_)
      | (with_reducible refine condK_b (fun h => ?_) (fun h => ?_) <;> first | exact auH | skip)
      | (refine runR_n ⟨Or.inl (by omega), rfl, hones _, by simp only [room, maxLen, List.length_map, List.length_cons] at hl ⊢; omega⟩ ?_))
    refine ret_ospec 1 (fun n => .sl 1 n 2 0 (x :: r).length false) trivial rfl (by show Γ.g0 ≤ Γ.g0 + 1; omega) ?_ (fun n => .inl ⟨rfl, ?_⟩) (fun n => ⟨rfl, rfl⟩)
    · exact (nfLL_map (fun x => by simp [nfL, nfD]) : nfLL Γ.g0 ((x :: r).map Op2.enc))
    · simp [List.length_map]
theorem opclone_spec (j : Nat) (l : List Op2) (c : Bool) (hl : room l.length 24) : OSpec Try.prog 72 [.snap 2 (l.map Op2.enc) c] [] (fun n d H => d = .sl j n 2 0 l.length false ∧ H = [some ⟨n, 2, l.map Op2.enc⟩]) :=
  ospec_as (opclone1 l c hl) (fun K w n v h => sl_label h)
theorem emT : (ByteArray.mk #[] : ByteArray) = mkS [] := rfl
theorem room24 {n : Nat} (h : n ≤ maxLen) (h2 : n * 24 ≤ 140737488351232) : room n 24 := ⟨h, by omega⟩
theorem tm8 (n : Nat) : ((n : Nat) : Int).tmod 8 = ((n % 8 : Nat) : Int) := (Int.ofNat_tmod n 8).symm
set_option maxHeartbeats 4000000 in
theorem move_spec (g : Sg) (s a : Int) (hl : g.opts.length ≤ maxLen) (hl2 : g.opts.length * 24 ≤ 140737488351232) (hd : ∀ t ∈ g.opts, t.d.length ≤ 140737488351232) (hs : 0 ≤ s ∧ s < 4294967296) (ha : 0 ≤ a ∧ a < 4294967296) (hq : 0 ≤ g.seq ∧ g.seq < 4294967296) (hk : 0 ≤ g.ack ∧ g.ack < 4294967296) : Spec Try.prog 46 [dG g, .v (.int .u32 s), .v (.int .u32 a)] (dG (mvd g s a)) := by
  have hcl := opclone_spec 5 g.opts false (room24 hl hl2)
  unfold maxLen at hl
  obtain ⟨fr, to, seq, ack, flags, win, urg, l, data⟩ := g
  dsimp only at *
  have e1 : IntKind.u32.wrap (seq + s) = (seq + s) % 4294967296 := IntKind.wrap_u32 _
  have e2 : IntKind.u32.wrap (ack + a) = (ack + a) % 4294967296 := IntKind.wrap_u32 _
  unfold mvd
  dsimp only
  by_cases hfl : bits .and .i64 flags 16 = 0
  · rw [if_pos hfl]
    refine hspec_fn Try.func46 rfl ok_tcp_Move okr_tcp_Move rfl (by kernel_rfl) ?_
    intro Γ hW0 hN0 hL0
    have hW := hW0 rfl
    clear hW0 hN0 hL0
    unfold x_tcp_Move r_tcp_Move
    refine auC ?_
    repeat' (first
      | (refine auS ?_)
      | (first | (simp only [e1, e2, hfl]) | (with_reducible refine runR_callO 5 hcl ?_))
      | (refine auD ?_)
      | (with_reducible refine runR_b (fun h => ?_) (fun h => ?_) <;> first | exact auH | simp only [h, runR_t, runR_f])
      | (with_reducible refine condK_bl ?_ ?_)
      | (with_reducible refine condK_b (fun h => ?_) (fun h => ?_) <;> first | exact auH | skip)
      | fail)
    (all_goals first | exact auP | skip)
    all_goals first
      | (exfalso; simp at h; done)
      | skip
    refine retq_le (leG_freezeO hW 1 5 (by decide) (ys := [[.v (.int .i64 fr), .v (.int .i64 to), .v (.int .u32 ((seq + s) % 4294967296)), .v (.int .u32 ack), .v (.int .i64 flags), .v (.int .i64 win), .v (.int .i64 urg), .snap 2 (l.map Op2.enc) false, .v (.string (mkS data))]]) rfl rfl ⟨⟨rfl, rfl, rfl, rfl, rfl, rfl, rfl, Or.inl ⟨rfl, rfl, by simp, ?_⟩, rfl, rfl⟩, rfl⟩) ?_
    · rw [xall (by simp)]
    have hnf : nfLL Γ.g0 (l.map Op2.enc) := nfLL_map (fun x => by simp [nfL, nfD])
    all_goals refine auF ?_
    all_goals (try first | refine auR ?_ | exact auR0)
    all_goals (try simp only [hsM] at *)
  · rw [if_neg hfl]
    refine hspec_fn Try.func46 rfl ok_tcp_Move okr_tcp_Move rfl (by kernel_rfl) ?_
    intro Γ hW0 hN0 hL0
    have hW := hW0 rfl
    clear hW0 hN0 hL0
    unfold x_tcp_Move r_tcp_Move
    refine auC ?_
    repeat' (first
      | (refine auS ?_)
      | (first | (simp only [e1, e2]) | (with_reducible refine runR_callO 5 hcl ?_))
      | (refine auD ?_)
      | (with_reducible refine runR_b (fun h => ?_) (fun h => ?_) <;> first | exact auH | simp only [h, runR_t, runR_f])
      | (with_reducible refine condK_bl ?_ ?_)
      | (with_reducible refine condK_b (fun h => ?_) (fun h => ?_) <;> first | exact auH | skip)
      | fail)
    (all_goals first | exact auP | skip)
    all_goals first
      | (exfalso; simp at h; exact hfl h)
      | skip
    refine go_loopH (α := Nat × Nat) (fun x => [(⟨.d0, .d4, .d1⟩, .v (.int .i64 (x.1 : Nat)))]) (fun x => [(2, none), (5, some ⟨Γ.g0 + 1 + 1, 2, ((l.take x.1).map (movO a) ++ l.drop x.1).map Op2.enc⟩)]) (fun x => x.2) (fun x => l.length - x.1) (fun x => x.1 ≤ l.length) (0, Γ.g0 + 1 + 1 + 1) (Nat.zero_le _) ?_ ?_
    · skip
      refine le_mk ?_ ?_ (Nat.le_refl _)
      all_goals first | refine auE ?_ | exact auE0
      all_goals (repeat' (first | exact trivial | exact rfl | apply And.intro))
    rintro ⟨k, gn⟩ hkl
    dsimp only at hkl ⊢
    refine auL ?_
    have htl := td_len l k (movO a) hkl
    by_cases hlt : k < l.length
    · obtain ⟨t, ht⟩ : ∃ t, l[k]? = some t := ⟨_, List.getElem?_eq_getElem hlt⟩
      have ex := take_drop_map (movO a) ht
      have htd := hd t (List.mem_of_getElem? ht)
      cases hm : isMov t with
      | false =>
        have hu : movO a t = t := by unfold movO; rw [hm]; rfl
        have hq2 : ¬ (t.k = 5 ∧ t.d.length % 8 = 0) := fun q => by unfold isMov at hm; rw [q.1, q.2] at hm; simp at hm
        have hkp := td_keep (movO a) ht hu
        repeat' (first
          | (refine auS ?_)
          | (first | (simp only [mkS_size, tm8]))
          | (refine auD ?_)
          | (with_reducible refine runR_b (fun h => ?_) (fun h => ?_) <;> first | exact auH | simp only [h, runR_t, runR_f])
          | (with_reducible refine condK_bl ?_ ?_)
          | (with_reducible refine condK_b (fun h => ?_) (fun h => ?_) <;> first | exact auH | skip)
          | (first | (simp only [Int.toNat_natCast, Nat.zero_add, ex]) | (refine runR_n ⟨by rw [htl]; exact hlt, by trivial⟩ ?_) | fail))
        (all_goals first | exact auP | skip)
        all_goals
        refine nx_loop ⟨(k + 1, gn + 1), hlt, Nat.sub_lt_sub_left hlt (Nat.lt_succ_self k), ?_⟩
        refine le_mk ?_ ?_ (Nat.le_refl _)
        all_goals first | refine auE ?_ | exact auE0
        all_goals (repeat' (first | exact trivial | exact rfl | apply And.intro))
        all_goals first
          | exact dint ((IntWalk.i64_in _ (by omega)).trans (by omega))
          | exact congrArg some (congrArg (AObj.mk (Γ.g0 + 1 + 1) 2) hkp)
      | true =>
        have hu : movO a t = ⟨t.k, movN a t.d (t.d.length / 4)⟩ := by unfold movO; rw [hm]; rfl
        have hst := td_set (movO a) ht hu
        unfold isMov at hm
        obtain ⟨hk5, hd8⟩ : t.k = 5 ∧ t.d.length % 8 = 0 := by simpa using hm
        repeat' (first
          | (refine auS ?_)
          | (first | (simp only [mkS_size, tm8, hk5, hd8]))
          | (refine auD ?_)
          | (with_reducible refine runR_b (fun h => ?_) (fun h => ?_) <;> first | exact auH | simp only [h, runR_t, runR_f])
          | (with_reducible refine condK_bl ?_ ?_)
          | (with_reducible refine condK_b (fun h => ?_) (fun h => ?_) <;> first | exact auH | skip)
          | (first | (simp only [Int.toNat_natCast, Nat.zero_add, ex]) | (refine runR_n ⟨by rw [htl]; exact hlt, by trivial⟩ ?_) | fail))
        (all_goals first | exact auP | skip)
        all_goals first
          | (exfalso; simp_all; done)
          | skip
        refine go_loopH (α := Nat) (fun j => [(⟨.d0, .d1, .d1⟩, .v (.string (mkS (movN a t.d j)))), (⟨.d0, .d1, .d2⟩, .v (.int .i64 (4 * (j : Int))))]) (fun j => []) (fun j => gn + 1) (fun j => t.d.length / 4 - j) (fun j => j ≤ t.d.length / 4) 0 (Nat.zero_le _) ?_ ?_
        · skip
          refine le_mk ?_ ?_ (Nat.le_refl _)
          all_goals first | refine auE ?_ | exact auE0
          all_goals (repeat' (first | exact trivial | exact rfl | apply And.intro))
        intro j hj
        dsimp only at hj ⊢
        refine auL ?_
        by_cases hjl : j < t.d.length / 4
        · have h1 := tcplongAt_spec t.d (4 * j) (by omega) (by omega) (4 * (j : Int)) (by omega)
          have h2 := tcplong_spec ((lgAt t.d (4 * j) + a) % 4294967296) (by omega) (by omega)
          have e3 : IntKind.u32.wrap (lgAt t.d (4 * j) + a) = (lgAt t.d (4 * j) + a) % 4294967296 := IntKind.wrap_u32 _
          have hml := movN_len a t.d j
          repeat' (first
            | (refine auS ?_)
            | (first | (simp only [mkS_size, mkS_app, e3]) | (with_reducible refine runR_call h1 ?_) | (with_reducible refine runR_call h2 ?_))
            | (refine auD ?_)
            | (with_reducible refine runR_b (fun h => ?_) (fun h => ?_) <;> first | exact auH | simp only [h, runR_t, runR_f])
            | (with_reducible refine condK_bl ?_ ?_)
            | (with_reducible refine condK_b (fun h => ?_) (fun h => ?_) <;> first | exact auH | skip)
            | (first | (refine runR_n (by simp only [mkS_size, hml, lg_len]; omega) ?_) | fail))
          (all_goals first | exact auP | skip)
          refine nx_loop ⟨j + 1, hjl, by omega, ?_⟩
          refine le_mk ?_ ?_ (Nat.le_refl _)
          all_goals first | refine auE ?_ | exact auE0
          all_goals (repeat' (first | exact trivial | exact rfl | apply And.intro))
          all_goals exact dint ((IntWalk.i64_in _ (by omega)).trans (by omega))
        · obtain rfl : j = t.d.length / 4 := by omega
          repeat' (first
            | (refine auS ?_)
            | (first | (simp only [mkS_size]))
            | (refine auD ?_)
            | (with_reducible refine runR_b (fun h => ?_) (fun h => ?_) <;> first | exact auH | simp only [h, runR_t, runR_f])
            | (with_reducible refine condK_bl ?_ ?_)
            | (with_reducible refine condK_b (fun h => ?_) (fun h => ?_) <;> first | exact auH | skip)
            | (first | (simp only [Int.toNat_natCast, Nat.zero_add, ex]) | (refine runR_n ⟨by rw [htl]; exact hlt, by trivial⟩ ?_) | (refine runR_n ⟨by rw [htl]; exact hlt, by trivial, by trivial⟩ ?_) | fail))
          (all_goals first | exact auP | skip)
          refine nx_loop ⟨(k + 1, gn + 1), hlt, Nat.sub_lt_sub_left hlt (Nat.lt_succ_self k), ?_⟩
          refine le_mk ?_ ?_ (Nat.le_refl _)
          all_goals first | refine auE ?_ | exact auE0
          all_goals (repeat' (first | exact trivial | exact rfl | apply And.intro))
          all_goals first
            | exact dint ((IntWalk.i64_in _ (by omega)).trans (by omega))
            | (refine congrArg some (congrArg (AObj.mk (Γ.g0 + 1 + 1) 2) ?_)
               rw [← hst, hk5])
            | skip
    · obtain rfl : k = l.length := by omega
      have hfin : ((l.take l.length).map (movO a) ++ l.drop l.length).map Op2.enc = (l.map (movO a)).map Op2.enc := by rw [List.take_length, List.drop_length, List.append_nil]
      rw [hfin]
      repeat' (first
        | (refine auS ?_)
        | fail
        | (refine auD ?_)
        | (with_reducible refine runR_b (fun h => ?_) (fun h => ?_) <;> first | exact auH | simp only [h, runR_t, runR_f])
        | (with_reducible refine condK_bl ?_ ?_)
        | (with_reducible refine condK_b (fun h => ?_) (fun h => ?_) <;> first | exact auH | skip)
        | fail)
      (all_goals first | exact auP | skip)
      refine retq_le (leG_freezeO hW 1 5 (by decide) (ys := [[.v (.int .i64 fr), .v (.int .i64 to), .v (.int .u32 ((seq + s) % 4294967296)), .v (.int .u32 ((ack + a) % 4294967296)), .v (.int .i64 flags), .v (.int .i64 win), .v (.int .i64 urg), .snap 2 ((l.map (movO a)).map Op2.enc) false, .v (.string (mkS data))]]) rfl rfl ⟨⟨rfl, rfl, rfl, rfl, rfl, rfl, rfl, Or.inl ⟨rfl, rfl, by simp, ?_⟩, rfl, rfl⟩, rfl⟩) ?_
      · rw [xall (by simp)]
      have hnf : nfLL Γ.g0 ((l.map (movO a)).map Op2.enc) := nfLL_map (fun x => by simp [nfL, nfD])
      all_goals refine auF ?_
      all_goals (try first | refine auR ?_ | exact auR0)
      all_goals (try simp only [hsM] at *)
end Go.Proofs.Ytegejpieedckiaa
