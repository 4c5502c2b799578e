/-
  Packets: the reference's text of one that may be.
-/
import Derived.Test.YtidogmmfakcfgaaIpY
namespace Go.Proofs.Ytidogmmfakcfgaa
set_option linter.unusedVariables false
set_option linter.unusedSimpArgs false
theorem wsum_head (p : Pk) (F : Int) : wsum (hdA p F ++ ([u8 0, u8 0] ++ hdB p)) = wsum (hdA p F ++ hdB p) := by
  have h1 : (hdA p F).length % 2 = 0 := by simp [hdA, wd_len]
  rw [wsum_app_even _ _ h1, wsum_app_even _ _ h1]
  have h2 : wsum ([u8 0, u8 0] ++ hdB p) = wsum (hdB p) := by
    rw [wsum_app_even _ _ rfl]
    have : wsum [u8 0, u8 0] = 0 := by decide
    omega
  rw [h2]
set_option maxHeartbeats 8000000 in
theorem packetText_ok (p : Pk) (he : pErr p = 0) (ho : p.opt.length ≤ 140737488351232) (hd : p.data.length ≤ 140737488351232) (hfr : 0 ≤ p.fr ∧ p.fr < 4294967296) (hto : 0 ≤ p.to ∧ p.to < 4294967296) : Spec Try.prog 18 [dP p] (dSI (pW p)) := by
  have e1 : IntKind.i64.wrap (20 + (p.opt.length : Nat)) = 20 + (p.opt.length : Int) := IntWalk.i64_in _ (by omega)
  have e3 : IntKind.i64.wrap (20 + (p.opt.length : Int) + (p.data.length : Nat)) = 20 + (p.opt.length : Int) + (p.data.length : Int) := IntWalk.i64_in _ (by omega)
  obtain ⟨⟨h1, h2, h3, h4, hst, ho40, ho4⟩, hform, hsz⟩ := pErr_ok he
  unfold pW
  rw [if_pos he]
  have e2 : IntKind.i64.wrap (69 + IntKind.i64.wrap (((p.opt.length : Nat) : Int).tdiv 4)) = 64 + (20 + (p.opt.length : Int)) / 4 := by
    rw [Int.tdiv_eq_ediv_of_nonneg (by omega), IntWalk.i64_in (_ / _) (by omega), IntWalk.i64_in _ (by omega)]
    omega
  have hl1 := long_spec p.fr hfr.1 hfr.2
  have hl2 := long_spec p.to hto.1 hto.2
  have key : ∀ F : Int, Spec Try.prog 46 [.v (.string (mkS (hdA p F ++ ([u8 0, u8 0] ++ hdB p))))] (.v (.int .i64 (65535 - foldI (wsum (hdA p F ++ hdB p))))) := fun F => by
    have := check_spec (hdA p F ++ ([u8 0, u8 0] ++ hdB p)) (by unfold hdA hdB; simp only [List.length_append, List.length_cons, List.length_nil, lg_len, wd_len]; omega)
    rw [wsum_head] at this
    exact this
  have hbd : ∀ F : Int, 0 ≤ 65535 - foldI (wsum (hdA p F ++ hdB p)) := fun F => by
    have := foldI_bd (wsum (hdA p F ++ hdB p)) (wsum_bd _).1
    omega
  have ex1 : ∀ F : Int, (mkS (hdA p F ++ ([u8 0, u8 0] ++ hdB p))).extract 0 10 = mkS (hdA p F) := fun F => by
    rw [mkS_ext]; exact congrArg mkS (List.take_left' rfl)
  have ex2 : ∀ F : Int, (mkS (hdA p F ++ ([u8 0, u8 0] ++ hdB p))).extract 12 (hdA p F ++ ([u8 0, u8 0] ++ hdB p)).length = mkS (hdB p) := fun F => by
    rw [mkS_ext, List.take_of_length_le (by rw [List.length_drop]; omega), ← List.append_assoc]; exact congrArg mkS (List.drop_left' rfl)
  obtain ⟨tos, id, wh, mo, start, life, proto, fr, to, opt, data⟩ := p
  have hH : ∀ F : Int, hdA ⟨tos, id, wh, mo, start, life, proto, fr, to, opt, data⟩ F ++ ([u8 0, u8 0] ++ hdB ⟨tos, id, wh, mo, start, life, proto, fr, to, opt, data⟩) = [u8 (64 + (20 + (opt.length : Int)) / 4), u8 tos] ++ wd (20 + (opt.length : Int) + (data.length : Int)) ++ wd id ++ wd F ++ [u8 life, u8 proto, u8 0, u8 0] ++ lg fr ++ lg to ++ opt := fun F => by
    unfold hdA hdB; simp
  simp only [hH] at key ex1 ex2
  unfold pTxtF
  dsimp only at h1 h2 h3 h4 hst ho40 ho4 hform hsz e1 e2 e3 ho hd hfr hto hl1 hl2
  cases wh with
  | true =>
    obtain ⟨rfl, rfl⟩ := hform rfl
    have hfl : fl ⟨tos, id, true, false, 0, life, proto, fr, to, opt, data⟩ = 16384 := rfl
    rw [hfl]
    have hs := key 16384
    have x1 := ex1 16384
    have x2 := ex2 16384
    have hnn := hbd 16384
    generalize 65535 - foldI (wsum (hdA ⟨tos, id, true, false, 0, life, proto, fr, to, opt, data⟩ 16384 ++ hdB ⟨tos, id, true, false, 0, life, proto, fr, to, opt, data⟩)) = c at hs hnn ⊢
    clear key ex1 ex2 hbd hH
    refine hspec_fn Try.func18 rfl ok_custref_PacketText okr_custref_PacketText rfl (by kernel_rfl) ?_
    intro Γ hW0 hN0 hL0
    have hW := hW0 rfl
    clear hW0 hN0 hL0
    unfold x_custref_PacketText r_custref_PacketText
    with_reducible refine auC ?_
    repeat' (first
      | (with_reducible refine auS ?_)
      | (first | (simp only [mkS_app, mkS_size, tmod4, Int.toNat_natCast]) | (simp only [e1]) | (simp only [e2]) | (simp only [e3]) | (simp only [ef]) | (simp only [x1]) | (simp only [x2]) | (with_reducible refine runR_call (between_spec _ _ _) ?_) | (with_reducible refine runR_call (word_spec _ (by omega)) ?_) | (with_reducible refine runR_call hl1 ?_) | (with_reducible refine runR_call hl2 ?_) | (with_reducible refine runR_call hs ?_) | (with_reducible refine runR_callS rfl (bytes2 _ _ _ _ _) ?_) | (with_reducible refine runR_callS rfl (bytes4 _ _ _ _ _ _ _) ?_))
      | (with_reducible refine auD ?_)
      | ((with_reducible refine auB ?_ ?_); all_goals first | ((with_reducible intro h); first | exact auH | simp only [h, runR_t, runR_f] | skip) | skip)
      | (refine runR_n (by simp only [mkS_app, mkS_size, List.length_append, List.length_cons, List.length_nil, und_len, lg_len, wd_len, hdA_len, hdB_len, List.length_take, List.length_drop]; omega) ?_))
    (all_goals first | exact auP | skip)
    all_goals with_reducible refine auF ?_
    all_goals (try first | with_reducible refine auR ?_ | exact auR0)
    all_goals (try simp only [hsM] at *)
    all_goals rfl
  | false =>
    cases mo with
    | true =>
      have ef : IntKind.i64.wrap (start + 8192) = start + 8192 := IntWalk.i64_in _ (by omega)
      have hfl : fl ⟨tos, id, false, true, start, life, proto, fr, to, opt, data⟩ = start + 8192 := rfl
      rw [hfl]
      have hs := key (start + 8192)
      have x1 := ex1 (start + 8192)
      have x2 := ex2 (start + 8192)
      have hnn := hbd (start + 8192)
      generalize 65535 - foldI (wsum (hdA ⟨tos, id, false, true, start, life, proto, fr, to, opt, data⟩ (start + 8192) ++ hdB ⟨tos, id, false, true, start, life, proto, fr, to, opt, data⟩)) = c at hs hnn ⊢
      clear key ex1 ex2 hbd hH
      refine hspec_fn Try.func18 rfl ok_custref_PacketText okr_custref_PacketText rfl (by kernel_rfl) ?_
      intro Γ hW0 hN0 hL0
      have hW := hW0 rfl
      clear hW0 hN0 hL0
      unfold x_custref_PacketText r_custref_PacketText
      with_reducible refine auC ?_
      repeat' (first
        | (with_reducible refine auS ?_)
        | (first | (simp only [mkS_app, mkS_size, tmod4, Int.toNat_natCast]) | (simp only [e1]) | (simp only [e2]) | (simp only [e3]) | (simp only [ef]) | (simp only [x1]) | (simp only [x2]) | (with_reducible refine runR_call (between_spec _ _ _) ?_) | (with_reducible refine runR_call (word_spec _ (by omega)) ?_) | (with_reducible refine runR_call hl1 ?_) | (with_reducible refine runR_call hl2 ?_) | (with_reducible refine runR_call hs ?_) | (with_reducible refine runR_callS rfl (bytes2 _ _ _ _ _) ?_) | (with_reducible refine runR_callS rfl (bytes4 _ _ _ _ _ _ _) ?_))
        | (with_reducible refine auD ?_)
        | ((with_reducible refine auB ?_ ?_); all_goals first | ((with_reducible intro h); first | exact auH | simp only [h, runR_t, runR_f] | skip) | skip)
        | (refine runR_n (by simp only [mkS_app, mkS_size, List.length_append, List.length_cons, List.length_nil, und_len, lg_len, wd_len, hdA_len, hdB_len, List.length_take, List.length_drop]; omega) ?_))
      (all_goals first | exact auP | skip)
      all_goals with_reducible refine auF ?_
      all_goals (try first | with_reducible refine auR ?_ | exact auR0)
      all_goals (try simp only [hsM] at *)
      all_goals rfl
    | false =>
      have hfl : fl ⟨tos, id, false, false, start, life, proto, fr, to, opt, data⟩ = start := Int.add_zero _
      rw [hfl]
      have hs := key start
      have x1 := ex1 start
      have x2 := ex2 start
      have hnn := hbd start
      generalize 65535 - foldI (wsum (hdA ⟨tos, id, false, false, start, life, proto, fr, to, opt, data⟩ start ++ hdB ⟨tos, id, false, false, start, life, proto, fr, to, opt, data⟩)) = c at hs hnn ⊢
      clear key ex1 ex2 hbd hH
      refine hspec_fn Try.func18 rfl ok_custref_PacketText okr_custref_PacketText rfl (by kernel_rfl) ?_
      intro Γ hW0 hN0 hL0
      have hW := hW0 rfl
      clear hW0 hN0 hL0
      unfold x_custref_PacketText r_custref_PacketText
      with_reducible refine auC ?_
      repeat' (first
        | (with_reducible refine auS ?_)
        | (first | (simp only [mkS_app, mkS_size, tmod4, Int.toNat_natCast]) | (simp only [e1]) | (simp only [e2]) | (simp only [e3]) | (simp only [ef]) | (simp only [x1]) | (simp only [x2]) | (with_reducible refine runR_call (between_spec _ _ _) ?_) | (with_reducible refine runR_call (word_spec _ (by omega)) ?_) | (with_reducible refine runR_call hl1 ?_) | (with_reducible refine runR_call hl2 ?_) | (with_reducible refine runR_call hs ?_) | (with_reducible refine runR_callS rfl (bytes2 _ _ _ _ _) ?_) | (with_reducible refine runR_callS rfl (bytes4 _ _ _ _ _ _ _) ?_))
        | (with_reducible refine auD ?_)
        | ((with_reducible refine auB ?_ ?_); all_goals first | ((with_reducible intro h); first | exact auH | simp only [h, runR_t, runR_f] | skip) | skip)
        | (refine runR_n (by simp only [mkS_app, mkS_size, List.length_append, List.length_cons, List.length_nil, und_len, lg_len, wd_len, hdA_len, hdB_len, List.length_take, List.length_drop]; omega) ?_))
      (all_goals first | exact auP | skip)
      all_goals with_reducible refine auF ?_
      all_goals (try first | with_reducible refine auR ?_ | exact auR0)
      all_goals (try simp only [hsM] at *)
      all_goals rfl
end Go.Proofs.Ytidogmmfakcfgaa
