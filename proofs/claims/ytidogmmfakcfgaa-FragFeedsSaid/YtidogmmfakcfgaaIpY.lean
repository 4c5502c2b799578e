/-
  Packets: Write, in the program and in the reference.
-/
import Derived.Test.YtidogmmfakcfgaaIpX
namespace Go.Proofs.Ytidogmmfakcfgaa
set_option linter.unusedVariables false
set_option linter.unusedSimpArgs false
theorem emP : (ByteArray.mk #[] : ByteArray) = mkS [] := rfl
abbrev dSI (r : List UInt8 × Int) : DV := .tup [.v (.string (mkS r.1)), .v (.int .i64 r.2)]
def fl (p : Pk) : Int := (if p.wh then 16384 else p.start) + (if p.mo then 8192 else 0)
def hdA (p : Pk) (F : Int) : List UInt8 := [u8 (64 + (20 + (p.opt.length : Int)) / 4), u8 p.tos] ++ wd (20 + (p.opt.length : Int) + (p.data.length : Int)) ++ wd p.id ++ wd F ++ [u8 p.life, u8 p.proto]
def hdB (p : Pk) : List UInt8 := lg p.fr ++ lg p.to ++ p.opt
theorem hdA_len (p : Pk) (F : Int) : (hdA p F).length = 10 := rfl
theorem hdB_len (p : Pk) : (hdB p).length = 8 + p.opt.length := by unfold hdB; simp [lg_len]; omega
def pTxtF (p : Pk) (F : Int) : List UInt8 := hdA p F ++ wd (65535 - foldI (wsum (hdA p F ++ hdB p))) ++ hdB p ++ p.data
def pW (p : Pk) : List UInt8 × Int := if pErr p = 0 then (pTxtF p (fl p), 0) else ([], pErr p)
theorem pErr_ok {p : Pk} (h : pErr p = 0) : p.arg ∧ p.form ∧ p.data.length + p.opt.length ≤ 65515 := by
  unfold pErr at h
  split at h
  · cases h
  · rename_i h1
    split at h
    · cases h
    · rename_i h2
      split at h
      · cases h
      · rename_i h3
        exact ⟨Decidable.not_not.1 h1, Decidable.not_not.1 h2, by omega⟩
set_option maxHeartbeats 4000000 in
theorem ipwrite_spec (p : Pk) (ho : p.opt.length ≤ 140737488351232) (hd : p.data.length ≤ 140737488351232) (hfr : 0 ≤ p.fr ∧ p.fr < 4294967296) (hto : 0 ≤ p.to ∧ p.to < 4294967296) : Spec Try.prog 10 [dP p] (dSI (pW p)) := by
  have hr := refused_spec p ho hd
  by_cases he : pErr p = 0
  · obtain ⟨⟨-, -, -, -, hst, ho40, ho4⟩, hform, hsz⟩ := pErr_ok he
    unfold pW
    rw [if_pos he]
    rw [he] at hr
    have e1 : IntKind.i64.wrap (20 + (p.opt.length : Nat)) = 20 + (p.opt.length : Int) := IntWalk.i64_in _ (by omega)
    have e2 : bits .or .i64 64 (IntKind.i64.wrap ((20 + (p.opt.length : Int)).tdiv 4)) = 64 + (20 + (p.opt.length : Int)) / 4 := by
      rw [Int.tdiv_eq_ediv_of_nonneg (by omega), IntWalk.i64_in _ (by omega)]
      exact i64_or_add 6 64 _ (by decide) (by decide) (by decide) (by omega) (by omega) (by omega)
    have e3 : IntKind.i64.wrap (20 + (p.opt.length : Int) + (p.data.length : Nat)) = 20 + (p.opt.length : Int) + (p.data.length : Int) := IntWalk.i64_in _ (by omega)
    have hl1 := iplong_spec p.fr hfr.1 hfr.2
    have hl2 := iplong_spec p.to hto.1 hto.2
    have key : ∀ F : Int, Spec Try.prog 36 [.v (.string (mkS (hdA p F ++ hdB p)))] (.v (.int .u16 (65535 - foldI (wsum (hdA p F ++ hdB p))))) := fun F => of_spec _ (by unfold hdA hdB; simp only [List.length_append, List.length_cons, List.length_nil, lg_len, wd_len]; omega)
    have hb : ∀ F : Int, IntKind.i64.wrap (65535 - foldI (wsum (hdA p F ++ hdB p))) = 65535 - foldI (wsum (hdA p F ++ hdB p)) := fun F => by
      have := foldI_bd (wsum (hdA p F ++ hdB p)) (wsum_bd _).1
      exact IntWalk.i64_in _ (by omega)
    obtain ⟨tos, id, wh, mo, start, life, proto, fr, to, opt, data⟩ := p
    unfold pTxtF
    unfold hdA hdB at key hb ⊢
    dsimp only at *
    cases wh with
    | true =>
      obtain ⟨rfl, rfl⟩ := hform rfl
      have ef : bits .or .i64 0 16384 = 16384 := by decide
      have hfl : fl ⟨tos, id, true, false, 0, life, proto, fr, to, opt, data⟩ = 16384 := rfl
      rw [hfl]
      have hs := key 16384
      have e4 := hb 16384
      refine hspec_fn Try.func10 rfl ok_ip_Write okr_ip_Write rfl (by kernel_rfl) ?_
      intro Γ hW0 hN0 hL0
      have hW := hW0 rfl
      clear hW0 hN0 hL0
      unfold x_ip_Write r_ip_Write
      with_reducible refine auC ?_
      repeat' (first
        | (with_reducible refine auS ?_)
        | (first | (simp only [mkS_app, mkS_size]) | (simp only [e1, e2, e3]) | (simp only [ef]) | (simp only [strU2]) | (simp only [e4]) | (with_reducible refine runR_call hr ?_) | (with_reducible refine runR_call (ipword_spec _) ?_) | (with_reducible refine runR_call hl1 ?_) | (with_reducible refine runR_call hl2 ?_) | (with_reducible refine runR_call hs ?_))
        | (with_reducible refine auD ?_)
        | ((with_reducible refine auB ?_ ?_); all_goals first | ((with_reducible intro h); first | exact auH | simp only [h, runR_t, runR_f] | skip) | skip)
        | (refine runR_n (by simp only [mkS_app, mkS_size, List.length_append, List.length_cons, List.length_nil, und_len, lg_len, wd_len, hdA_len, hdB_len, List.length_take, List.length_drop]; omega) ?_))
      (all_goals first | exact auP | skip)
      all_goals with_reducible refine auF ?_
      all_goals (try first | with_reducible refine auR ?_ | exact auR0)
      all_goals (try simp only [hsM] at *)
      all_goals rfl
    | false =>
      cases mo with
      | true =>
        have ef : bits .or .i64 start 8192 = start + 8192 := by
          rw [bits_or_comm, i64_or_add 13 8192 start (by decide) (by decide) (by decide) (by omega) (by omega) (by omega)]; omega
        have hfl : fl ⟨tos, id, false, true, start, life, proto, fr, to, opt, data⟩ = start + 8192 := rfl
        rw [hfl]
        have hs := key (start + 8192)
        have e4 := hb (start + 8192)
        refine hspec_fn Try.func10 rfl ok_ip_Write okr_ip_Write rfl (by kernel_rfl) ?_
        intro Γ hW0 hN0 hL0
        have hW := hW0 rfl
        clear hW0 hN0 hL0
        unfold x_ip_Write r_ip_Write
        with_reducible refine auC ?_
        repeat' (first
          | (with_reducible refine auS ?_)
          | (first | (simp only [mkS_app, mkS_size]) | (simp only [e1, e2, e3]) | (simp only [ef]) | (simp only [strU2]) | (simp only [e4]) | (with_reducible refine runR_call hr ?_) | (with_reducible refine runR_call (ipword_spec _) ?_) | (with_reducible refine runR_call hl1 ?_) | (with_reducible refine runR_call hl2 ?_) | (with_reducible refine runR_call hs ?_))
          | (with_reducible refine auD ?_)
          | ((with_reducible refine auB ?_ ?_); all_goals first | ((with_reducible intro h); first | exact auH | simp only [h, runR_t, runR_f] | skip) | skip)
          | (refine runR_n (by simp only [mkS_app, mkS_size, List.length_append, List.length_cons, List.length_nil, und_len, lg_len, wd_len, hdA_len, hdB_len, List.length_take, List.length_drop]; omega) ?_))
        (all_goals first | exact auP | skip)
        all_goals with_reducible refine auF ?_
        all_goals (try first | with_reducible refine auR ?_ | exact auR0)
        all_goals (try simp only [hsM] at *)
        all_goals rfl
      | false =>
        have ef : (0 : Nat) = 0 := rfl
        have hfl : fl ⟨tos, id, false, false, start, life, proto, fr, to, opt, data⟩ = start := Int.add_zero _
        rw [hfl]
        have hs := key start
        have e4 := hb start
        refine hspec_fn Try.func10 rfl ok_ip_Write okr_ip_Write rfl (by kernel_rfl) ?_
        intro Γ hW0 hN0 hL0
        have hW := hW0 rfl
        clear hW0 hN0 hL0
        unfold x_ip_Write r_ip_Write
        with_reducible refine auC ?_
        repeat' (first
          | (with_reducible refine auS ?_)
          | (first | (simp only [mkS_app, mkS_size]) | (simp only [e1, e2, e3]) | (simp only [ef]) | (simp only [strU2]) | (simp only [e4]) | (with_reducible refine runR_call hr ?_) | (with_reducible refine runR_call (ipword_spec _) ?_) | (with_reducible refine runR_call hl1 ?_) | (with_reducible refine runR_call hl2 ?_) | (with_reducible refine runR_call hs ?_))
          | (with_reducible refine auD ?_)
          | ((with_reducible refine auB ?_ ?_); all_goals first | ((with_reducible intro h); first | exact auH | simp only [h, runR_t, runR_f] | skip) | skip)
          | (refine runR_n (by simp only [mkS_app, mkS_size, List.length_append, List.length_cons, List.length_nil, und_len, lg_len, wd_len, hdA_len, hdB_len, List.length_take, List.length_drop]; omega) ?_))
        (all_goals first | exact auP | skip)
        all_goals with_reducible refine auF ?_
        all_goals (try first | with_reducible refine auR ?_ | exact auR0)
        all_goals (try simp only [hsM] at *)
        all_goals rfl
  · unfold pW
    rw [if_neg he]
    refine hspec_fn Try.func10 rfl ok_ip_Write okr_ip_Write rfl (by kernel_rfl) ?_
    intro Γ hW0 hN0 hL0
    have hW := hW0 rfl
    clear hW0 hN0 hL0
    unfold x_ip_Write r_ip_Write
    with_reducible refine auC ?_
    repeat' (first
      | (with_reducible refine auS ?_)
      | (first | (simp only [mkS_app, mkS_size]) | (simp only [e1, e2, e3]) | (simp only [ef]) | (simp only [strU2]) | (simp only [e4]) | (with_reducible refine runR_call hr ?_) | (with_reducible refine runR_call (ipword_spec _) ?_) | (with_reducible refine runR_call hl1 ?_) | (with_reducible refine runR_call hl2 ?_) | (with_reducible refine runR_call hs ?_))
      | (with_reducible refine auD ?_)
      | ((with_reducible refine auB ?_ ?_); all_goals first | ((with_reducible intro h); first | exact auH | simp only [h, runR_t, runR_f] | skip) | skip)
      | (refine runR_n (by simp only [mkS_app, mkS_size, List.length_append, List.length_cons, List.length_nil, und_len, lg_len, wd_len, hdA_len, hdB_len, List.length_take, List.length_drop]; omega) ?_))
    (all_goals first | exact auP | skip)
    all_goals with_reducible refine auF ?_
    all_goals (try first | with_reducible refine auR ?_ | exact auR0)
    all_goals (try simp only [hsM] at *)
    all_goals rfl
end Go.Proofs.Ytidogmmfakcfgaa
