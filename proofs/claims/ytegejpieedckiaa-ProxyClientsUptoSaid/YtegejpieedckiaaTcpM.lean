/-
  Segments: Write, walked.
-/
import Derived.Test.YtegejpieedckiaaTcpU
namespace Go.Proofs.Ytegejpieedckiaa
set_option linter.unusedVariables false
set_option linter.unusedSimpArgs false
def sgA (g : Sg) (n : Int) : List UInt8 := wd g.fr ++ wd g.to ++ lg g.seq ++ lg g.ack ++ [u8 (4 * n), u8 g.flags] ++ wd g.win
def sgB (g : Sg) : List UInt8 := wd g.urg ++ padT (optsT g.opts) ++ g.data
def sgN (g : Sg) : Int := 20 + ((padT (optsT g.opts)).length : Int)
def argOk (g : Sg) : Prop := ((0 ≤ g.fr ∧ g.fr ≤ 65535) ∧ (0 ≤ g.to ∧ g.to ≤ 65535) ∧ (0 ≤ g.win ∧ g.win ≤ 65535) ∧ (0 ≤ g.urg ∧ g.urg ≤ 65535)) ∧ (0 ≤ g.flags ∧ g.flags ≤ 255)
instance (g : Sg) : Decidable (argOk g) := by unfold argOk; infer_instance
def sgC (g : Sg) (a b : Int) : Int := 65535 - foldI (wsum (und a b 6 (sgN g + (g.data.length : Int)) ++ sgA g (sgN g) ++ sgB g))
def sgW (g : Sg) (a b : Int) : List UInt8 × Int :=
  if ¬ argOk g then ([], 1) else if g.opts.all optB = false then ([], 4)
  else if 40 < (optsT g.opts).length ∨ 65455 < g.data.length then ([], 2)
  else (sgA g (sgN g) ++ wd (sgC g a b) ++ sgB g, 0)
theorem offs_no {g : Sg} (h : (0 ≤ g.fr ∧ g.fr ≤ 65535) ∧ (0 ≤ g.to ∧ g.to ≤ 65535) ∧ (0 ≤ g.win ∧ g.win ≤ 65535) ∧ (0 ≤ g.urg ∧ g.urg ≤ 65535)) : [g.fr, g.to, g.win, g.urg].any offW = false := by
  obtain ⟨h1, h2, h3, h4⟩ := h
  simp [offW]; omega
theorem offs_yes {g : Sg} (h : ¬ ((0 ≤ g.fr ∧ g.fr ≤ 65535) ∧ (0 ≤ g.to ∧ g.to ≤ 65535) ∧ (0 ≤ g.win ∧ g.win ≤ 65535) ∧ (0 ≤ g.urg ∧ g.urg ≤ 65535))) : [g.fr, g.to, g.win, g.urg].any offW = true := by
  refine Decidable.byContradiction fun q => h ?_
  simp [offW] at q
  omega
set_option maxHeartbeats 4000000 in
theorem swrite_spec (g : Sg) (a b : Int) (ha : 0 ≤ a ∧ a < 4294967296) (hb : 0 ≤ b ∧ b < 4294967296) (hq : 0 ≤ g.seq ∧ g.seq < 4294967296) (hk : 0 ≤ g.ack ∧ g.ack < 4294967296) (hl : 40 * g.opts.length ≤ 140737488355000) (hd : ∀ o ∈ g.opts, o.d.length ≤ 140737488351232) (hdd : g.data.length ≤ 140737488351232) : Spec Try.prog 40 [dG g, .v (.int .u32 a), .v (.int .u32 b)] (.tup [.v (.string (mkS (sgW g a b).1)), .v (.int .i64 (sgW g a b).2)]) := by
  have hw := words_spec g.fr g.to g.win g.urg
  have ho := options_spec g.opts hl hd
  by_cases hA : argOk g
  case neg =>
    have hr : sgW g a b = ([], 1) := if_pos hA
    rw [hr]
    by_cases hA1 : (0 ≤ g.fr ∧ g.fr ≤ 65535) ∧ (0 ≤ g.to ∧ g.to ≤ 65535) ∧ (0 ≤ g.win ∧ g.win ≤ 65535) ∧ (0 ≤ g.urg ∧ g.urg ≤ 65535)
    · rw [offs_no hA1] at hw
      have hA2 : ¬ (0 ≤ g.flags ∧ g.flags ≤ 255) := fun q => hA ⟨hA1, q⟩
      refine hspec_fn Try.func40 rfl ok_tcp_Write okr_tcp_Write rfl (by kernel_rfl) ?_
      intro Γ hW0 hN0 hL0
      have hW := hW0 rfl
      clear hW0 hN0 hL0
      unfold x_tcp_Write r_tcp_Write
      refine auC ?_
      repeat' (first
        | (refine auS ?_)
        | (first | (simp only [mkS_app, mkS_size, emR, ze1, Int.toNat_natCast]) | (simp only [e5]) | (simp only [e6]) | (simp only [e2, e3, e4, hst]) | (with_reducible refine runR_callS rfl (hw _ _) ?_) | (with_reducible refine runR_call ho ?_) | (with_reducible refine runR_call hu ?_) | (with_reducible refine runR_call hs ?_) | (with_reducible refine runR_call l1 ?_) | (with_reducible refine runR_call l2 ?_) | (with_reducible refine runR_call (tcpword_spec _) ?_))
        | (refine auD ?_)
        | (with_reducible refine runR_b (fun h => ?_) (fun h => ?_) <;> first | exact auH | simp only [h, runR_t, runR_f])
        | (with_reducible refine condK_bl ?_ ?_)
        | (with_reducible refine condK_b (fun h => ?_) (fun h => ?_) <;> first | exact auH | skip)
        | (refine runR_n (by simp only [mkS_app, mkS_size, List.length_append, und_len, lg_len, wd_len, List.length_cons, List.length_nil, List.length_replicate]; omega) ?_))
      (all_goals first | exact auP | skip)
      all_goals first
        | (exfalso; simp_all; done)
        | skip
      all_goals refine auF ?_
      all_goals (try first | refine auR ?_ | exact auR0)
      all_goals (try simp only [hsM] at *)
      all_goals rfl
    · rw [offs_yes hA1] at hw
      refine hspec_fn Try.func40 rfl ok_tcp_Write okr_tcp_Write rfl (by kernel_rfl) ?_
      intro Γ hW0 hN0 hL0
      have hW := hW0 rfl
      clear hW0 hN0 hL0
      unfold x_tcp_Write r_tcp_Write
      refine auC ?_
      repeat' (first
        | (refine auS ?_)
        | (first | (simp only [mkS_app, mkS_size, emR, ze1, Int.toNat_natCast]) | (simp only [e5]) | (simp only [e6]) | (simp only [e2, e3, e4, hst]) | (with_reducible refine runR_callS rfl (hw _ _) ?_) | (with_reducible refine runR_call ho ?_) | (with_reducible refine runR_call hu ?_) | (with_reducible refine runR_call hs ?_) | (with_reducible refine runR_call l1 ?_) | (with_reducible refine runR_call l2 ?_) | (with_reducible refine runR_call (tcpword_spec _) ?_))
        | (refine auD ?_)
        | (with_reducible refine runR_b (fun h => ?_) (fun h => ?_) <;> first | exact auH | simp only [h, runR_t, runR_f])
        | (with_reducible refine condK_bl ?_ ?_)
        | (with_reducible refine condK_b (fun h => ?_) (fun h => ?_) <;> first | exact auH | skip)
        | (refine runR_n (by simp only [mkS_app, mkS_size, List.length_append, und_len, lg_len, wd_len, List.length_cons, List.length_nil, List.length_replicate]; omega) ?_))
      (all_goals first | exact auP | skip)
      all_goals first
        | (exfalso; simp_all; done)
        | skip
      all_goals refine auF ?_
      all_goals (try first | refine auR ?_ | exact auR0)
      all_goals (try simp only [hsM] at *)
      all_goals rfl
  rw [offs_no hA.1] at hw
  have hA2 := hA.2
  cases hO : g.opts.all optB with
  | false =>
    have hr : sgW g a b = ([], 4) := by unfold sgW; rw [if_neg (not_not_intro hA), if_pos hO]
    have hoR : optsR g.opts = ([], false) := by unfold optsR; rw [hO]; rfl
    rw [hoR] at ho
    rw [hr]
    refine hspec_fn Try.func40 rfl ok_tcp_Write okr_tcp_Write rfl (by kernel_rfl) ?_
    intro Γ hW0 hN0 hL0
    have hW := hW0 rfl
    clear hW0 hN0 hL0
    unfold x_tcp_Write r_tcp_Write
    refine auC ?_
    repeat' (first
      | (refine auS ?_)
      | (first | (simp only [mkS_app, mkS_size, emR, ze1, Int.toNat_natCast]) | (simp only [e5]) | (simp only [e6]) | (simp only [e2, e3, e4, hst]) | (with_reducible refine runR_callS rfl (hw _ _) ?_) | (with_reducible refine runR_call ho ?_) | (with_reducible refine runR_call hu ?_) | (with_reducible refine runR_call hs ?_) | (with_reducible refine runR_call l1 ?_) | (with_reducible refine runR_call l2 ?_) | (with_reducible refine runR_call (tcpword_spec _) ?_))
      | (refine auD ?_)
      | (with_reducible refine runR_b (fun h => ?_) (fun h => ?_) <;> first | exact auH | simp only [h, runR_t, runR_f])
      | (with_reducible refine condK_bl ?_ ?_)
      | (with_reducible refine condK_b (fun h => ?_) (fun h => ?_) <;> first | exact auH | skip)
      | (refine runR_n (by simp only [mkS_app, mkS_size, List.length_append, und_len, lg_len, wd_len, List.length_cons, List.length_nil, List.length_replicate]; omega) ?_))
    (all_goals first | exact auP | skip)
    all_goals first
      | (exfalso; simp_all; done)
      | skip
    all_goals refine auF ?_
    all_goals (try first | refine auR ?_ | exact auR0)
    all_goals (try simp only [hsM] at *)
    all_goals rfl
  | true =>
    have hoR : optsR g.opts = (optsT g.opts, true) := if_pos hO
    rw [hoR] at ho
    by_cases hL : 40 < (optsT g.opts).length ∨ 65455 < g.data.length
    · have hr : sgW g a b = ([], 2) := by unfold sgW; rw [if_neg (not_not_intro hA), if_neg (by rw [hO]; simp), if_pos hL]
      rw [hr]
      generalize optsT g.opts = O at *
      by_cases hL1 : 40 < O.length
      · skip
        refine hspec_fn Try.func40 rfl ok_tcp_Write okr_tcp_Write rfl (by kernel_rfl) ?_
        intro Γ hW0 hN0 hL0
        have hW := hW0 rfl
        clear hW0 hN0 hL0
        unfold x_tcp_Write r_tcp_Write
        refine auC ?_
        repeat' (first
          | (refine auS ?_)
          | (first | (simp only [mkS_app, mkS_size, emR, ze1, Int.toNat_natCast]) | (simp only [e5]) | (simp only [e6]) | (simp only [e2, e3, e4, hst]) | (with_reducible refine runR_callS rfl (hw _ _) ?_) | (with_reducible refine runR_call ho ?_) | (with_reducible refine runR_call hu ?_) | (with_reducible refine runR_call hs ?_) | (with_reducible refine runR_call l1 ?_) | (with_reducible refine runR_call l2 ?_) | (with_reducible refine runR_call (tcpword_spec _) ?_))
          | (refine auD ?_)
          | (with_reducible refine runR_b (fun h => ?_) (fun h => ?_) <;> first | exact auH | simp only [h, runR_t, runR_f])
          | (with_reducible refine condK_bl ?_ ?_)
          | (with_reducible refine condK_b (fun h => ?_) (fun h => ?_) <;> first | exact auH | skip)
          | (refine runR_n (by simp only [mkS_app, mkS_size, List.length_append, und_len, lg_len, wd_len, List.length_cons, List.length_nil, List.length_replicate]; omega) ?_))
        (all_goals first | exact auP | skip)
        all_goals first
          | (exfalso; simp_all; done)
          | skip
        all_goals refine auF ?_
        all_goals (try first | refine auR ?_ | exact auR0)
        all_goals (try simp only [hsM] at *)
        all_goals rfl
      · have hL2 : 65455 < g.data.length := by omega
        refine hspec_fn Try.func40 rfl ok_tcp_Write okr_tcp_Write rfl (by kernel_rfl) ?_
        intro Γ hW0 hN0 hL0
        have hW := hW0 rfl
        clear hW0 hN0 hL0
        unfold x_tcp_Write r_tcp_Write
        refine auC ?_
        repeat' (first
          | (refine auS ?_)
          | (first | (simp only [mkS_app, mkS_size, emR, ze1, Int.toNat_natCast]) | (simp only [e5]) | (simp only [e6]) | (simp only [e2, e3, e4, hst]) | (with_reducible refine runR_callS rfl (hw _ _) ?_) | (with_reducible refine runR_call ho ?_) | (with_reducible refine runR_call hu ?_) | (with_reducible refine runR_call hs ?_) | (with_reducible refine runR_call l1 ?_) | (with_reducible refine runR_call l2 ?_) | (with_reducible refine runR_call (tcpword_spec _) ?_))
          | (refine auD ?_)
          | (with_reducible refine runR_b (fun h => ?_) (fun h => ?_) <;> first | exact auH | simp only [h, runR_t, runR_f])
          | (with_reducible refine condK_bl ?_ ?_)
          | (with_reducible refine condK_b (fun h => ?_) (fun h => ?_) <;> first | exact auH | skip)
          | (refine runR_n (by simp only [mkS_app, mkS_size, List.length_append, und_len, lg_len, wd_len, List.length_cons, List.length_nil, List.length_replicate]; omega) ?_))
        (all_goals first | exact auP | skip)
        all_goals first
          | (exfalso; simp_all; done)
          | skip
        all_goals refine auF ?_
        all_goals (try first | refine auR ?_ | exact auR0)
        all_goals (try simp only [hsM] at *)
        all_goals rfl
    · have hr : sgW g a b = (sgA g (sgN g) ++ wd (sgC g a b) ++ sgB g, 0) := by unfold sgW; rw [if_neg (not_not_intro hA), if_neg (by rw [hO]; simp), if_neg hL]
      rw [hr]
      have hL1 : ¬ 40 < (optsT g.opts).length := fun q => hL (.inl q)
      have hL2 : ¬ 65455 < g.data.length := fun q => hL (.inr q)
      have hpl := padT_len (optsT g.opts)
      have hp60 : (padT (optsT g.opts)).length ≤ 40 := by omega
      unfold sgC sgA sgB sgN
      have hu := under_spec a b 6 (20 + ((padT (optsT g.opts)).length : Int) + (g.data.length : Int)) ha hb
      have l1 := tcplong_spec g.seq hq.1 hq.2
      have l2 := tcplong_spec g.ack hk.1 hk.2
      refine hspec_fn Try.func40 rfl ok_tcp_Write okr_tcp_Write rfl (by kernel_rfl) ?_
      intro Γ hW0 hN0 hL0
      have hW := hW0 rfl
      clear hW0 hN0 hL0
      unfold x_tcp_Write r_tcp_Write
      refine auC ?_
      repeat' (first
        | (refine auS ?_)
        | (first | (simp only [mkS_app, mkS_size, emR, ze1, Int.toNat_natCast]) | (simp only [e5]) | (simp only [e6]) | (simp only [e2, e3, e4, hst]) | (with_reducible refine runR_callS rfl (hw _ _) ?_) | (with_reducible refine runR_call ho ?_) | (with_reducible refine runR_call hu ?_) | (with_reducible refine runR_call hs ?_) | (with_reducible refine runR_call l1 ?_) | (with_reducible refine runR_call l2 ?_) | (with_reducible refine runR_call (tcpword_spec _) ?_))
        | (refine auD ?_)
        | (with_reducible refine runR_b (fun h => ?_) (fun h => ?_) <;> first | exact auH | simp only [h, runR_t, runR_f])
        | (with_reducible refine condK_bl ?_ ?_)
        | (with_reducible refine condK_b (fun h => ?_) (fun h => ?_) <;> first | exact auH | skip)
        | (refine runR_n (by simp only [mkS_app, mkS_size, List.length_append, und_len, lg_len, wd_len, List.length_cons, List.length_nil, List.length_replicate]; omega) ?_))
      (all_goals first | exact auP | skip)
      all_goals first
        | (exfalso; simp_all; done)
        | skip
      have hpad : padT (optsT g.opts) = optsT g.opts ++ List.replicate ((4 - (optsT g.opts).length % 4) % 4) 0 := rfl
      generalize padT (optsT g.opts) = P at *
      generalize optsT g.opts = O at *
      refine go_loopH (α := Nat) (fun j => [(⟨.d0, .d1, .d0⟩, .v (.string (mkS (O ++ List.replicate j 0))))]) (fun _ => []) (fun _ => Γ.g0 + 2) (fun j => (4 - O.length % 4) % 4 - j) (fun j => j ≤ (4 - O.length % 4) % 4) 0 (Nat.zero_le _) ?_ ?_
      · skip
        refine le_mk ?_ ?_ (Nat.le_refl _)
        all_goals first | refine auE ?_ | exact auE0
        all_goals (repeat' (first | exact trivial | exact rfl | apply And.intro))
        all_goals (rw [List.replicate_zero, List.append_nil])
      intro j hj
      dsimp only at hj ⊢
      refine auL ?_
      have hlen : (O ++ List.replicate j (0 : UInt8)).length = O.length + j := by simp
      have e5 : (((O ++ List.replicate j (0 : UInt8)).length : Nat) : Int).tmod 4 = (((O.length + j) % 4 : Nat) : Int) := by rw [hlen]; exact (Int.ofNat_tmod _ 4).symm
      by_cases hlt : j < (4 - O.length % 4) % 4
      · have hne : ¬ (((O.length + j) % 4 : Nat) : Int) = 0 := by omega
        have hrep : O ++ List.replicate j (0 : UInt8) ++ [0] = O ++ List.replicate (j + 1) 0 := by rw [List.replicate_succ', List.append_assoc]
        repeat' (first
          | (refine auS ?_)
          | (first | (simp only [mkS_app, mkS_size, emR, ze1, Int.toNat_natCast]) | (simp only [e5]) | (simp only [e6]) | (simp only [e2, e3, e4, hst]) | (with_reducible refine runR_callS rfl (hw _ _) ?_) | (with_reducible refine runR_call ho ?_) | (with_reducible refine runR_call hu ?_) | (with_reducible refine runR_call hs ?_) | (with_reducible refine runR_call l1 ?_) | (with_reducible refine runR_call l2 ?_) | (with_reducible refine runR_call (tcpword_spec _) ?_))
          | (refine auD ?_)
          | (with_reducible refine runR_b (fun h => ?_) (fun h => ?_) <;> first | exact auH | simp only [h, runR_t, runR_f])
          | (with_reducible refine condK_bl ?_ ?_)
          | (with_reducible refine condK_b (fun h => ?_) (fun h => ?_) <;> first | exact auH | skip)
          | (refine runR_n (by simp only [mkS_app, mkS_size, List.length_append, und_len, lg_len, wd_len, List.length_cons, List.length_nil, List.length_replicate]; omega) ?_))
        (all_goals first | exact auP | skip)
        all_goals first
          | (exfalso; simp_all; done)
          | skip
        refine nx_loop ⟨j + 1, hlt, by omega, ?_⟩
        rw [← hrep]
        refine le_mk ?_ ?_ (Nat.le_refl _)
        all_goals first | refine auE ?_ | exact auE0
        all_goals (repeat' (first | exact trivial | exact rfl | apply And.intro))
      · obtain rfl : j = (4 - O.length % 4) % 4 := by omega
        have hz : (((O.length + (4 - O.length % 4) % 4) % 4 : Nat) : Int) = 0 := by omega
        rw [hz, ← hpad] at e5
        rw [← hpad]
        have e2 : IntKind.i64.wrap (20 + (P.length : Int)) = 20 + (P.length : Int) := IntWalk.i64_in _ (by omega)
        have e3 : IntKind.i64.wrap ((20 + (P.length : Int)) * 4) = 4 * (20 + (P.length : Int)) := by rw [IntWalk.i64_in _ (by omega)]; omega
        have e4 : IntKind.i64.wrap (20 + (P.length : Int) + (g.data.length : Int)) = 20 + (P.length : Int) + (g.data.length : Int) := IntWalk.i64_in _ (by omega)
        have hst : strOf [[.v (.int .u8 (IntKind.u8.wrap (4 * (20 + (P.length : Int)))))], [.v (.int .u8 (IntKind.u8.wrap g.flags))]] = mkS [u8 (4 * (20 + (P.length : Int))), u8 g.flags] := by rw [strOf2, u8_wrap, u8_wrap]
        have hs := of_spec (und a b 6 (20 + (P.length : Int) + (g.data.length : Int)) ++ (wd g.fr ++ wd g.to ++ lg g.seq ++ lg g.ack ++ [u8 (4 * (20 + (P.length : Int))), u8 g.flags] ++ wd g.win) ++ (wd g.urg ++ P ++ g.data)) (by simp only [List.length_append, und_len, lg_len, wd_len, List.length_cons, List.length_nil]; omega)
        have hbd := foldI_bd (wsum (und a b 6 (20 + (P.length : Int) + (g.data.length : Int)) ++ (wd g.fr ++ wd g.to ++ lg g.seq ++ lg g.ack ++ [u8 (4 * (20 + (P.length : Int))), u8 g.flags] ++ wd g.win) ++ (wd g.urg ++ P ++ g.data))) (wsum_bd _).1
        generalize foldI (wsum (und a b 6 (20 + (P.length : Int) + (g.data.length : Int)) ++ (wd g.fr ++ wd g.to ++ lg g.seq ++ lg g.ack ++ [u8 (4 * (20 + (P.length : Int))), u8 g.flags] ++ wd g.win) ++ (wd g.urg ++ P ++ g.data))) = ck at *
        have e6 : IntKind.i64.wrap (65535 - ck) = 65535 - ck := IntWalk.i64_in _ (by omega)
        repeat' (first
          | (refine auS ?_)
          | (first | (simp only [mkS_app, mkS_size, emR, ze1, Int.toNat_natCast]) | (simp only [e5]) | (simp only [e6]) | (simp only [e2, e3, e4, hst]) | (with_reducible refine runR_callS rfl (hw _ _) ?_) | (with_reducible refine runR_call ho ?_) | (with_reducible refine runR_call hu ?_) | (with_reducible refine runR_call hs ?_) | (with_reducible refine runR_call l1 ?_) | (with_reducible refine runR_call l2 ?_) | (with_reducible refine runR_call (tcpword_spec _) ?_))
          | (refine auD ?_)
          | (with_reducible refine runR_b (fun h => ?_) (fun h => ?_) <;> first | exact auH | simp only [h, runR_t, runR_f])
          | (with_reducible refine condK_bl ?_ ?_)
          | (with_reducible refine condK_b (fun h => ?_) (fun h => ?_) <;> first | exact auH | skip)
          | (refine runR_n (by simp only [mkS_app, mkS_size, List.length_append, und_len, lg_len, wd_len, List.length_cons, List.length_nil, List.length_replicate]; omega) ?_))
        (all_goals first | exact auP | skip)
        all_goals first
          | (exfalso; simp_all; done)
          | skip
        all_goals refine auF ?_
        all_goals (try first | refine auR ?_ | exact auR0)
        all_goals (try simp only [hsM] at *)
        all_goals rfl
end Go.Proofs.Ytegejpieedckiaa
