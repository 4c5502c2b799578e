/-
  Words of a packet that is written in: word, put, change; Fix.
-/
import Derived.Test.YthdghenfidkdcaaSwapP
import Derived.Test.YthdghenfidkdcaaRw8
namespace Go.Proofs.Ythdghenfidkdcaa
set_option linter.unusedVariables false
set_option linter.unusedSimpArgs false
theorem xget_rw8 (t : List UInt8) (i : Nat) (h : i < t.length) : xget (rw8 t) i = [.v (.int .u8 (bN t i : Nat))] := by
  obtain ⟨b, hb⟩ : ∃ b, t[i]? = some b := ⟨_, List.getElem?_eq_getElem h⟩
  rw [bN_some hb]
  exact xget_map (fun b : UInt8 => [.v (.int .u8 (b.toNat : Int))]) t i b hb
theorem xset_rw8 (t : List UInt8) (i : Nat) (a : Int) : xset (rw8 t) i [.v (.int .u8 (IntKind.u8.wrap a))] = rw8 (t.set i (u8 a)) := by
  rw [u8_w]
  exact xset_map (fun b : UInt8 => [DV.v (.int .u8 (b.toNat : Int))]) t i (u8 a)
theorem u16_keep (n : Int) (h0 : 0 ≤ n) (h1 : n < 2 ^ 16) : IntKind.u16.wrap n = n := IntWalk.u16_in _ (by omega)
theorem word_u16 (a b : Nat) (ha : a < 256) (hb : b < 256) : bits .or .u16 (IntKind.u16.wrap ((a : Int) * 2 ^ 8)) (b : Nat) = 256 * (a : Int) + (b : Nat) := by
  rw [u16_keep _ (by omega) (by omega), bits_join .u16 16 (by decide) u16_keep 8 _ _ (by omega) (by omega) (by omega) (by omega) (by omega) (by omega)]
  omega
theorem fix_spec (c o n : Int) (hc : 0 ≤ c ∧ c ≤ 65535) (ho : 0 ≤ o ∧ o ≤ 65535) (hn : 0 ≤ n ∧ n ≤ 65535) : Spec Try.prog 46 [.v (.int .u16 c), .v (.int .u16 o), .v (.int .u16 n)] (.v (.int .u16 (fixW c o n))) := by
  have sg : IntKind.u16.signed = false := rfl
  have h1 := xor_max_u16 c hc.1 hc.2
  have h2 := xor_max_u16 o ho.1 ho.2
  have e1 : IntKind.u64.wrap (65535 - c) = 65535 - c := u64_keep _ (by omega) (by omega)
  have e2 : IntKind.u64.wrap (65535 - o) = 65535 - o := u64_keep _ (by omega) (by omega)
  have e3 : IntKind.u64.wrap n = n := u64_keep _ (by omega) (by omega)
  have e4 : IntKind.u64.wrap (65535 - c + (65535 - o)) = 65535 - c + (65535 - o) := u64_keep _ (by omega) (by omega)
  have e5 : IntKind.u64.wrap (65535 - c + (65535 - o) + n) = 65535 - c + (65535 - o) + n := u64_keep _ (by omega) (by omega)
  have hf := fold_spec (65535 - c + (65535 - o) + n) (by omega) (by omega)
  have hb := foldI_bd (65535 - c + (65535 - o) + n) (by omega)
  have hx := xor_max_u16 _ hb.1 hb.2
  refine hspec_fn Try.func46 rfl ok_sum_Fix okr_sum_Fix rfl (by kernel_rfl) ?_
  intro Γ hW0 hN0 hL0
  have hW := hW0 rfl
  clear hW0 hN0 hL0
  unfold x_sum_Fix r_sum_Fix
  repeat' (first
    | (with_reducible first | refine go_seq ?_ | refine go_region ?_ | refine go_regionD mixed_ok ?_ | refine go_cond ?_ | refine go_skip ?_ | refine go_block ?_ | refine nx_code ?_ | refine nx_block ?_ | refine go_ret ?_ | refine nx_nil ?_ | refine go_exit ?_ | refine ex_code ?_ | refine ex_loop ?_ | refine ex_here ?_)
    | ((with_reducible refine ex_past ?_ ?_); (exact by decide))
    | ((with_reducible refine endD_intro ?_ ?_); (exact by kernel_rfl))
    | ((with_reducible refine runR_n ?_ ?_); exact auN)
    | (first | (simp only [sg]) | (simp only [h1]) | (simp only [h2]) | (simp only [e1]) | (simp only [e2]) | (simp only [e3, e4, e5]) | (with_reducible refine runR_call hf ?_))
    | (refine auD ?_)
    | (with_reducible refine runR_b (fun h => ?_) (fun h => ?_) <;> first | exact auH | simp only [h, runR_t, runR_f])
    | (with_reducible refine condK_bl ?_ ?_)
    | (with_reducible refine condK_b (fun h => ?_) (fun h => ?_) <;> first | exact auH | skip)
    | fail)
  (all_goals first | exact auP | skip)
  all_goals with_reducible refine ret_spec2 (by (try dsimp only [RetOK, resOk, resDs, resD, resV, cellV, cellO, cellP, cellOk, htake, nfD, nfL, nfLL, nfH, lget, partOf, xget, ddrop, dtake, dget, Env.get, N8.get, env0, List.length_cons, List.length_nil, Env.set, N8.set, lset, updL]); (repeat' (first | exact trivial | exact rfl | exact nfLL_map (fun x => by simp [nfL, nfD, nfD]) | decide | apply And.intro))) ?_
  all_goals (try dsimp only [RetOK, resOk, resDs, resD, resV, cellV, cellO, cellP, cellOk, htake, nfD, nfL, nfLL, nfH, lget, partOf, xget, ddrop, dtake, dget, Env.get, N8.get, env0, List.length_cons, List.length_nil, Env.set, N8.set, lset, updL])
  all_goals (try simp only [hsM] at *)
  all_goals exact dint hx
theorem pword0 (t : List UInt8) (i len : Nat) (fu : Bool) (n : Nat) (hi : i + 1 < len) (hl : len ≤ t.length) (hm : len ≤ 140737488351232) : HSpec Try.prog 35 [.sl 0 n 1 0 len fu, .v (.int .i64 (i : Nat))] [some ⟨n, 1, rw8 t⟩] (fun d H => d = .v (.int .u16 (wordAtI t i)) ∧ H = [some ⟨n, 1, rw8 t⟩]) := by
  have e0 := xget_rw8 t i (by omega)
  have e1 := xget_rw8 t (i + 1) (by omega)
  have b0 := bN_lt t i
  have b1 := bN_lt t (i + 1)
  have c0 : IntKind.u16.wrap (bN t i : Nat) = (bN t i : Nat) := u16_keep _ (by omega) (by omega)
  have c1 : IntKind.u16.wrap (bN t (i + 1) : Nat) = (bN t (i + 1) : Nat) := u16_keep _ (by omega) (by omega)
  have m8 : min 8 IntKind.u16.bits = 8 := rfl
  have hor := word_u16 (bN t i) (bN t (i + 1)) b0 b1
  have hlen := rw8_len t
  have ei : IntKind.i64.wrap ((i : Int) + 1) = ((i + 1 : Nat) : Int) := by rw [IntWalk.i64_in _ (by omega)]; omega
  refine hspec_fn Try.func35 rfl ok_swap_packet_word okr_swap_packet_word rfl (by kernel_rfl) ?_
  intro Γ hW0 hN0 hL0
  clear hW0
  unfold x_swap_packet_word r_swap_packet_word
  have hn : n < Γ.g0 := hN0 0 _ rfl
  repeat' (first
    | (with_reducible first | refine go_seq ?_ | refine go_region ?_ | refine go_regionD mixed_ok ?_ | refine go_cond ?_ | refine go_skip ?_ | refine go_block ?_ | refine nx_code ?_ | refine nx_block ?_ | refine go_ret ?_ | refine nx_nil ?_ | refine go_exit ?_ | refine ex_code ?_ | refine ex_loop ?_ | refine ex_here ?_)
    | ((with_reducible refine ex_past ?_ ?_); (exact by decide))
    | ((with_reducible refine endD_intro ?_ ?_); (exact by kernel_rfl))
    | ((with_reducible refine runR_n ?_ ?_); exact auN)
    | (first | (simp only [ei, Int.toNat_natCast, Nat.zero_add, e0, e1]) | (simp only [m8, c0, c1]) | (simp only [hor]))
    | (refine auD ?_)
    | (with_reducible refine runR_b (fun h => ?_) (fun h => ?_) <;> first | exact auH | simp only [h, runR_t, runR_f])
    | (with_reducible refine condK_bl ?_ ?_)
    | (with_reducible refine condK_b (fun h => ?_) (fun h => ?_) <;> first | exact auH | skip)
    | fail)
  (all_goals first | exact auP | skip)
  refine ret_h1 trivial trivial ?_ rfl hn (nfLL_map (fun x => by simp [nfL, nfD])) rfl
  rfl
theorem pput0 (t : List UInt8) (i len : Nat) (fu : Bool) (n : Nat) (w : Int) (hi : i + 1 < len) (hl : len ≤ t.length) (hm : len ≤ 140737488351232) : HSpec Try.prog 37 [.sl 0 n 1 0 len fu, .v (.int .i64 (i : Nat)), .v (.int .u16 w)] [some ⟨n, 1, rw8 t⟩] (fun d H => d = .tup [] ∧ H = [some ⟨n, 1, rw8 (putW t i w)⟩]) := by
  have e0 := xget_rw8 t i (by omega)
  have e1 := xget_rw8 (t.set i (u8 (w / 256))) (i + 1) (by simp; omega)
  have s0 := xset_rw8 t i (w / 256)
  have s1 := xset_rw8 (t.set i (u8 (w / 256))) (i + 1) w
  have m8 : min 8 IntKind.u16.bits = 8 := rfl
  have hlen := rw8_len t
  have hlen1 := (rw8_len (t.set i (u8 (w / 256)))).trans (List.length_set ..)
  have f8 : w.fdiv (2 ^ 8) = w / 256 := Int.fdiv_eq_ediv_of_nonneg _ (by decide)
  have ei : IntKind.i64.wrap ((i : Int) + 1) = ((i + 1 : Nat) : Int) := by rw [IntWalk.i64_in _ (by omega)]; omega
  have sp : ∀ (a b : DV), splice [a] 0 [b] = [b] := fun _ _ => rfl
  refine hspec_fn Try.func37 rfl ok_swap_packet_put okr_swap_packet_put rfl (by kernel_rfl) ?_
  intro Γ hW0 hN0 hL0
  clear hW0
  unfold x_swap_packet_put r_swap_packet_put
  have hn : n < Γ.g0 := hN0 0 _ rfl
  repeat' (first
    | (with_reducible first | refine go_seq ?_ | refine go_region ?_ | refine go_regionD mixed_ok ?_ | refine go_cond ?_ | refine go_skip ?_ | refine go_block ?_ | refine nx_code ?_ | refine nx_block ?_ | refine go_ret ?_ | refine nx_nil ?_ | refine go_exit ?_ | refine ex_code ?_ | refine ex_loop ?_ | refine ex_here ?_)
    | ((with_reducible refine ex_past ?_ ?_); (exact by decide))
    | ((with_reducible refine endD_intro ?_ ?_); (exact by kernel_rfl))
    | ((with_reducible refine runR_n ?_ ?_); exact auN)
    | (first | (simp only [ei, Int.toNat_natCast, Nat.zero_add, e0]) | (simp only [m8, f8]) | (simp only [s0]) | (simp only [e1]) | (simp only [sp]) | (simp only [s1]))
    | (refine auD ?_)
    | (with_reducible refine runR_b (fun h => ?_) (fun h => ?_) <;> first | exact auH | simp only [h, runR_t, runR_f])
    | (with_reducible refine condK_bl ?_ ?_)
    | (with_reducible refine condK_b (fun h => ?_) (fun h => ?_) <;> first | exact auH | skip)
    | (refine runR_n ⟨by rw [hlen1]; omega, by trivial, by trivial⟩ ?_))
  (all_goals first | exact auP | skip)
  refine ret_h1 trivial trivial ?_ rfl hn (nfLL_map (fun x => by simp [nfL, nfD])) rfl
  rfl
abbrev encN (c : Nat) : List DV := [.v (.int .i64 (c : Nat))]
theorem fold_snoc {α β : Type} (f : β → α → β) (a : α) (b : β) (l : List α) (k : Nat) (h : l[k]? = some a) : (l.take (k + 1)).foldl f b = f ((l.take k).foldl f b) a := by
  rw [List.take_add_one, h, List.foldl_append]; rfl
set_option maxHeartbeats 2000000 in
theorem pchg0 (t : List UInt8) (i len : Nat) (fu : Bool) (n : Nat) (w : Int) (cs : List Nat) (cl : Bool) (hi : i + 1 < len) (hl : len ≤ t.length) (hm : len ≤ 140737488351232) (hw : 0 ≤ w ∧ w ≤ 65535) (hcs : ∀ c ∈ cs, c + 1 < len) (hcl : cs.length ≤ 1000) : HSpec Try.prog 36 [.sl 0 n 1 0 len fu, .v (.int .i64 (i : Nat)), .v (.int .u16 w), .snap 1 (cs.map encN) cl] [some ⟨n, 1, rw8 t⟩] (fun d H => d = .tup [] ∧ H = [some ⟨n, 1, rw8 (chg t i w cs)⟩]) := by
  have hp := pword0 t i len fu n hi hl hm
  have hq := pput0 t i len fu n w hi hl hm
  have bo := wordAtI_bd t i
  refine hspec_fn Try.func36 rfl ok_swap_packet_change okr_swap_packet_change rfl (by kernel_rfl) ?_
  intro Γ hW0 hN0 hL0
  clear hW0
  unfold x_swap_packet_change r_swap_packet_change
  have hn : n < Γ.g0 := hN0 0 _ rfl
  unfold chg
  generalize wordAtI t i = o at *
  repeat' (first
    | (with_reducible first | refine go_seq ?_ | refine go_region ?_ | refine go_regionD mixed_ok ?_ | refine go_cond ?_ | refine go_skip ?_ | refine go_block ?_ | refine nx_code ?_ | refine nx_block ?_ | refine go_ret ?_ | refine nx_nil ?_ | refine go_exit ?_ | refine ex_code ?_ | refine ex_loop ?_ | refine ex_here ?_)
    | ((with_reducible refine ex_past ?_ ?_); (exact by decide))
    | ((with_reducible refine endD_intro ?_ ?_); (exact by kernel_rfl))
    | ((with_reducible refine runR_n ?_ ?_); exact auN)
    | (first | ((with_reducible refine runR_callH 0 ?_ hp (fun _ _ _ h => h) ?_); (exact rfl)) | ((with_reducible refine runR_callH 0 ?_ hq (fun _ _ _ h => h) ?_); (exact rfl)))
    | (refine auD ?_)
    | (with_reducible refine runR_b (fun h => ?_) (fun h => ?_) <;> first | exact auH | simp only [h, runR_t, runR_f])
    | (with_reducible refine condK_bl ?_ ?_)
    | (with_reducible refine condK_b (fun h => ?_) (fun h => ?_) <;> first | exact auH | skip)
    | fail)
  refine go_loopH (α := Nat) (fun k => [(⟨.d0, .d2, .d4⟩, .v (.int .i64 (k : Nat)))]) (fun k => [(0, some ⟨n, 1, rw8 ((cs.take k).foldl (fixAt o w) (putW t i w))⟩)]) (fun _ => Γ.g0) (fun k => cs.length - k) (fun k => k ≤ cs.length) 0 (Nat.zero_le _) ?_ ?_
  · skip
    refine le_mk ?_ ?_ (Nat.le_refl _)
    all_goals dsimp only [leE, leC, leR, leN, leD, leH, leO, writesX, dstsX, appS, havE, setsE, Env.get, Env.set, N8.get, N8.set, updL, lget, lset, env0]
    all_goals (repeat' (first | exact trivial | exact rfl | apply And.intro))
  intro k hk
  dsimp only at hk ⊢
  dsimp only [writesX, dstsX, appS, havE, setsE, Env.get, Env.set, N8.get, N8.set, updL, lget, lset, env0]
  by_cases hlt : k < cs.length
  · obtain ⟨c, hc⟩ : ∃ c, cs[k]? = some c := ⟨_, List.getElem?_eq_getElem hlt⟩
    have ex := xget_map encN cs k c hc
    have hcm := hcs c (List.mem_of_getElem? hc)
    have hfl := (fixs_len o w (cs.take k) (putW t i w)).trans (putW_len t i w)
    have hsn := fold_snoc (fixAt o w) c (putW t i w) cs k hc
    generalize (cs.take k).foldl (fixAt o w) (putW t i w) = tk at *
    have bk := wordAtI_bd tk c
    have hp2 := pword0 tk c len fu n hcm (by omega) hm
    have hf2 := fix_spec (wordAtI tk c) o w bk bo hw
    have hq2 := pput0 tk c len fu n (fixW (wordAtI tk c) o w) hcm (by omega) hm
    repeat' (first
      | (with_reducible first | refine go_seq ?_ | refine go_region ?_ | refine go_regionD mixed_ok ?_ | refine go_cond ?_ | refine go_skip ?_ | refine go_block ?_ | refine nx_code ?_ | refine nx_block ?_ | refine go_ret ?_ | refine nx_nil ?_ | refine go_exit ?_ | refine ex_code ?_ | refine ex_loop ?_ | refine ex_here ?_)
      | ((with_reducible refine ex_past ?_ ?_); (exact by decide))
      | ((with_reducible refine endD_intro ?_ ?_); (exact by kernel_rfl))
      | ((with_reducible refine runR_n ?_ ?_); exact auN)
      | (first | (simp only [Int.toNat_natCast, ex]) | ((with_reducible refine runR_callH 0 ?_ hp2 (fun _ _ _ h => h) ?_); (exact rfl)) | (with_reducible refine runR_call hf2 ?_) | ((with_reducible refine runR_callH 0 ?_ hq2 (fun _ _ _ h => h) ?_); (exact rfl)))
      | (refine auD ?_)
      | (with_reducible refine runR_b (fun h => ?_) (fun h => ?_) <;> first | exact auH | simp only [h, runR_t, runR_f])
      | (with_reducible refine condK_bl ?_ ?_)
      | (with_reducible refine condK_b (fun h => ?_) (fun h => ?_) <;> first | exact auH | skip)
      | fail)
    (all_goals first | exact auP | skip)
    refine nx_loop ⟨k + 1, hlt, Nat.sub_lt_sub_left hlt (Nat.lt_succ_self k), ?_⟩
    rw [hsn]
    refine le_mk ?_ ?_ (Nat.le_refl _)
    all_goals dsimp only [leE, leC, leR, leN, leD, leH, leO, writesX, dstsX, appS, havE, setsE, Env.get, Env.set, N8.get, N8.set, updL, lget, lset, env0]
    all_goals (repeat' (first | exact trivial | exact rfl | apply And.intro))
    all_goals exact dint ((IntWalk.i64_in _ (by omega)).trans (by omega))
  · obtain rfl : k = cs.length := by omega
    rw [List.take_length]
    repeat' (first
      | (with_reducible first | refine go_seq ?_ | refine go_region ?_ | refine go_regionD mixed_ok ?_ | refine go_cond ?_ | refine go_skip ?_ | refine go_block ?_ | refine nx_code ?_ | refine nx_block ?_ | refine go_ret ?_ | refine nx_nil ?_ | refine go_exit ?_ | refine ex_code ?_ | refine ex_loop ?_ | refine ex_here ?_)
      | ((with_reducible refine ex_past ?_ ?_); (exact by decide))
      | ((with_reducible refine endD_intro ?_ ?_); (exact by kernel_rfl))
      | ((with_reducible refine runR_n ?_ ?_); exact auN)
      | fail
      | (refine auD ?_)
      | (with_reducible refine runR_b (fun h => ?_) (fun h => ?_) <;> first | exact auH | simp only [h, runR_t, runR_f])
      | (with_reducible refine condK_bl ?_ ?_)
      | (with_reducible refine condK_b (fun h => ?_) (fun h => ?_) <;> first | exact auH | skip)
      | fail)
    (all_goals first | exact auP | skip)
    refine ret_h1 trivial trivial ?_ rfl hn (nfLL_map (fun x => by simp [nfL, nfD])) rfl
    rfl
end Go.Proofs.Ythdghenfidkdcaa
