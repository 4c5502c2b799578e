/-
  Segments: words and longs of package tcp; Mss; Move.
-/
import Derived.Test.YtegejpieedckiaaNetL
namespace Go.Proofs.Ytegejpieedckiaa
set_option linter.unusedVariables false
set_option linter.unusedSimpArgs false
theorem tcpword_spec (n : Int) : Spec Try.prog 68 [.v (.int .i64 n)] (.v (.string (mkS (wd n)))) := by
  have h1 : n.fdiv (2 ^ 8) = n / 256 := Int.fdiv_eq_ediv_of_nonneg _ (by decide)
  have hs : strOf [[.v (.int .u8 (IntKind.u8.wrap (n / 256)))], [.v (.int .u8 (IntKind.u8.wrap n))]] = mkS (wd n) := by rw [strOf2, u8_wrap, u8_wrap]; rfl
  refine hspec_fn Try.func68 rfl ok_tcp_word okr_tcp_word rfl (by kernel_rfl) ?_
  intro Γ hW0 hN0 hL0
  have hW := hW0 rfl
  clear hW0 hN0 hL0
  unfold x_tcp_word r_tcp_word
  refine auC ?_
  repeat' (first
    | (refine auS ?_)
    | (simp only [min8, h1, hs])
    | (refine auD ?_)
    | (with_reducible refine runR_b (fun h => ?_) (fun h => ?_) <;> first | exact auH | simp only [h, runR_t, runR_f])
    | (with_reducible refine condK_bl ?_ ?_)
    | (with_reducible refine condK_b (fun h => ?_) (fun h => ?_) <;> first | exact auH | skip)
    | fail)
  (all_goals first | exact auP | skip)
  all_goals refine auF ?_
  all_goals (try first | refine auR ?_ | exact auR0)
  all_goals (try simp only [hsM] at *)
theorem tcplong_spec (a : Int) (h0 : 0 ≤ a) (h1 : a < 4294967296) : Spec Try.prog 69 [.v (.int .u32 a)] (.v (.string (mkS (lg a)))) := by
  have e0 : min 16 IntKind.u32.bits = 16 := rfl
  have e1 : a.fdiv (2 ^ 16) = a / 65536 := Int.fdiv_eq_ediv_of_nonneg _ (by decide)
  have e3 : IntKind.i64.wrap (a / 65536) = a / 65536 := IntWalk.i64_in _ (by omega)
  have e4 : IntKind.i64.wrap a = a := IntWalk.i64_in _ (by omega)
  have w1 := tcpword_spec (a / 65536)
  have w2 := tcpword_spec a
  refine hspec_fn Try.func69 rfl ok_tcp_long okr_tcp_long rfl (by kernel_rfl) ?_
  intro Γ hW0 hN0 hL0
  have hW := hW0 rfl
  clear hW0 hN0 hL0
  unfold x_tcp_long r_tcp_long
  refine auC ?_
  repeat' (first
    | (refine auS ?_)
    | (first | (simp only [e0, e1, e3, e4, mkS_app]) | (with_reducible refine runR_call w1 ?_) | (with_reducible refine runR_call w2 ?_))
    | (refine auD ?_)
    | (with_reducible refine runR_b (fun h => ?_) (fun h => ?_) <;> first | exact auH | simp only [h, runR_t, runR_f])
    | (with_reducible refine condK_bl ?_ ?_)
    | (with_reducible refine condK_b (fun h => ?_) (fun h => ?_) <;> first | exact auH | skip)
    | (refine runR_n (by simp only [mkS_size, wd_len]; omega) ?_))
  (all_goals first | exact auP | skip)
  all_goals refine auF ?_
  all_goals (try first | refine auR ?_ | exact auR0)
  all_goals (try simp only [hsM] at *)
  all_goals rfl
theorem tcpwordAt_spec (l : List UInt8) (i : Nat) (hi : i + 1 < l.length) (hl : l.length ≤ 9223372036854775806) (ii : Int) (hii : ii = (i : Nat)) : Spec Try.prog 80 [.v (.string (mkS l)), .v (.int .i64 ii)] (.v (.int .i64 (wordAtI l i))) := by
  subst hii
  have hb := bN_lt l i
  have hb2 := bN_lt l (i + 1)
  have e1 : IntKind.i64.wrap (bN l i : Nat) = (bN l i : Nat) := IntWalk.i64_in _ (by omega)
  have e2 : IntKind.i64.wrap (bN l (i + 1) : Nat) = (bN l (i + 1) : Nat) := IntWalk.i64_in _ (by omega)
  have e3 : IntKind.i64.wrap ((i : Int) + 1) = ((i + 1 : Nat) : Int) := by rw [IntWalk.i64_in _ (by omega)]; omega
  have e5 : bits .or .i64 (IntKind.i64.wrap ((bN l i : Nat) * 2 ^ 8)) (bN l (i + 1) : Nat) = wordAtI l i := word_i64 _ _ (by omega) (by omega) (by omega) (by omega)
  refine hspec_fn Try.func80 rfl ok_tcp_wordAt okr_tcp_wordAt rfl (by kernel_rfl) ?_
  intro Γ hW0 hN0 hL0
  have hW := hW0 rfl
  clear hW0 hN0 hL0
  unfold x_tcp_wordAt r_tcp_wordAt
  refine auC ?_
  repeat' (first
    | (refine auS ?_)
    | (simp only [mkS_size, mkS_at, min8, e1, e2, e3, e5, Int.toNat_natCast])
    | (refine auD ?_)
    | (with_reducible refine runR_b (fun h => ?_) (fun h => ?_) <;> first | exact auH | simp only [h, runR_t, runR_f])
    | (with_reducible refine condK_bl ?_ ?_)
    | (with_reducible refine condK_b (fun h => ?_) (fun h => ?_) <;> first | exact auH | skip)
    | fail)
  (all_goals first | exact auP | skip)
  all_goals refine auF ?_
  all_goals (try first | refine auR ?_ | exact auR0)
  all_goals (try simp only [hsM] at *)
theorem tcplongAt_spec (l : List UInt8) (i : Nat) (hi : i + 3 < l.length) (hl : l.length ≤ 9223372036854775800) (ii : Int) (hii : ii = (i : Nat)) : Spec Try.prog 73 [.v (.string (mkS l)), .v (.int .i64 ii)] (.v (.int .u32 (lgAt l i))) := by
  subst hii
  have h1 := tcpwordAt_spec l i (by omega) (by omega) i rfl
  have h2 := tcpwordAt_spec l (i + 2) (by omega) (by omega) ((i : Int) + 2) (by omega)
  have b1 := wordAtI_bd l i
  have b2 := wordAtI_bd l (i + 2)
  have m2 : min 16 IntKind.u32.bits = 16 := rfl
  have e0 : IntKind.i64.wrap ((i : Int) + 2) = (i : Int) + 2 := IntWalk.i64_in _ (by omega)
  have e1 : IntKind.u32.wrap (wordAtI l i) = wordAtI l i := IntWalk.u32_in _ (by omega)
  have e2 : IntKind.u32.wrap (wordAtI l (i + 2)) = wordAtI l (i + 2) := IntWalk.u32_in _ (by omega)
  have e3 : bits .or .u32 (IntKind.u32.wrap (wordAtI l i * 2 ^ 16)) (wordAtI l (i + 2)) = lgAt l i := by
    rw [IntWalk.u32_in _ (by omega), u32_or_add 16 _ _ (by omega) (by omega) (by omega) (by omega) (by omega) (by omega)]
    unfold lgAt; omega
  refine hspec_fn Try.func73 rfl ok_tcp_longAt okr_tcp_longAt rfl (by kernel_rfl) ?_
  intro Γ hW0 hN0 hL0
  have hW := hW0 rfl
  clear hW0 hN0 hL0
  unfold x_tcp_longAt r_tcp_longAt
  refine auC ?_
  repeat' (first
    | (refine auS ?_)
    | (first | (simp only [m2, e0, e1, e2, e3]) | (with_reducible refine runR_call h1 ?_) | (with_reducible refine runR_call h2 ?_))
    | (refine auD ?_)
    | (with_reducible refine runR_b (fun h => ?_) (fun h => ?_) <;> first | exact auH | simp only [h, runR_t, runR_f])
    | (with_reducible refine condK_bl ?_ ?_)
    | (with_reducible refine condK_b (fun h => ?_) (fun h => ?_) <;> first | exact auH | skip)
    | fail)
  (all_goals first | exact auP | skip)
  all_goals refine auF ?_
  all_goals (try first | refine auR ?_ | exact auR0)
  all_goals (try simp only [hsM] at *)
structure Op2 where
  (k : Int) (d : List UInt8)
deriving DecidableEq
abbrev Op2.enc (t : Op2) : List DV := [.v (.int .i64 t.k), .v (.string (mkS t.d))]
structure Sg where
  (fr to seq ack flags win urg : Int) (opts : List Op2) (data : List UInt8)
abbrev Sg.enc (g : Sg) : List DV := [.v (.int .i64 g.fr), .v (.int .i64 g.to), .v (.int .u32 g.seq), .v (.int .u32 g.ack), .v (.int .i64 g.flags), .v (.int .i64 g.win), .v (.int .i64 g.urg), .snap 2 (g.opts.map Op2.enc) false, .v (.string (mkS g.data))]
abbrev dG (g : Sg) : DV := .agg g.enc
theorem xget_op {l : List Op2} {k : Nat} {t : Op2} (ht : l[k]? = some t) : xget (l.map Op2.enc) k = [.v (.int .i64 t.k), .v (.string (mkS t.d))] := xget_map Op2.enc l k t ht
set_option maxHeartbeats 1000000 in
theorem opindexf_spec {g : FuncId} {caps : List DV} (p : Op2 → Bool) (l : List Op2) (c : Bool) (hl : l.length ≤ maxLen) (hg : ∀ t ∈ l, Spec Try.prog g (.agg (Op2.enc t) :: caps) (.v (.bool (p t)))) : Spec Try.prog 61 [.snap 2 (l.map Op2.enc) c, .fn (.func g) [] caps] (.v (.int .i64 (firstI p l 0))) := by
  unfold maxLen at hl
  refine hspec_fn Try.func61 rfl ok_slices_IndexFunc_api_Option okr_slices_IndexFunc_api_Option rfl (by kernel_rfl) ?_
  intro Γ hW0 hN0 hL0
  have hW := hW0 rfl
  clear hW0 hN0 hL0
  unfold x_slices_IndexFunc_api_Option r_slices_IndexFunc_api_Option
  refine auC ?_
  repeat' (first
    | (refine auS ?_)
    | fail
    | (refine auD ?_)
    | (with_reducible refine runR_b (fun h => ?_) (fun h => ?_) <;> first | exact auH | simp only [h, runR_t, runR_f])
    | (with_reducible refine condK_bl ?_ ?_)
    | (with_reducible refine condK_b (fun h => ?_) (fun h => ?_) <;> first | exact auH | skip)
    | fail)
  refine go_loopH (α := Nat) (fun k => [(⟨.d0, .d1, .d0⟩, .v (.int .i64 (k : Nat)))]) (fun _ => []) (fun _ => Γ.g0) (fun k => l.length - k) (fun k => k ≤ l.length ∧ firstI p l 0 = firstI p (l.drop k) k) 0 ⟨Nat.zero_le _, rfl⟩ ?_ ?_
  · skip
    refine le_mk ?_ ?_ (Nat.le_refl _)
    all_goals first | refine auE ?_ | exact auE0
    all_goals (repeat' (first | exact trivial | exact rfl | apply And.intro))
  · rintro k ⟨hk, hp⟩
    refine auL ?_
    by_cases hlt : k < l.length
    · obtain ⟨t, ht⟩ : ∃ t, l[k]? = some t := ⟨_, List.getElem?_eq_getElem hlt⟩
      have ex := xget_map Op2.enc l k t ht
      have hgt := hg t (List.mem_of_getElem? ht)
      rw [List.drop_eq_getElem_cons hlt, show l[k] = t from Option.some.inj ((List.getElem?_eq_getElem hlt).symm.trans ht)] at hp
      repeat' (first
        | (refine auS ?_)
        | (with_reducible refine runR_call hgt ?_)
        | (refine auD ?_)
        | (with_reducible refine runR_b (fun h => ?_) (fun h => ?_) <;> first | exact auH | simp only [h, runR_t, runR_f])
        | (with_reducible refine condK_bl ?_ ?_)
        | (with_reducible refine condK_b (fun h => ?_) (fun h => ?_) <;> first | exact auH | skip)
        | (simp only [Int.toNat_natCast, ex]))
      (all_goals first | exact auP | skip)
      · skip
        all_goals refine auF ?_
        all_goals (try first | refine auR ?_ | exact auR0)
        all_goals (try simp only [hsM] at *)
        rw [hp]
        simp [firstI, *]
      · refine nx_loop ?_
        refine ⟨k + 1, ⟨Nat.succ_le_of_lt hlt, by rw [hp]; simp [firstI, *]⟩, Nat.sub_lt_sub_left hlt (Nat.lt_succ_self k), ?_⟩
        refine le_mk ?_ ?_ (Nat.le_refl _)
        all_goals first | refine auE ?_ | exact auE0
        all_goals (repeat' (first | exact trivial | exact rfl | apply And.intro))
        exact dint ((IntWalk.i64_in _ (by omega)).trans (by omega))
    · skip
      repeat' (first
        | (refine auS ?_)
        | fail
        | (refine auD ?_)
        | (with_reducible refine runR_b (fun h => ?_) (fun h => ?_) <;> first | exact auH | simp only [h, runR_t, runR_f])
        | (with_reducible refine condK_bl ?_ ?_)
        | (with_reducible refine condK_b (fun h => ?_) (fun h => ?_) <;> first | exact auH | skip)
        | fail)
      (all_goals first | exact auP | skip)
      all_goals refine auF ?_
      all_goals (try first | refine auR ?_ | exact auR0)
      all_goals (try simp only [hsM] at *)
      obtain rfl : k = l.length := by omega
      rw [hp, List.drop_length]
      rfl
end Go.Proofs.Ytegejpieedckiaa
