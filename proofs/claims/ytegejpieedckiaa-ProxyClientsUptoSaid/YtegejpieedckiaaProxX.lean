/-
  A guard: is it right, in the program and in the reference.
-/
import Derived.Test.YtegejpieedckiaaTcpY
namespace Go.Proofs.Ytegejpieedckiaa
set_option linter.unusedVariables false
set_option linter.unusedSimpArgs false
structure Gd where
  (fr to fp tp seq ck dl : Int)
  op : Bool
  at' : Int
abbrev Gd.enc (t : Gd) : List DV := [.v (.int .u32 t.fr), .v (.int .u32 t.to), .v (.int .i64 t.fp), .v (.int .i64 t.tp), .v (.int .u32 t.seq), .v (.int .u32 t.ck), .v (.int .u32 t.dl), .v (.bool t.op), .v (.int .i64 t.at')]
structure Rd where
  (fr to fp tp : Int)
abbrev Rd.enc (r : Rd) : List DV := [.v (.int .u32 r.fr), .v (.int .u32 r.to), .v (.int .i64 r.fp), .v (.int .i64 r.tp)]
abbrev Gd.rd (t : Gd) : Rd := ⟨t.fr, t.to, t.fp, t.tp⟩
def onR (r : Rd) (t : Gd) : Bool := decide (t.fr = r.fr ∧ t.to = r.to ∧ t.fp = r.fp ∧ t.tp = r.tp)
def rdOk (r : Rd) : Bool := decide ((0 ≤ r.fp ∧ r.fp ≤ 65535) ∧ 0 ≤ r.tp ∧ r.tp ≤ 65535)
def refP (pre : List Gd) (t : Gd) : Bool := rdOk t.rd && decide (0 ≤ t.at' ∧ t.at' ≤ 1099511627776) && (t.op || decide (¬ 0 < t.dl)) && pre.all (fun o => !(onR t.rd o || decide (t.at' < o.at')))
def proxErr (sz : Int) (ms : List Gd) : Int := if 0 ≤ sz ∧ sz ≤ 65535 then if 64 < ms.length then 2 else if goodG refP [] ms then 0 else 4 else 1
abbrev dPx (k0 k1 sz : Int) (ms : List Gd) : DV := .agg [.v (.int .u64 k0), .v (.int .u64 k1), .v (.int .i64 sz), .snap 9 (ms.map Gd.enc) false]
set_option maxHeartbeats 1000000 in
theorem gdindexf_spec {g : FuncId} {caps : List DV} (p : Gd → Bool) (l : List Gd) (c : Bool) (hl : l.length ≤ maxLen) (hg : ∀ t ∈ l, Spec Try.prog g (.agg (Gd.enc t) :: caps) (.v (.bool (p t)))) : Spec Try.prog 44 [.snap 9 (l.map Gd.enc) c, .fn (.func g) [] caps] (.v (.int .i64 (firstI p l 0))) := by
  unfold maxLen at hl
  refine hspec_fn Try.func44 rfl ok_slices_IndexFunc_api_Guarded okr_slices_IndexFunc_api_Guarded rfl (by kernel_rfl) ?_
  intro Γ hW0 hN0 hL0
  have hW := hW0 rfl
  clear hW0 hN0 hL0
  unfold x_slices_IndexFunc_api_Guarded r_slices_IndexFunc_api_Guarded
  refine auC ?_
  repeat' (first
    | (refine auS ?_)
    | fail
    | (refine auD ?_)
    | (with_reducible refine runR_b (fun h => ?_) (fun h => ?_) <;> first | exact auH | simp only [h, runR_t, runR_f])
    | (with_reducible refine condK_bl ?_ ?_)
    | (with_reducible refine condK_b (fun h => ?_) (fun h => ?_) <;> first | exact auH | skip)
    | fail)
  refine go_loopH (α := Nat) (fun k => [(⟨.d0, .d1, .d0⟩, .v (.int .i64 (k : Nat)))]) (fun _ => []) (fun _ => Γ.g0) (fun k => l.length - k) (fun k => k ≤ l.length ∧ firstI p l 0 = firstI p (l.drop k) k) 0 ⟨Nat.zero_le _, rfl⟩ ?_ ?_
  · skip
    refine le_mk ?_ ?_ (Nat.le_refl _)
    all_goals first | refine auE ?_ | exact auE0
    all_goals (repeat' (first | exact trivial | exact rfl | apply And.intro))
  · rintro k ⟨hk, hp⟩
    refine auL ?_
    by_cases hlt : k < l.length
    · obtain ⟨t, ht⟩ : ∃ t, l[k]? = some t := ⟨_, List.getElem?_eq_getElem hlt⟩
      have ex := xget_map Gd.enc l k t ht
      have hgt := hg t (List.mem_of_getElem? ht)
      rw [List.drop_eq_getElem_cons hlt, show l[k] = t from Option.some.inj ((List.getElem?_eq_getElem hlt).symm.trans ht)] at hp
      repeat' (first
        | (refine auS ?_)
        | (with_reducible refine runR_call hgt ?_)
        | (refine auD ?_)
        | (with_reducible refine runR_b (fun h => ?_) (fun h => ?_) <;> first | exact auH | simp only [h, runR_t, runR_f])
        | (with_reducible refine condK_bl ?_ ?_)
        | (with_reducible refine condK_b (fun h => ?_) (fun h => ?_) <;> first | exact auH | skip)
        | (simp only [Int.toNat_natCast, ex]))
      (all_goals first | exact auP | skip)
      · skip
        all_goals refine auF ?_
        all_goals (try first | refine auR ?_ | exact auR0)
        all_goals (try simp only [hsM] at *)
        rw [hp]
        simp [firstI, *]
      · refine nx_loop ?_
        refine ⟨k + 1, ⟨Nat.succ_le_of_lt hlt, by rw [hp]; simp [firstI, *]⟩, Nat.sub_lt_sub_left hlt (Nat.lt_succ_self k), ?_⟩
        refine le_mk ?_ ?_ (Nat.le_refl _)
        all_goals first | refine auE ?_ | exact auE0
        all_goals (repeat' (first | exact trivial | exact rfl | apply And.intro))
        exact dint ((IntWalk.i64_in _ (by omega)).trans (by omega))
    · skip
      repeat' (first
        | (refine auS ?_)
        | fail
        | (refine auD ?_)
        | (with_reducible refine runR_b (fun h => ?_) (fun h => ?_) <;> first | exact auH | simp only [h, runR_t, runR_f])
        | (with_reducible refine condK_bl ?_ ?_)
        | (with_reducible refine condK_b (fun h => ?_) (fun h => ?_) <;> first | exact auH | skip)
        | fail)
      (all_goals first | exact auP | skip)
      all_goals refine auF ?_
      all_goals (try first | refine auR ?_ | exact auR0)
      all_goals (try simp only [hsM] at *)
      obtain rfl : k = l.length := by omega
      rw [hp, List.drop_length]
      rfl
theorem xget_gd {l : List Gd} {k : Nat} {t : Gd} (ht : l[k]? = some t) : xget (l.map Gd.enc) k = [.v (.int .u32 t.fr), .v (.int .u32 t.to), .v (.int .i64 t.fp), .v (.int .i64 t.tp), .v (.int .u32 t.seq), .v (.int .u32 t.ck), .v (.int .u32 t.dl), .v (.bool t.op), .v (.int .i64 t.at')] := xget_map Gd.enc l k t ht
theorem place1_spec (t : Gd) (r : Rd) : Spec Try.prog 45 [.agg t.enc, .rptr r.enc] (.v (.bool (onR r t))) := by
  refine hspec_fn Try.func45 rfl ok_proxy_place_1 okr_proxy_place_1 rfl (by kernel_rfl) ?_
  intro Γ hW0 hN0 hL0
  have hW := hW0 rfl
  clear hW0 hN0 hL0
  unfold x_proxy_place_1 r_proxy_place_1
  refine auC ?_
  repeat' (first
    | (refine auS ?_)
    | fail
    | (refine auD ?_)
    | (with_reducible refine runR_b (fun h => ?_) (fun h => ?_) <;> first | exact auH | simp only [h, runR_t, runR_f])
    | (with_reducible refine condK_bl ?_ ?_)
    | (with_reducible refine condK_b (fun h => ?_) (fun h => ?_) <;> first | exact auH | skip)
    | fail)
  (all_goals first | exact auP | skip)
  all_goals refine auF ?_
  all_goals (try first | refine auR ?_ | exact auR0)
  all_goals (try simp only [hsM] at *)
  all_goals (refine dbool ?_; unfold onR; simp_all)
theorem place_spec (k0 k1 sz : Int) (ms : List Gd) (r : Rd) (hl : ms.length ≤ maxLen) : Spec Try.prog 16 [dPx k0 k1 sz ms, .agg r.enc] (.v (.int .i64 (firstI (onR r) ms 0))) := by
  have hi := gdindexf_spec (g := 45) (caps := [.rptr r.enc]) (onR r) ms false hl (fun m _ => place1_spec m r)
  refine hspec_fn Try.func16 rfl ok_proxy_place okr_proxy_place rfl (by kernel_rfl) ?_
  intro Γ hW0 hN0 hL0
  have hW := hW0 rfl
  clear hW0 hN0 hL0
  unfold x_proxy_place r_proxy_place
  refine auC ?_
  repeat' (first
    | (refine go_leG (leG_freezeP hW ⟨.d0, .d0, .d3⟩ rfl rfl ⟨rfl, rfl, Nat.succ_pos _⟩) ?_)
    | (refine auS ?_)
    | (with_reducible refine runR_call hi ?_)
    | (refine auD ?_)
    | (with_reducible refine runR_b (fun h => ?_) (fun h => ?_) <;> first | exact auH | simp only [h, runR_t, runR_f])
    | (with_reducible refine condK_bl ?_ ?_)
    | (with_reducible refine condK_b (fun h => ?_) (fun h => ?_) <;> first | exact auH | skip)
    | fail)
  all_goals refine auF ?_
  all_goals (try first | refine auR ?_ | exact auR0)
  all_goals (try simp only [hsM] at *)
theorem port_spec (n : Int) : Spec Try.prog 37 [.v (.int .i64 n)] (.v (.bool (decide (0 ≤ n ∧ n ≤ 65535)))) := by
  refine hspec_fn Try.func37 rfl ok_proxy_port okr_proxy_port rfl (by kernel_rfl) ?_
  intro Γ hW0 hN0 hL0
  have hW := hW0 rfl
  clear hW0 hN0 hL0
  unfold x_proxy_port r_proxy_port
  refine auC ?_
  repeat' (first
    | (refine auS ?_)
    | fail
    | (refine auD ?_)
    | (with_reducible refine runR_b (fun h => ?_) (fun h => ?_) <;> first | exact auH | simp only [h, runR_t, runR_f])
    | (with_reducible refine condK_bl ?_ ?_)
    | (with_reducible refine condK_b (fun h => ?_) (fun h => ?_) <;> first | exact auH | skip)
    | fail)
  (all_goals first | exact auP | skip)
  all_goals refine auF ?_
  all_goals (try first | refine auR ?_ | exact auR0)
  all_goals (try simp only [hsM] at *)
  all_goals (refine dbool ?_; simp_all; try omega)
theorem roadRight_spec (r : Rd) : Spec Try.prog 39 [.agg r.enc] (.v (.bool (rdOk r))) := by
  refine hspec_fn Try.func39 rfl ok_custref_RoadRight okr_custref_RoadRight rfl (by kernel_rfl) ?_
  intro Γ hW0 hN0 hL0
  have hW := hW0 rfl
  clear hW0 hN0 hL0
  unfold x_custref_RoadRight r_custref_RoadRight
  refine auC ?_
  repeat' (first
    | (refine auS ?_)
    | (with_reducible refine runR_call (between_spec _ _ _) ?_)
    | (refine auD ?_)
    | (with_reducible refine runR_b (fun h => ?_) (fun h => ?_) <;> first | exact auH | simp only [h, runR_t, runR_f])
    | (with_reducible refine condK_bl ?_ ?_)
    | (with_reducible refine condK_b (fun h => ?_) (fun h => ?_) <;> first | exact auH | skip)
    | fail)
  (all_goals first | exact auP | skip)
  all_goals refine auF ?_
  all_goals (try first | refine auR ?_ | exact auR0)
  all_goals (try simp only [hsM] at *)
  all_goals (refine dbool ?_; unfold rdOk; simp_all; try omega)
end Go.Proofs.Ytegejpieedckiaa
