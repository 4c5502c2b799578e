/-
  Segments: words in range; an option that is none.
-/
import Derived.Test.YtegejpieedckiaaTcpV
namespace Go.Proofs.Ytegejpieedckiaa
set_option linter.unusedVariables false
set_option linter.unusedSimpArgs false
theorem any_first {α : Type} (p : α → Bool) (l : List α) : decide (0 ≤ firstI p l 0) = l.any p := by
  rcases firstI_cases p l 0 with ⟨h1, h2⟩ | ⟨i, t, h1, h2, h3, h4⟩
  · rw [h1]
    cases ha : l.any p with
    | false => rfl
    | true =>
      obtain ⟨t, ht, hp⟩ := List.any_eq_true.1 ha
      rw [h2 t ht] at hp; cases hp
  · rw [h4, List.any_eq_true.2 ⟨t, List.mem_of_getElem? h1, h2⟩]
    exact decide_eq_true (by omega)
abbrev badO : Op2 → Bool := fun o => !optB o
theorem badO_spec (o : Op2) (hd : o.d.length ≤ 140737488351232) : Spec Try.prog 77 [.agg o.enc] (.v (.bool (badO o))) := by
  have h1 := optionText_spec o hd
  refine hspec_fn Try.func77 rfl ok_custref_SegmentText_1 okr_custref_SegmentText_1 rfl (by kernel_rfl) ?_
  intro Γ hW0 hN0 hL0
  have hW := hW0 rfl
  clear hW0 hN0 hL0
  unfold x_custref_SegmentText_1 r_custref_SegmentText_1
  refine auC ?_
  repeat' (first
    | (refine auS ?_)
    | (with_reducible refine runR_call h1 ?_)
    | (refine auD ?_)
    | (with_reducible refine runR_b (fun h => ?_) (fun h => ?_) <;> first | exact auH | simp only [h, runR_t, runR_f])
    | (with_reducible refine condK_bl ?_ ?_)
    | (with_reducible refine condK_b (fun h => ?_) (fun h => ?_) <;> first | exact auH | skip)
    | fail)
  (all_goals first | exact auP | skip)
  all_goals refine auF ?_
  all_goals (try first | refine auR ?_ | exact auR0)
  all_goals (try simp only [hsM] at *)
theorem containsO_spec (l : List Op2) (hl : l.length ≤ maxLen) (hd : ∀ o ∈ l, o.d.length ≤ 140737488351232) : Spec Try.prog 76 [.snap 2 (l.map Op2.enc) false, .fn (.func 77) [] []] (.v (.bool (l.any badO))) := by
  have hi := opindexf_spec (g := 77) (caps := []) badO l false hl (fun o ho => badO_spec o (hd o ho))
  have hany := any_first badO l
  refine hspec_fn Try.func76 rfl ok_slices_ContainsFunc_api_Option okr_slices_ContainsFunc_api_Option rfl (by kernel_rfl) ?_
  intro Γ hW0 hN0 hL0
  have hW := hW0 rfl
  clear hW0 hN0 hL0
  unfold x_slices_ContainsFunc_api_Option r_slices_ContainsFunc_api_Option
  refine auC ?_
  repeat' (first
    | (refine auS ?_)
    | (with_reducible refine runR_call hi ?_)
    | (refine auD ?_)
    | (with_reducible refine runR_b (fun h => ?_) (fun h => ?_) <;> first | exact auH | simp only [h, runR_t, runR_f])
    | (with_reducible refine condK_bl ?_ ?_)
    | (with_reducible refine condK_b (fun h => ?_) (fun h => ?_) <;> first | exact auH | skip)
    | fail)
  (all_goals first | exact auP | skip)
  all_goals refine auF ?_
  all_goals (try first | refine auR ?_ | exact auR0)
  all_goals (try simp only [hsM] at *)
  all_goals exact dbool hany
set_option maxHeartbeats 1000000 in
theorem inindexf_spec {g : FuncId} {caps : List DV} (p : Int → Bool) (l : List Int) (c : Bool) (hl : l.length ≤ maxLen) (hg : ∀ t ∈ l, Spec Try.prog g (.v (.int .i64 t) :: caps) (.v (.bool (p t)))) : Spec Try.prog 101 [.snap 1 (l.map encI) c, .fn (.func g) [] caps] (.v (.int .i64 (firstI p l 0))) := by
  unfold maxLen at hl
  refine hspec_fn Try.func101 rfl ok_slices_IndexFunc_int okr_slices_IndexFunc_int rfl (by kernel_rfl) ?_
  intro Γ hW0 hN0 hL0
  have hW := hW0 rfl
  clear hW0 hN0 hL0
  unfold x_slices_IndexFunc_int r_slices_IndexFunc_int
  refine auC ?_
  repeat' (first
    | (refine auS ?_)
    | fail
    | (refine auD ?_)
    | (with_reducible refine runR_b (fun h => ?_) (fun h => ?_) <;> first | exact auH | simp only [h, runR_t, runR_f])
    | (with_reducible refine condK_bl ?_ ?_)
    | (with_reducible refine condK_b (fun h => ?_) (fun h => ?_) <;> first | exact auH | skip)
    | fail)
  refine go_loopH (α := Nat) (fun k => [(⟨.d0, .d1, .d0⟩, .v (.int .i64 (k : Nat)))]) (fun _ => []) (fun _ => Γ.g0) (fun k => l.length - k) (fun k => k ≤ l.length ∧ firstI p l 0 = firstI p (l.drop k) k) 0 ⟨Nat.zero_le _, rfl⟩ ?_ ?_
  · skip
    refine le_mk ?_ ?_ (Nat.le_refl _)
    all_goals first | refine auE ?_ | exact auE0
    all_goals (repeat' (first | exact trivial | exact rfl | apply And.intro))
  · rintro k ⟨hk, hp⟩
    refine auL ?_
    by_cases hlt : k < l.length
    · obtain ⟨t, ht⟩ : ∃ t, l[k]? = some t := ⟨_, List.getElem?_eq_getElem hlt⟩
      have ex := xget_map encI l k t ht
      have hgt := hg t (List.mem_of_getElem? ht)
      rw [List.drop_eq_getElem_cons hlt, show l[k] = t from Option.some.inj ((List.getElem?_eq_getElem hlt).symm.trans ht)] at hp
      repeat' (first
        | (refine auS ?_)
        | (with_reducible refine runR_call hgt ?_)
        | (refine auD ?_)
        | (with_reducible refine runR_b (fun h => ?_) (fun h => ?_) <;> first | exact auH | simp only [h, runR_t, runR_f])
        | (with_reducible refine condK_bl ?_ ?_)
        | (with_reducible refine condK_b (fun h => ?_) (fun h => ?_) <;> first | exact auH | skip)
        | (simp only [Int.toNat_natCast, ex]))
      (all_goals first | exact auP | skip)
      · skip
        all_goals refine auF ?_
        all_goals (try first | refine auR ?_ | exact auR0)
        all_goals (try simp only [hsM] at *)
        rw [hp]
        simp [firstI, *]
      · refine nx_loop ?_
        refine ⟨k + 1, ⟨Nat.succ_le_of_lt hlt, by rw [hp]; simp [firstI, *]⟩, Nat.sub_lt_sub_left hlt (Nat.lt_succ_self k), ?_⟩
        refine le_mk ?_ ?_ (Nat.le_refl _)
        all_goals first | refine auE ?_ | exact auE0
        all_goals (repeat' (first | exact trivial | exact rfl | apply And.intro))
        exact dint ((IntWalk.i64_in _ (by omega)).trans (by omega))
    · skip
      repeat' (first
        | (refine auS ?_)
        | fail
        | (refine auD ?_)
        | (with_reducible refine runR_b (fun h => ?_) (fun h => ?_) <;> first | exact auH | simp only [h, runR_t, runR_f])
        | (with_reducible refine condK_bl ?_ ?_)
        | (with_reducible refine condK_b (fun h => ?_) (fun h => ?_) <;> first | exact auH | skip)
        | fail)
      (all_goals first | exact auP | skip)
      all_goals refine auF ?_
      all_goals (try first | refine auR ?_ | exact auR0)
      all_goals (try simp only [hsM] at *)
      obtain rfl : k = l.length := by omega
      rw [hp, List.drop_length]
      rfl
abbrev offW : Int → Bool := fun n => decide (n < 0) || decide (65535 < n)
theorem offW_spec (n : Int) : Spec Try.prog 89 [.v (.int .i64 n)] (.v (.bool (offW n))) := by
  refine hspec_fn Try.func89 rfl ok_tcp_words_1 okr_tcp_words_1 rfl (by kernel_rfl) ?_
  intro Γ hW0 hN0 hL0
  have hW := hW0 rfl
  clear hW0 hN0 hL0
  unfold x_tcp_words_1 r_tcp_words_1
  refine auC ?_
  repeat' (first
    | (refine auS ?_)
    | fail
    | (refine auD ?_)
    | (with_reducible refine runR_b (fun h => ?_) (fun h => ?_) <;> first | exact auH | simp only [h, runR_t, runR_f])
    | (with_reducible refine condK_bl ?_ ?_)
    | (with_reducible refine condK_b (fun h => ?_) (fun h => ?_) <;> first | exact auH | skip)
    | fail)
  (all_goals first | exact auP | skip)
  all_goals refine auF ?_
  all_goals (try first | refine auR ?_ | exact auR0)
  all_goals (try simp only [hsM] at *)
  all_goals (refine dbool ?_; first | (simp_all; done) | (simp_all; omega))
theorem containsW_spec (l : List Int) (hl : l.length ≤ maxLen) : Spec Try.prog 88 [.snap 1 (l.map encI) false, .fn (.func 89) [] []] (.v (.bool (l.any offW))) := by
  have hi := inindexf_spec (g := 89) (caps := []) offW l false hl (fun n _ => offW_spec n)
  have hany := any_first offW l
  refine hspec_fn Try.func88 rfl ok_slices_ContainsFunc_int okr_slices_ContainsFunc_int rfl (by kernel_rfl) ?_
  intro Γ hW0 hN0 hL0
  have hW := hW0 rfl
  clear hW0 hN0 hL0
  unfold x_slices_ContainsFunc_int r_slices_ContainsFunc_int
  refine auC ?_
  repeat' (first
    | (refine auS ?_)
    | (with_reducible refine runR_call hi ?_)
    | (refine auD ?_)
    | (with_reducible refine runR_b (fun h => ?_) (fun h => ?_) <;> first | exact auH | simp only [h, runR_t, runR_f])
    | (with_reducible refine condK_bl ?_ ?_)
    | (with_reducible refine condK_b (fun h => ?_) (fun h => ?_) <;> first | exact auH | skip)
    | fail)
  (all_goals first | exact auP | skip)
  all_goals refine auF ?_
  all_goals (try first | refine auR ?_ | exact auR0)
  all_goals (try simp only [hsM] at *)
  all_goals exact dbool hany
theorem words0 (l : List Int) (hl : l.length ≤ maxLen) : Spec Try.prog 66 [.snap 1 (l.map encI) false] (.v (.bool (!l.any offW))) := by
  have hi := containsW_spec l hl
  refine hspec_fn Try.func66 rfl ok_tcp_words okr_tcp_words rfl (by kernel_rfl) ?_
  intro Γ hW0 hN0 hL0
  have hW := hW0 rfl
  clear hW0 hN0 hL0
  unfold x_tcp_words r_tcp_words
  refine auC ?_
  repeat' (first
    | (refine auS ?_)
    | (with_reducible refine runR_call hi ?_)
    | (refine auD ?_)
    | (with_reducible refine runR_b (fun h => ?_) (fun h => ?_) <;> first | exact auH | simp only [h, runR_t, runR_f])
    | (with_reducible refine condK_bl ?_ ?_)
    | (with_reducible refine condK_b (fun h => ?_) (fun h => ?_) <;> first | exact auH | skip)
    | fail)
  (all_goals first | exact auP | skip)
  all_goals refine auF ?_
  all_goals (try first | refine auR ?_ | exact auR0)
  all_goals (try simp only [hsM] at *)
theorem words_spec (a b c d : Int) (k n : Nat) : HSpec Try.prog 66 [.sl k n 1 0 4 true] [some ⟨n, 1, [[.v (.int .i64 a)], [.v (.int .i64 b)], [.v (.int .i64 c)], [.v (.int .i64 d)]]⟩] (fun r H => r = .v (.bool (!([a, b, c, d].any offW))) ∧ H = [some ⟨n, 1, [[.v (.int .i64 a)], [.v (.int .i64 b)], [.v (.int .i64 c)], [.v (.int .i64 d)]]⟩]) :=
  hspec_lent (full := true) (len := 4) (words0 [a, b, c, d] (show 4 ≤ maxLen by unfold maxLen; omega)) rfl rfl k n
/-! WHAT THE REFERENCE KEEPS OF THE OPTIONS' BYTES -/
def segO : List UInt8 → List Op2 → List UInt8
  | a, [] => a
  | a, o :: r => segO (if a.length ≤ 40 then a ++ optT o else a) r
theorem segO_snoc (o : Op2) : ∀ (l : List Op2) (a : List UInt8), segO a (l ++ [o]) = if (segO a l).length ≤ 40 then segO a l ++ optT o else segO a l
  | [], a => rfl
  | x :: r, a => segO_snoc o r _
theorem segO_big : ∀ (l : List Op2) (a : List UInt8), 40 < a.length → segO a l = a
  | [], a, _ => rfl
  | x :: r, a, h => by
    unfold segO
    rw [if_neg (by omega)]
    exact segO_big r a h
theorem segO_is : ∀ (l : List Op2) (a : List UInt8), ((segO a l).length ≤ 40 ↔ (a ++ optsT l).length ≤ 40) ∧ ((a ++ optsT l).length ≤ 40 → segO a l = a ++ optsT l)
  | [], a => by simp [segO, optsT]
  | x :: r, a => by
    by_cases h : a.length ≤ 40
    · have := segO_is r (a ++ optT x)
      unfold segO optsT
      rw [if_pos h]
      simpa [List.append_assoc] using this
    · have h2 : segO a (x :: r) = a := segO_big _ a (by omega)
      rw [h2]
      constructor
      · simp; omega
      · intro h3; simp at h3; omega
/-- Filled up with zeros. -/
def padT (o : List UInt8) : List UInt8 := o ++ List.replicate ((4 - o.length % 4) % 4) 0
theorem padT_len (o : List UInt8) : (padT o).length = (o.length + 3) / 4 * 4 := by unfold padT; simp; omega
theorem padT_take (o : List UInt8) : (o ++ [0, 0, 0]).take ((o.length + 3) / 4 * 4) = padT o := by
  unfold padT
  rw [List.take_append, List.take_of_length_le (by omega)]
  congr 1
  have h : (o.length + 3) / 4 * 4 - o.length = (4 - o.length % 4) % 4 := by omega
  rw [h]
  have h4 : (4 - o.length % 4) % 4 < 4 := Nat.mod_lt _ (by decide)
  generalize (4 - o.length % 4) % 4 = q at *
  have : q = 0 ∨ q = 1 ∨ q = 2 ∨ q = 3 := by omega
  rcases this with rfl | rfl | rfl | rfl <;> rfl
end Go.Proofs.Ytegejpieedckiaa
