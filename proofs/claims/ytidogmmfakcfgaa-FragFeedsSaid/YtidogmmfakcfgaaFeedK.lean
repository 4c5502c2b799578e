/-
  Is it a pool: the program's Check.
-/
import Derived.Test.YtidogmmfakcfgaaFeedC
namespace Go.Proofs.Ytidogmmfakcfgaa
set_option linter.unusedVariables false
set_option linter.unusedSimpArgs false
abbrev dH (h : Hp) : DV := .agg h.enc
def smD (n : Nat) : Prop := n ≤ 140737488351232
theorem end_spec (p : Pt) (h : 0 ≤ p.at' ∧ p.at' ≤ 65515) (hd : smD p.data.length) : Spec Try.prog 37 [.agg p.enc] (.v (.int .i64 p.fin)) := by
  unfold smD at hd
  have w1 : IntKind.i64.wrap (p.at' + (p.data.length : Nat)) = p.fin := IntWalk.i64_in _ (by omega)
  refine hspec_fn Try.func37 rfl ok_frag_end okr_frag_end rfl (by kernel_rfl) ?_
  intro Γ hW0 hN0 hL0
  have hW := hW0 rfl
  clear hW0 hN0 hL0
  unfold x_frag_end r_frag_end
  with_reducible refine auC ?_
  repeat' (first
    | (with_reducible refine auS ?_)
    | (first | simp only [mkS_size] | simp only [w1])
    | (with_reducible refine auD ?_)
    | ((with_reducible refine auB ?_ ?_); all_goals first | ((with_reducible intro h); first | exact auH | simp only [h, runR_t, runR_f] | skip) | skip)
    | fail)
  all_goals with_reducible refine auF ?_
  all_goals (try first | with_reducible refine auR ?_ | exact auR0)
  all_goals (try simp only [hsM] at *)
theorem mkS_nil (l : B8) : (mkS l = { data := #[] }) ↔ l = [] := mkS_inj (b := [])
theorem len_mod8 (n : Nat) : ((n : Nat) : Int).tmod 8 = ((n % 8 : Nat) : Int) := by
  rw [Int.tmod_eq_emod_of_nonneg (by omega)]; omega
theorem rightPart_spec (p : Pt) (hd : smD p.data.length) : Spec Try.prog 50 [.agg p.enc] (.v (.bool (ptOk p))) := by
  have hd' := hd
  unfold smD at hd'
  have hm2 := len_mod8 p.data.length
  by_cases hb : 0 ≤ p.at' ∧ p.at' ≤ 65515
  · have h1 := end_spec p hb hd
    have hm : p.at'.tmod 8 = p.at' % 8 := Int.tmod_eq_emod_of_nonneg hb.1
    refine hspec_fn Try.func50 rfl ok_frag_rightPart okr_frag_rightPart rfl (by kernel_rfl) ?_
    intro Γ hW0 hN0 hL0
    have hW := hW0 rfl
    clear hW0 hN0 hL0
    unfold x_frag_rightPart r_frag_rightPart
    with_reducible refine auC ?_
    repeat' (first
      | (with_reducible refine auS ?_)
      | (first | (with_reducible refine runR_call h1 ?_) | simp only [hm] | simp only [mkS_size, hm2])
      | (with_reducible refine auD ?_)
      | ((with_reducible refine auB ?_ ?_); all_goals first | ((with_reducible intro h); first | exact auH | simp only [h, runR_t, runR_f] | skip) | skip)
      | fail)
    (all_goals first | exact auP | skip)
    all_goals with_reducible refine auF ?_
    all_goals (try first | with_reducible refine auR ?_ | exact auR0)
    all_goals (try simp only [hsM] at *)
    all_goals
      simp only [mkS_nil] at *
      refine dbool ?_
      unfold ptOk
      simp [*]
      try omega
  · have hno : ptOk p = false := by
      cases hq : ptOk p with
      | false => rfl
      | true =>
        have := ptOk_fact hq
        exact absurd ⟨this.2.1, this.2.2.2.1⟩ hb
    refine hspec_fn Try.func50 rfl ok_frag_rightPart okr_frag_rightPart rfl (by kernel_rfl) ?_
    intro Γ hW0 hN0 hL0
    have hW := hW0 rfl
    clear hW0 hN0 hL0
    unfold x_frag_rightPart r_frag_rightPart
    with_reducible refine auC ?_
    repeat' (first
      | (with_reducible refine auS ?_)
      | (first | simp only [mkS_size, hm2])
      | (with_reducible refine auD ?_)
      | ((with_reducible refine auB ?_ ?_); all_goals first | ((with_reducible intro h); first | exact auH | simp only [h, runR_t, runR_f] | skip) | skip)
      | fail)
    (all_goals first | exact auP | skip)
    all_goals with_reducible refine auF ?_
    all_goals (try first | with_reducible refine auR ?_ | exact auR0)
    all_goals (try simp only [hsM] at *)
    all_goals rw [hno]
theorem sameKey_spec (a b : Hp) : Spec Try.prog 14 [dH a, dH b] (.v (.bool (sameK a b))) := by
  refine hspec_fn Try.func14 rfl ok_frag_sameKey okr_frag_sameKey rfl (by kernel_rfl) ?_
  intro Γ hW0 hN0 hL0
  have hW := hW0 rfl
  clear hW0 hN0 hL0
  unfold x_frag_sameKey r_frag_sameKey
  with_reducible refine auC ?_
  repeat' (first
    | (with_reducible refine auS ?_)
    | fail
    | (with_reducible refine auD ?_)
    | ((with_reducible refine auB ?_ ?_); all_goals first | ((with_reducible intro h); first | exact auH | simp only [h, runR_t, runR_f] | skip) | skip)
    | fail)
  (all_goals first | exact auP | skip)
  all_goals with_reducible refine auF ?_
  all_goals (try first | with_reducible refine auR ?_ | exact auR0)
  all_goals (try simp only [hsM] at *)
  all_goals
    refine dbool ?_
    unfold sameK
    simp [*]
theorem check1_spec (o h : Hp) : Spec Try.prog 28 [dH o, .rptr h.enc] (.v (.bool (sameK o h))) := by
  have h1 := sameKey_spec o h
  refine hspec_fn Try.func28 rfl ok_frag_Check_1 okr_frag_Check_1 rfl (by kernel_rfl) ?_
  intro Γ hW0 hN0 hL0
  have hW := hW0 rfl
  clear hW0 hN0 hL0
  unfold x_frag_Check_1 r_frag_Check_1
  with_reducible refine auC ?_
  repeat' (first
    | (with_reducible refine auS ?_)
    | (with_reducible refine runR_call h1 ?_)
    | (with_reducible refine auD ?_)
    | ((with_reducible refine auB ?_ ?_); all_goals first | ((with_reducible intro h); first | exact auH | simp only [h, runR_t, runR_f] | skip) | skip)
    | fail)
  (all_goals first | exact auP | skip)
  all_goals with_reducible refine auF ?_
  all_goals (try first | with_reducible refine auR ?_ | exact auR0)
  all_goals (try simp only [hsM] at *)
theorem feed1_spec (o h : Hp) : Spec Try.prog 13 [dH o, .rptr h.enc] (.v (.bool (sameK o h))) := by
  have h1 := sameKey_spec o h
  refine hspec_fn Try.func13 rfl ok_frag_Feed_1 okr_frag_Feed_1 rfl (by kernel_rfl) ?_
  intro Γ hW0 hN0 hL0
  have hW := hW0 rfl
  clear hW0 hN0 hL0
  unfold x_frag_Feed_1 r_frag_Feed_1
  with_reducible refine auC ?_
  repeat' (first
    | (with_reducible refine auS ?_)
    | (with_reducible refine runR_call h1 ?_)
    | (with_reducible refine auD ?_)
    | ((with_reducible refine auB ?_ ?_); all_goals first | ((with_reducible intro h); first | exact auH | simp only [h, runR_t, runR_f] | skip) | skip)
    | fail)
  (all_goals first | exact auP | skip)
  all_goals with_reducible refine auF ?_
  all_goals (try first | with_reducible refine auR ?_ | exact auR0)
  all_goals (try simp only [hsM] at *)
def prevP (l : List Pt) (k : Nat) : Option Pt := if k = 0 then none else l[k - 1]?
set_option maxHeartbeats 1000000 in
theorem rightHeap_spec (u : Hp) (hl : u.ps.length ≤ 64) (hd : ∀ p ∈ u.ps, smD p.data.length) (ho : smD u.opt.length) : Spec Try.prog 26 [dH u] (.v (.bool (hpOk u))) := by
  have hch : hpOk u = (chF none u.ps && headOk u) := by rw [chF_none]; rfl
  rw [hch]
  obtain ⟨fr, to, pr, id, tos, life, opt, ps⟩ := u
  dsimp only at *
  refine hspec_fn Try.func26 rfl ok_frag_rightHeap okr_frag_rightHeap rfl (by kernel_rfl) ?_
  intro Γ hW0 hN0 hL0
  have hW := hW0 rfl
  clear hW0 hN0 hL0
  unfold x_frag_rightHeap r_frag_rightHeap
  with_reducible refine auC ?_
  repeat' (first
    | (with_reducible refine auS ?_)
    | fail
    | (with_reducible refine auD ?_)
    | ((with_reducible refine auB ?_ ?_); all_goals first | ((with_reducible intro h); first | exact auH | simp only [h, runR_t, runR_f] | skip) | skip)
    | fail)
  refine go_loopH (α := Nat × Nat) (fun a => [(⟨.d0, .d1, .d0⟩, .v (.int .i64 (a.1 : Nat)))]) (fun _ => [(0, some ⟨Γ.g0, 8, [Hp.enc ⟨fr, to, pr, id, tos, life, opt, ps⟩]⟩), (1, none)]) (fun a => a.2) (fun a => ps.length - a.1) (fun a => a.1 ≤ ps.length ∧ chF none ps = chF (prevP ps a.1) (ps.drop a.1) ∧ ∀ q, prevP ps a.1 = some q → ptOk q = true) (0, Γ.g0 + 1) ⟨Nat.zero_le _, rfl, fun q hq => by cases hq⟩ ?_ ?_
  · skip
    refine le_mk ?_ ?_ (Nat.le_refl _)
    all_goals first | with_reducible refine auE ?_ | exact auE0
    all_goals (repeat' (first | exact trivial | exact rfl | apply And.intro))
  · rintro ⟨k, g⟩ ⟨hk, hp, hq⟩
    dsimp only at hk hp hq ⊢
    with_reducible refine auL ?_
    by_cases hlt : k < ps.length
    · obtain ⟨t, ht⟩ : ∃ t, ps[k]? = some t := ⟨_, List.getElem?_eq_getElem hlt⟩
      have ex := xget_map Pt.enc ps k t ht
      have h1 := rightPart_spec t (hd t (List.mem_of_getElem? ht))
      rw [List.drop_eq_getElem_cons hlt, show ps[k] = t from Option.some.inj ((List.getElem?_eq_getElem hlt).symm.trans ht)] at hp
      simp only [chF] at hp
      have htd := List.mem_of_getElem? ht
      cases hr : ptOk t with
      | false =>
        rw [hr, Bool.false_and, Bool.false_and] at hp
        rw [hr] at h1
        repeat' (first
          | (with_reducible refine auS ?_)
          | (with_reducible refine runR_call h1 ?_)
          | (with_reducible refine auD ?_)
          | ((with_reducible refine auB ?_ ?_); all_goals first | ((with_reducible intro h); first | exact auH | simp only [h, runR_t, runR_f] | skip) | skip)
          | (simp only [Int.toNat_natCast, ex]))
        (all_goals first | exact auP | skip)
        all_goals with_reducible refine auF ?_
        all_goals (try first | with_reducible refine auR ?_ | exact auR0)
        all_goals (try simp only [hsM] at *)
        rw [hp]
        rfl
      | true =>
      rw [hr, Bool.true_and] at hp
      rw [hr] at h1
      have hn1 : prevP ps (k + 1) = some t := by unfold prevP; rw [if_neg (by omega)]; exact ht
      by_cases h0 : k = 0
      · subst h0
        have hpp : prevP ps 0 = none := rfl
        rw [hpp, Bool.true_and] at hp
        repeat' (first
          | (with_reducible refine auS ?_)
          | (with_reducible refine runR_call h1 ?_)
          | (with_reducible refine auD ?_)
          | ((with_reducible refine auB ?_ ?_); all_goals first | ((with_reducible intro h); first | exact auH | simp only [h, runR_t, runR_f] | skip) | skip)
          | (simp only [Int.toNat_natCast, ex]))
        (all_goals first | exact auP | skip)
        refine nx_loop ⟨(1, g + 1), ⟨by omega, by dsimp only; rw [hn1]; exact hp, fun q hq' => by rw [hn1] at hq'; obtain rfl := Option.some.inj hq'; exact hr⟩, by dsimp only; omega, ?_⟩
        refine le_mk ?_ ?_ (Nat.le_refl _)
        all_goals first | with_reducible refine auE ?_ | exact auE0
        all_goals (repeat' (first | exact trivial | exact rfl | apply And.intro))
        all_goals first
          | exact dint ((IntWalk.i64_in _ (by omega)).trans (by omega))
          | rfl
      · obtain ⟨⟨qa, qd, ql⟩, hq1⟩ : ∃ q, ps[k - 1]? = some q := ⟨_, List.getElem?_eq_getElem (by omega)⟩
        have hpp : prevP ps k = some ⟨qa, qd, ql⟩ := by unfold prevP; rw [if_neg h0]; exact hq1
        have ex2 := xget_map Pt.enc ps (k - 1) ⟨qa, qd, ql⟩ hq1
        have hqo := ptOk_fact (hq _ hpp)
        have h2 := end_spec ⟨qa, qd, ql⟩ ⟨hqo.2.1, hqo.2.2.2.1⟩ (hd _ (List.mem_of_getElem? hq1))
        have e1 : IntKind.i64.wrap ((k : Int) - 1) = ((k - 1 : Nat) : Int) := by rw [IntWalk.i64_in _ (by omega)]; omega
        have hlt1 : k - 1 < ps.length := by omega
        rw [hpp] at hp
        dsimp only at hp h2
        clear hq
        generalize Pt.fin ⟨qa, qd, ql⟩ = qf at *
        cases ql with
        | true =>
          rw [Bool.not_true, Bool.false_and, Bool.false_and] at hp
          repeat' (first
            | (with_reducible refine auS ?_)
            | (first | (with_reducible refine runR_call h1 ?_) | (with_reducible refine runR_call h2 ?_) | simp only [e1])
            | (with_reducible refine auD ?_)
            | ((with_reducible refine auB ?_ ?_); all_goals first | ((with_reducible intro h); first | exact auH | simp only [h, runR_t, runR_f] | skip) | skip)
            | (simp only [Int.toNat_natCast, ex, ex2]))
          (all_goals first | exact auP | skip)
          all_goals with_reducible refine auF ?_
          all_goals (try first | with_reducible refine auR ?_ | exact auR0)
          all_goals (try simp only [hsM] at *)
          rw [hp]
          rfl
        | false =>
          rw [Bool.not_false, Bool.true_and] at hp
          by_cases hle : qf ≤ t.at'
          · rw [decide_eq_true hle, Bool.true_and] at hp
            repeat' (first
              | (with_reducible refine auS ?_)
              | (first | (with_reducible refine runR_call h1 ?_) | (with_reducible refine runR_call h2 ?_) | simp only [e1])
              | (with_reducible refine auD ?_)
              | ((with_reducible refine auB ?_ ?_); all_goals first | ((with_reducible intro h); first | exact auH | simp only [h, runR_t, runR_f] | skip) | skip)
              | (simp only [Int.toNat_natCast, ex, ex2]))
            (all_goals first | exact auP | skip)
            refine nx_loop ⟨(k + 1, g + 1), ⟨hlt, by dsimp only; rw [hn1]; exact hp, fun q hq' => by rw [hn1] at hq'; obtain rfl := Option.some.inj hq'; exact hr⟩, by dsimp only; omega, ?_⟩
            refine le_mk ?_ ?_ (Nat.le_refl _)
            all_goals first | with_reducible refine auE ?_ | exact auE0
            all_goals (repeat' (first | exact trivial | exact rfl | apply And.intro))
            all_goals first
              | exact dint ((IntWalk.i64_in _ (by omega)).trans (by omega))
              | rfl
          · rw [decide_eq_false hle, Bool.false_and] at hp
            repeat' (first
              | (with_reducible refine auS ?_)
              | (first | (with_reducible refine runR_call h1 ?_) | (with_reducible refine runR_call h2 ?_) | simp only [e1])
              | (with_reducible refine auD ?_)
              | ((with_reducible refine auB ?_ ?_); all_goals first | ((with_reducible intro h); first | exact auH | simp only [h, runR_t, runR_f] | skip) | skip)
              | (simp only [Int.toNat_natCast, ex, ex2]))
            (all_goals first | exact auP | skip)
            all_goals with_reducible refine auF ?_
            all_goals (try first | with_reducible refine auR ?_ | exact auR0)
            all_goals (try simp only [hsM] at *)
            rw [hp]
            rfl
    · obtain rfl : k = ps.length := by omega
      rw [List.drop_length] at hp
      rw [hp]
      have hoo := mkS_nil opt
      clear hp hq
      cases ps with
      | nil =>
        repeat' (first
          | (with_reducible refine auS ?_)
          | fail
          | (with_reducible refine auD ?_)
          | ((with_reducible refine auB ?_ ?_); all_goals first | ((with_reducible intro h); first | exact auH | simp only [h, runR_t, runR_f] | skip) | skip)
          | fail)
        (all_goals first | exact auP | skip)
        all_goals first | (exfalso; simp at h; done) | skip
        all_goals with_reducible refine auF ?_
        all_goals (try first | with_reducible refine auR ?_ | exact auR0)
        all_goals (try simp only [hsM] at *)
        all_goals rfl
      | cons p r =>
        have ex0 : xget ((p :: r).map Pt.enc) 0 = p.enc := rfl
        repeat' (first
          | (with_reducible refine auS ?_)
          | fail
          | (with_reducible refine auD ?_)
          | ((with_reducible refine auB ?_ ?_); all_goals first | ((with_reducible intro h); first | exact auH | simp only [h, runR_t, runR_f] | skip) | skip)
          | (simp only [Int.toNat_zero, ex0]))
        (all_goals first | exact auP | skip)
        all_goals first | (exfalso; simp at h; done) | skip
        all_goals with_reducible refine auF ?_
        all_goals (try first | with_reducible refine auR ?_ | exact auR0)
        all_goals (try simp only [hsM] at *)
        all_goals first | (exfalso; simp at h; done) | (exfalso; simp at h; omega; done) | skip
        all_goals
          simp only [mkS_nil] at *
          refine dbool ?_
          unfold headOk
          simp [chF, *]
abbrev PoolSm (l : List Hp) : Prop := ∀ u ∈ l, smD u.opt.length ∧ ∀ p ∈ u.ps, smD p.data.length
set_option maxHeartbeats 1000000 in
theorem poolcheck_spec (l : List Hp) (hl : l.length ≤ maxLen) (hps : ∀ u ∈ l, u.ps.length ≤ maxLen) (hsm : PoolSm l) : Spec Try.prog 6 [dPool l] (.v (.int .i64 (poolErr l))) := by
  unfold maxLen at hl hps
  by_cases h16 : 16 < l.length
  · rw [show poolErr l = 2 by unfold poolErr; rw [if_pos h16]]
    refine hspec_fn Try.func6 rfl ok_frag_Check okr_frag_Check rfl (by kernel_rfl) ?_
    intro Γ hW0 hN0 hL0
    have hW := hW0 rfl
    clear hW0 hN0 hL0
    unfold x_frag_Check r_frag_Check
    with_reducible refine auC ?_
    repeat' (first
      | (with_reducible refine auS ?_)
      | fail
      | (with_reducible refine auD ?_)
      | ((with_reducible refine auB ?_ ?_); all_goals first | ((with_reducible intro h); first | exact auH | simp only [h, runR_t, runR_f] | skip) | skip)
      | fail)
    (all_goals first | exact auP | skip)
    all_goals with_reducible refine auF ?_
    all_goals (try first | with_reducible refine auR ?_ | exact auR0)
    all_goals (try simp only [hsM] at *)
  rw [show poolErr l = if bigB l = true then 2 else if goodG poolOk [] l = true then 0 else 4 by unfold poolErr; rw [if_neg h16]]
  refine hspec_fn Try.func6 rfl ok_frag_Check okr_frag_Check rfl (by kernel_rfl) ?_
  intro Γ hW0 hN0 hL0
  have hW := hW0 rfl
  clear hW0 hN0 hL0
  unfold x_frag_Check r_frag_Check
  with_reducible refine auC ?_
  repeat' (first
    | (with_reducible refine auS ?_)
    | fail
    | (with_reducible refine auD ?_)
    | ((with_reducible refine auB ?_ ?_); all_goals first | ((with_reducible intro h); first | exact auH | simp only [h, runR_t, runR_f] | skip) | skip)
    | fail)
  (all_goals first | exact auP | skip)
  refine go_loopH (α := Nat × Nat) (fun a => [(⟨.d0, .d1, .d4⟩, .v (.int .i64 (a.1 : Nat)))]) (fun _ => [(0, none)]) (fun a => a.2) (fun a => l.length - a.1) (fun a => a.1 ≤ l.length ∧ bigB l = bigB (l.drop a.1)) (0, Γ.g0) ⟨Nat.zero_le _, rfl⟩ ?_ ?_
  · skip
    refine le_mk ?_ ?_ (Nat.le_refl _)
    all_goals first | with_reducible refine auE ?_ | exact auE0
    all_goals (repeat' (first | exact trivial | exact rfl | apply And.intro))
  rintro ⟨k, g⟩ ⟨hk, hp⟩
  dsimp only at hk hp ⊢
  with_reducible refine auL ?_
  by_cases hlt : k < l.length
  · obtain ⟨t, ht⟩ : ∃ t, l[k]? = some t := ⟨_, List.getElem?_eq_getElem hlt⟩
    have ex := xget_map Hp.enc l k t ht
    have htp := hps t (List.mem_of_getElem? ht)
    rw [List.drop_eq_getElem_cons hlt, show l[k] = t from Option.some.inj ((List.getElem?_eq_getElem hlt).symm.trans ht)] at hp
    by_cases hbig : 64 < t.ps.length
    · have hp2 : bigB l = true := by rw [hp]; simp [bigB, hbig]
      rw [if_pos hp2]
      repeat' (first
        | (with_reducible refine auS ?_)
        | fail
        | (with_reducible refine auD ?_)
        | ((with_reducible refine auB ?_ ?_); all_goals first | ((with_reducible intro h); first | exact auH | simp only [h, runR_t, runR_f] | skip) | skip)
        | (simp only [Int.toNat_natCast, ex]))
      (all_goals first | exact auP | skip)
      all_goals with_reducible refine auF ?_
      all_goals (try first | with_reducible refine auR ?_ | exact auR0)
      all_goals (try simp only [hsM] at *)
    · have hp2 : bigB l = bigB (l.drop (k + 1)) := by rw [hp]; simp [bigB, hbig]
      repeat' (first
        | (with_reducible refine auS ?_)
        | fail
        | (with_reducible refine auD ?_)
        | ((with_reducible refine auB ?_ ?_); all_goals first | ((with_reducible intro h); first | exact auH | simp only [h, runR_t, runR_f] | skip) | skip)
        | (simp only [Int.toNat_natCast, ex]))
      (all_goals first | exact auP | skip)
      refine nx_loop ⟨(k + 1, g + 1), ⟨hlt, hp2⟩, by dsimp only; omega, ?_⟩
      refine le_mk ?_ ?_ (Nat.le_refl _)
      all_goals first | with_reducible refine auE ?_ | exact auE0
      all_goals (repeat' (first | exact trivial | exact rfl | apply And.intro))
      all_goals first
        | exact dint ((IntWalk.i64_in _ (by omega)).trans (by omega))
        | rfl
  obtain rfl : k = l.length := by omega
  rw [List.drop_length] at hp
  have hb0 : bigB l = false := hp
  have hsz : ∀ u ∈ l, u.ps.length ≤ 64 := fun u hu => by
    unfold bigB at hb0
    have := List.any_eq_false.1 hb0 u hu
    simpa using this
  rw [if_neg (by rw [hb0]; decide)]
  clear hp hk
  repeat' (first
    | (with_reducible refine auS ?_)
    | fail
    | (with_reducible refine auD ?_)
    | ((with_reducible refine auB ?_ ?_); all_goals first | ((with_reducible intro h); first | exact auH | simp only [h, runR_t, runR_f] | skip) | skip)
    | fail)
  (all_goals first | exact auP | skip)
  refine go_loopH (α := Nat × Nat) (fun a => [(⟨.d0, .d2, .d7⟩, .v (.int .i64 (a.1 : Nat)))]) (fun _ => [(0, none), (1, none)]) (fun a => a.2) (fun a => l.length - a.1) (fun a => a.1 ≤ l.length ∧ goodG poolOk [] l = goodG poolOk (l.take a.1) (l.drop a.1)) (0, g) ⟨Nat.zero_le _, rfl⟩ ?_ ?_
  · skip
    refine le_mk ?_ ?_ (Nat.le_refl _)
    all_goals first | with_reducible refine auE ?_ | exact auE0
    all_goals (repeat' (first | exact trivial | exact rfl | apply And.intro))
  rintro ⟨k, g⟩ ⟨hk, hp⟩
  dsimp only at hk hp ⊢
  with_reducible refine auL ?_
  by_cases hlt : k < l.length
  · obtain ⟨t, ht⟩ : ∃ t, l[k]? = some t := ⟨_, List.getElem?_eq_getElem hlt⟩
    have ex := xget_map Hp.enc l k t ht
    have htm := List.mem_of_getElem? ht
    have h1 := rightHeap_spec t (hsz t htm) (hsm t htm).2 (hsm t htm).1
    have h2 := fun c => containsH_spec (g := 28) (caps := [.rptr t.enc]) (fun o => sameK o t) (l.take k) c (by rw [List.length_take]; unfold maxLen; omega) (fun o _ => check1_spec o t)
    have hxt : xtake (xdrop (l.map Hp.enc) 0) ((k : Int) - 0).toNat = (l.take k).map Hp.enc := by
      rw [xtake_eq, xdrop_eq, List.drop_zero, List.map_take]
      congr 1
    cases hok : poolOk (l.take k) t with
    | true =>
      have hp2 := goodG_next ht hp hok
      unfold poolOk at hok
      simp only [Bool.and_eq_true, Bool.not_eq_true'] at hok
      rw [hok.1] at h1
      simp only [hok.2] at h2
      clear hp
      repeat' (first
        | (refine go_leG (leG_freezeP hW ⟨.d0, .d0, .d6⟩ rfl rfl ⟨rfl, rfl, Nat.succ_pos _⟩) ?_)
        | (with_reducible refine auS ?_)
        | (first | (with_reducible refine runR_call h1 ?_) | simp only [hxt] | (with_reducible refine runR_call (h2 _) ?_))
        | (with_reducible refine auD ?_)
        | ((with_reducible refine auB ?_ ?_); all_goals first | ((with_reducible intro h); first | exact auH | simp only [h, runR_t, runR_f] | skip) | skip)
        | (simp only [Int.toNat_natCast, ex]))
      (all_goals first | exact auP | skip)
      refine nx_loop ⟨(k + 1, g + 1), ⟨hlt, hp2⟩, by dsimp only; omega, ?_⟩
      refine le_mk ?_ ?_ (Nat.le_refl _)
      all_goals first | with_reducible refine auE ?_ | exact auE0
      all_goals (repeat' (first | exact trivial | exact rfl | apply And.intro))
      all_goals first
        | exact dint ((IntWalk.i64_in _ (by omega)).trans (by omega))
        | rfl
    | false =>
      have hp2 := goodG_bad ht hp hok
      rw [hp2]
      unfold poolOk at hok
      clear hp hp2
      cases hq : hpOk t with
      | false =>
        rw [hq] at h1
        repeat' (first
          | (refine go_leG (leG_freezeP hW ⟨.d0, .d0, .d6⟩ rfl rfl ⟨rfl, rfl, Nat.succ_pos _⟩) ?_)
          | (with_reducible refine auS ?_)
          | (first | (with_reducible refine runR_call h1 ?_))
          | (with_reducible refine auD ?_)
          | ((with_reducible refine auB ?_ ?_); all_goals first | ((with_reducible intro h); first | exact auH | simp only [h, runR_t, runR_f] | skip) | skip)
          | (simp only [Int.toNat_natCast, ex]))
        (all_goals first | exact auP | skip)
        all_goals with_reducible refine auF ?_
        all_goals (try first | with_reducible refine auR ?_ | exact auR0)
        all_goals (try simp only [hsM] at *)
        all_goals rfl
      | true =>
        rw [hq] at h1
        have hq2 : (l.take k).any (fun o => sameK o t) = true := by rw [hq] at hok; simpa using hok
        simp only [hq2] at h2
        clear hok
        repeat' (first
          | (refine go_leG (leG_freezeP hW ⟨.d0, .d0, .d6⟩ rfl rfl ⟨rfl, rfl, Nat.succ_pos _⟩) ?_)
          | (with_reducible refine auS ?_)
          | (first | (with_reducible refine runR_call h1 ?_) | simp only [hxt] | (with_reducible refine runR_call (h2 _) ?_))
          | (with_reducible refine auD ?_)
          | ((with_reducible refine auB ?_ ?_); all_goals first | ((with_reducible intro h); first | exact auH | simp only [h, runR_t, runR_f] | skip) | skip)
          | (simp only [Int.toNat_natCast, ex]))
        (all_goals first | exact auP | skip)
        all_goals with_reducible refine auF ?_
        all_goals (try first | with_reducible refine auR ?_ | exact auR0)
        all_goals (try simp only [hsM] at *)
        all_goals rfl
  · obtain rfl : k = l.length := by omega
    rw [List.drop_length, List.take_length] at hp
    rw [hp]
    repeat' (first
      | (with_reducible refine auS ?_)
      | fail
      | (with_reducible refine auD ?_)
      | ((with_reducible refine auB ?_ ?_); all_goals first | ((with_reducible intro h); first | exact auH | simp only [h, runR_t, runR_f] | skip) | skip)
      | fail)
    (all_goals first | exact auP | skip)
    all_goals with_reducible refine auF ?_
    all_goals (try first | with_reducible refine auR ?_ | exact auR0)
    all_goals (try simp only [hsM] at *)
    all_goals rfl
end Go.Proofs.Ytidogmmfakcfgaa
