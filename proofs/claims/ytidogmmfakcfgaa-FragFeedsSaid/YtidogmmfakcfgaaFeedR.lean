/-
  Is it a pool: the reference's PoolRight; a pool without one heap.
-/
import Derived.Test.YtidogmmfakcfgaaFeedK
namespace Go.Proofs.Ytidogmmfakcfgaa
set_option linter.unusedVariables false
set_option linter.unusedSimpArgs false
theorem right1_spec (u : Hp) : Spec Try.prog 29 [dH u] (.v (.bool (decide (64 < u.ps.length)))) := by
  refine hspec_fn Try.func29 rfl ok_custref_PoolRight_1 okr_custref_PoolRight_1 rfl (by kernel_rfl) ?_
  intro Γ hW0 hN0 hL0
  have hW := hW0 rfl
  clear hW0 hN0 hL0
  unfold x_custref_PoolRight_1 r_custref_PoolRight_1
  with_reducible refine auC ?_
  repeat' (first
    | (with_reducible refine auS ?_)
    | fail
    | (with_reducible refine auD ?_)
    | ((with_reducible refine auB ?_ ?_); all_goals first | ((with_reducible intro h); first | exact auH | simp only [h, runR_t, runR_f] | skip) | skip)
    | fail)
  (all_goals first | exact auP | skip)
  all_goals with_reducible refine auF ?_
  all_goals (try first | with_reducible refine auR ?_ | exact auR0)
  all_goals (try simp only [hsM] at *)
  all_goals
    refine dbool ?_
    simp
    try omega
theorem poolright_bad (l : List Hp) (hl : l.length ≤ maxLen) (h : 16 < l.length ∨ bigB l = true) : Spec Try.prog 7 [dPool l] (.v (.int .i64 (poolErr l))) := by
  have hc := containsH_spec (g := 29) (caps := []) (fun u => decide (64 < u.ps.length)) l false hl (fun t _ => right1_spec t)
  unfold maxLen at hl
  by_cases h16 : 16 < l.length
  · rw [show poolErr l = 2 by unfold poolErr; rw [if_pos h16]]
    refine hspec_fn Try.func7 rfl ok_custref_PoolRight okr_custref_PoolRight rfl (by kernel_rfl) ?_
    intro Γ hW0 hN0 hL0
    have hW := hW0 rfl
    clear hW0 hN0 hL0
    unfold x_custref_PoolRight r_custref_PoolRight
    with_reducible refine auC ?_
    repeat' (first
      | (with_reducible refine auS ?_)
      | fail
      | (with_reducible refine auD ?_)
      | ((with_reducible refine auB ?_ ?_); all_goals first | ((with_reducible intro h); first | exact auH | simp only [h, runR_t, runR_f] | skip) | skip)
      | fail)
    (all_goals first | exact auP | skip)
    all_goals with_reducible refine auF ?_
    all_goals (try first | with_reducible refine auR ?_ | exact auR0)
    all_goals (try simp only [hsM] at *)
  · have hb : bigB l = true := h.resolve_left h16
    rw [show poolErr l = 2 by unfold poolErr; rw [if_neg h16, if_pos hb]]
    unfold bigB at hb
    rw [hb] at hc
    refine hspec_fn Try.func7 rfl ok_custref_PoolRight okr_custref_PoolRight rfl (by kernel_rfl) ?_
    intro Γ hW0 hN0 hL0
    have hW := hW0 rfl
    clear hW0 hN0 hL0
    unfold x_custref_PoolRight r_custref_PoolRight
    with_reducible refine auC ?_
    repeat' (first
      | (with_reducible refine auS ?_)
      | (with_reducible refine runR_call hc ?_)
      | (with_reducible refine auD ?_)
      | ((with_reducible refine auB ?_ ?_); all_goals first | ((with_reducible intro h); first | exact auH | simp only [h, runR_t, runR_f] | skip) | skip)
      | fail)
    (all_goals first | exact auP | skip)
    all_goals with_reducible refine auF ?_
    all_goals (try first | with_reducible refine auR ?_ | exact auR0)
    all_goals (try simp only [hsM] at *)
def badP (ta : Int) (td : B8) (tl : Bool) (m : Nat) (a : Int) : Prop := td = [] ∨ ta < a ∨ ¬ ta % 8 = 0 ∨ 65515 < ta ∨ 65515 < ta + (td.length : Nat) ∨ (tl = false ∧ 0 < td.length % 8) ∨ (tl = true ∧ 0 < m)
theorem step_or (ta : Int) (td : B8) (tl : Bool) (r : List Pt) (a : Int) (ha : 0 ≤ a) : (badP ta td tl r.length a ∧ chR (⟨ta, td, tl⟩ :: r) a = false) ∨ (td ≠ [] ∧ a ≤ ta ∧ ta % 8 = 0 ∧ ta ≤ 65515 ∧ ta + (td.length : Nat) ≤ 65515 ∧ (tl = false → td.length % 8 = 0) ∧ (tl = true → r.length = 0) ∧ chR (⟨ta, td, tl⟩ :: r) a = chR r (ta + (td.length : Nat))) := by
  have e : Pt.fin ⟨ta, td, tl⟩ = ta + (td.length : Nat) := rfl
  unfold badP
  simp only [chR, ptOk, e]
  by_cases c1 : td = []
  · exact .inl ⟨.inl c1, by simp [c1]⟩
  by_cases c7 : ta < a
  · exact .inl ⟨.inr (.inl c7), by have : ¬ a ≤ ta := by omega
                                   simp [this]⟩
  by_cases c3 : ta % 8 = 0
  rotate_left
  · exact .inl ⟨.inr (.inr (.inl c3)), by simp [c3]⟩
  by_cases c4 : 65515 < ta
  · exact .inl ⟨.inr (.inr (.inr (.inl c4))), by have : ¬ ta ≤ 65515 := by omega
                                                 simp [this]⟩
  by_cases c5 : 65515 < ta + (td.length : Nat)
  · exact .inl ⟨.inr (.inr (.inr (.inr (.inl c5)))), by have : ¬ ta + (td.length : Int) ≤ 65515 := by omega
                                                        simp [this]⟩
  have d2 : 0 ≤ ta := by omega
  have d4 : ta ≤ 65515 := by omega
  have d5 : ta + (td.length : Int) ≤ 65515 := by omega
  have d7 : a ≤ ta := by omega
  cases tl with
  | false =>
    by_cases c6 : 0 < td.length % 8
    · have : ¬ td.length % 8 = 0 := by omega
      exact .inl ⟨.inr (.inr (.inr (.inr (.inr (.inl ⟨rfl, c6⟩))))), by simp [this]⟩
    · have d6 : td.length % 8 = 0 := by omega
      exact .inr ⟨c1, d7, c3, d4, d5, fun _ => d6, fun q => by (cases q), by simp [c1, d2, c3, d4, d5, d6, d7]⟩
  | true =>
    cases r with
    | nil => exact .inr ⟨c1, d7, c3, d4, d5, fun q => by (cases q), fun _ => rfl, by simp [c1, d2, c3, d4, d5, d7]⟩
    | cons q r => exact .inl ⟨.inr (.inr (.inr (.inr (.inr (.inr ⟨rfl, by simp⟩))))), by simp⟩
set_option maxHeartbeats 4000000 in
theorem poolright_spec (l : List Hp) (hl : l.length ≤ maxLen) (hps : ∀ u ∈ l, u.ps.length ≤ maxLen) (hsm : PoolSm l) : Spec Try.prog 7 [dPool l] (.v (.int .i64 (poolErr l))) := by
  by_cases hbad : 16 < l.length ∨ bigB l = true
  · exact poolright_bad l hl hbad
  have h16 : ¬ 16 < l.length := fun q => hbad (.inl q)
  have hbig : bigB l = false := by
    cases hq : bigB l with
    | false => rfl
    | true => exact absurd (.inr hq) hbad
  have hc := containsH_spec (g := 29) (caps := []) (fun u => decide (64 < u.ps.length)) l false hl (fun t _ => right1_spec t)
  rw [show l.any (fun u => decide (64 < u.ps.length)) = false from hbig] at hc
  have hsz : ∀ u ∈ l, u.ps.length ≤ 64 := fun u hu => by
    unfold bigB at hbig
    have := List.any_eq_false.1 hbig u hu
    simpa using this
  rw [show poolErr l = if goodG poolOk [] l = true then 0 else 4 by unfold poolErr; rw [if_neg h16, if_neg (by rw [hbig]; decide)]]
  clear hbad hbig hps
  unfold maxLen at hl
  refine hspec_fn Try.func7 rfl ok_custref_PoolRight okr_custref_PoolRight rfl (by kernel_rfl) ?_
  intro Γ hW0 hN0 hL0
  have hW := hW0 rfl
  clear hW0 hN0 hL0
  unfold x_custref_PoolRight r_custref_PoolRight
  with_reducible refine auC ?_
  repeat' (first
    | (with_reducible refine auS ?_)
    | (with_reducible refine runR_call hc ?_)
    | (with_reducible refine auD ?_)
    | ((with_reducible refine auB ?_ ?_); all_goals first | ((with_reducible intro h); first | exact auH | simp only [h, runR_t, runR_f] | skip) | skip)
    | fail)
  (all_goals first | exact auP | skip)
  refine go_loopH (α := Nat × Nat) (fun a => [(⟨.d0, .d2, .d4⟩, .v (.int .i64 (a.1 : Nat)))]) (fun _ => [(0, none), (1, none), (2, none)]) (fun a => a.2) (fun a => l.length - a.1) (fun a => a.1 ≤ l.length ∧ goodG poolOk [] l = goodG poolOk (l.take a.1) (l.drop a.1)) (0, Γ.g0) ⟨Nat.zero_le _, rfl⟩ ?_ ?_
  · skip
    refine le_mk ?_ ?_ (Nat.le_refl _)
    all_goals first | with_reducible refine auE ?_ | exact auE0
    all_goals (repeat' (first | exact trivial | exact rfl | apply And.intro))
  rintro ⟨k, g⟩ ⟨hk, hp⟩
  dsimp only at hk hp ⊢
  with_reducible refine auL ?_
  by_cases hlt : k < l.length
  rotate_left
  · obtain rfl : k = l.length := by omega
    rw [List.drop_length, List.take_length] at hp
    rw [hp]
    repeat' (first
      | (with_reducible refine auS ?_)
      | fail
      | (with_reducible refine auD ?_)
      | ((with_reducible refine auB ?_ ?_); all_goals first | ((with_reducible intro h); first | exact auH | simp only [h, runR_t, runR_f] | skip) | skip)
      | fail)
    (all_goals first | exact auP | skip)
    all_goals with_reducible refine auF ?_
    all_goals (try first | with_reducible refine auR ?_ | exact auR0)
    all_goals (try simp only [hsM] at *)
    all_goals rfl
  obtain ⟨t, ht⟩ : ∃ t, l[k]? = some t := ⟨_, List.getElem?_eq_getElem hlt⟩
  have ex := xget_map Hp.enc l k t ht
  have htm := List.mem_of_getElem? ht
  have htl := hsz t htm
  have htd := (hsm t htm).2
  have hgood := fun h => goodG_next ht hp h
  have hbad := fun h => goodG_bad ht hp h
  clear hp
  obtain ⟨fr, to, pr, id, tos, life, opt, ps⟩ := t
  dsimp only at htl htd
  repeat' (first
    | (with_reducible refine auS ?_)
    | fail
    | (with_reducible refine auD ?_)
    | ((with_reducible refine auB ?_ ?_); all_goals first | ((with_reducible intro h); first | exact auH | simp only [h, runR_t, runR_f] | skip) | skip)
    | (simp only [Int.toNat_natCast, ex]))
  (all_goals first | exact auP | skip)
  refine go_loopH (α := Nat × Int × Nat) (fun a => [(⟨.d0, .d3, .d4⟩, .v (.int .i64 (a.1 : Nat))), (⟨.d0, .d0, .d5⟩, .v (.int .i64 a.2.1))]) (fun _ => [(0, some ⟨g, 8, [Hp.enc ⟨fr, to, pr, id, tos, life, opt, ps⟩]⟩), (1, none), (2, none)]) (fun a => a.2.2) (fun a => ps.length - a.1) (fun a => a.1 ≤ ps.length ∧ chR ps 0 = chR (ps.drop a.1) a.2.1 ∧ 0 ≤ a.2.1) (0, 0, g + 1) ⟨Nat.zero_le _, rfl, Int.le_refl _⟩ ?_ ?_
  · skip
    refine le_mk ?_ ?_ (Nat.le_refl _)
    all_goals first | with_reducible refine auE ?_ | exact auE0
    all_goals (repeat' (first | exact trivial | exact rfl | apply And.intro))
  rintro ⟨j, a, g2⟩ ⟨hj, hp, ha⟩
  dsimp only at hj hp ha ⊢
  with_reducible refine auL ?_
  by_cases hjl : j < ps.length
  · obtain ⟨⟨ta, td, tl⟩, htj⟩ : ∃ t, ps[j]? = some t := ⟨_, List.getElem?_eq_getElem hjl⟩
    have ex2 := xget_map Pt.enc ps j ⟨ta, td, tl⟩ htj
    have htdl : td.length ≤ 140737488351232 := htd _ (List.mem_of_getElem? htj)
    have hm2 := len_mod8 td.length
    have hwj : IntKind.i64.wrap ((j : Int) + 1) = ((j + 1 : Nat) : Int) := (IntWalk.i64_in _ (by omega)).trans (by omega)
    rw [List.drop_eq_getElem_cons hjl, show ps[j] = ⟨ta, td, tl⟩ from Option.some.inj ((List.getElem?_eq_getElem hjl).symm.trans htj)] at hp
    have hso := step_or ta td tl (ps.drop (j + 1)) a ha
    rw [List.length_drop] at hso
    have hnil : (mkS td = { data := #[] }) = (td = []) := propext (mkS_nil td)
    clear ex htd hc hsz
    rcases hso with ⟨hb, hq⟩ | ⟨c1, c2, c3, c4, c5, c6, c7, hq⟩
    · have hE : goodG poolOk [] l = false := hbad (by
        unfold poolOk hpOk
        dsimp only
        rw [hp, hq]
        rfl)
      rw [hE]
      clear hgood hbad hp hq hE
      by_cases h0 : td = []
      · have hsb : (mkS td = { data := #[] }) = True := by rw [hnil]; exact eq_true h0
        repeat' (first
          | (with_reducible refine auS ?_)
          | (simp only [hsb, not_true_eq_false, decide_false, decide_true, bnt, bnf])
          | (with_reducible refine auD ?_)
          | ((with_reducible refine auB ?_ ?_); all_goals first | ((with_reducible intro h); first | exact auH | simp only [h, runR_t, runR_f] | skip) | skip)
          | (simp only [Int.toNat_natCast, ex2]))
        (all_goals first | exact auP | skip)
        all_goals with_reducible refine auF ?_
        all_goals (try first | with_reducible refine auR ?_ | exact auR0)
        all_goals (try simp only [hsM] at *)
        all_goals rfl
      have hsb : (mkS td = { data := #[] }) = False := by rw [hnil]; exact eq_false h0
      by_cases h7 : ta < a
      · skip
        repeat' (first
          | (with_reducible refine auS ?_)
          | (simp only [hsb, not_false_eq_true, decide_false, decide_true, bnt, bnf])
          | (with_reducible refine auD ?_)
          | ((with_reducible refine auB ?_ ?_); all_goals first | ((with_reducible intro h); first | exact auH | simp only [h, runR_t, runR_f] | skip) | skip)
          | (simp only [Int.toNat_natCast, ex2]))
        (all_goals first | exact auP | skip)
        all_goals with_reducible refine auF ?_
        all_goals (try first | with_reducible refine auR ?_ | exact auR0)
        all_goals (try simp only [hsM] at *)
        all_goals rfl
      have hm : ta.tmod 8 = ta % 8 := Int.tmod_eq_emod_of_nonneg (by omega)
      by_cases h3 : ta % 8 = 0
      rotate_left
      · skip
        repeat' (first
          | (with_reducible refine auS ?_)
          | (simp only [hsb, not_false_eq_true, decide_false, decide_true, bnt, bnf, hm])
          | (with_reducible refine auD ?_)
          | ((with_reducible refine auB ?_ ?_); all_goals first | ((with_reducible intro h); first | exact auH | simp only [h, runR_t, runR_f] | skip) | skip)
          | (simp only [Int.toNat_natCast, ex2]))
        (all_goals first | exact auP | skip)
        all_goals with_reducible refine auF ?_
        all_goals (try first | with_reducible refine auR ?_ | exact auR0)
        all_goals (try simp only [hsM] at *)
        all_goals rfl
      by_cases h4 : 65515 < ta
      · skip
        repeat' (first
          | (with_reducible refine auS ?_)
          | (simp only [hsb, not_false_eq_true, decide_false, decide_true, bnt, bnf, hm])
          | (with_reducible refine auD ?_)
          | ((with_reducible refine auB ?_ ?_); all_goals first | ((with_reducible intro h); first | exact auH | simp only [h, runR_t, runR_f] | skip) | skip)
          | (simp only [Int.toNat_natCast, ex2]))
        (all_goals first | exact auP | skip)
        all_goals with_reducible refine auF ?_
        all_goals (try first | with_reducible refine auR ?_ | exact auR0)
        all_goals (try simp only [hsM] at *)
        all_goals rfl
      have hw5 : IntKind.i64.wrap (ta + (td.length : Nat)) = ta + (td.length : Nat) := IntWalk.i64_in _ (by omega)
      by_cases h5 : 65515 < ta + (td.length : Nat)
      · skip
        repeat' (first
          | (with_reducible refine auS ?_)
          | (simp only [hsb, not_false_eq_true, decide_false, decide_true, bnt, bnf, hm, mkS_size, hw5])
          | (with_reducible refine auD ?_)
          | ((with_reducible refine auB ?_ ?_); all_goals first | ((with_reducible intro h); first | exact auH | simp only [h, runR_t, runR_f] | skip) | skip)
          | (simp only [Int.toNat_natCast, ex2]))
        (all_goals first | exact auP | skip)
        all_goals with_reducible refine auF ?_
        all_goals (try first | with_reducible refine auR ?_ | exact auR0)
        all_goals (try simp only [hsM] at *)
        all_goals rfl
      cases tl with
      | false =>
        have c6 : 0 < td.length % 8 := by
          rcases hb with q | q | q | q | q | q | q
          · exact absurd q h0
          · exact absurd q h7
          · exact absurd h3 q
          · exact absurd q h4
          · exact absurd q h5
          · exact q.2
          · cases q.1
        repeat' (first
          | (with_reducible refine auS ?_)
          | (simp only [hsb, not_false_eq_true, decide_false, decide_true, bnt, bnf, hm, mkS_size, hw5, hm2])
          | (with_reducible refine auD ?_)
          | ((with_reducible refine auB ?_ ?_); all_goals first | ((with_reducible intro h); first | exact auH | simp only [h, runR_t, runR_f] | skip) | skip)
          | (simp only [Int.toNat_natCast, ex2]))
        (all_goals first | exact auP | skip)
        all_goals with_reducible refine auF ?_
        all_goals (try first | with_reducible refine auR ?_ | exact auR0)
        all_goals (try simp only [hsM] at *)
        all_goals rfl
      | true =>
        have c7 : 0 < ps.length - (j + 1) := by
          rcases hb with q | q | q | q | q | q | q
          · exact absurd q h0
          · exact absurd q h7
          · exact absurd h3 q
          · exact absurd q h4
          · exact absurd q h5
          · cases q.1
          · exact q.2
        repeat' (first
          | (with_reducible refine auS ?_)
          | (simp only [hsb, not_false_eq_true, decide_false, decide_true, bnt, bnf, hm, mkS_size, hw5, hwj])
          | (with_reducible refine auD ?_)
          | ((with_reducible refine auB ?_ ?_); all_goals first | ((with_reducible intro h); first | exact auH | simp only [h, runR_t, runR_f] | skip) | skip)
          | (simp only [Int.toNat_natCast, ex2]))
        (all_goals first | exact auP | skip)
        all_goals with_reducible refine auF ?_
        all_goals (try first | with_reducible refine auR ?_ | exact auR0)
        all_goals (try simp only [hsM] at *)
        all_goals rfl
    · rw [hq] at hp
      have hsb : (mkS td = { data := #[] }) = False := by rw [hnil]; exact eq_false c1
      have hw5 : IntKind.i64.wrap (ta + (td.length : Nat)) = ta + (td.length : Nat) := IntWalk.i64_in _ (by omega)
      have hm : ta.tmod 8 = ta % 8 := Int.tmod_eq_emod_of_nonneg (by omega)
      clear hq
      cases tl with
      | false =>
        have c8 := c6 rfl
        clear c6 c7
        repeat' (first
          | (with_reducible refine auS ?_)
          | (simp only [hsb, not_false_eq_true, decide_false, decide_true, bnt, bnf, hm, mkS_size, hw5, hm2])
          | (with_reducible refine auD ?_)
          | ((with_reducible refine auB ?_ ?_); all_goals first | ((with_reducible intro h); first | exact auH | simp only [h, runR_t, runR_f] | skip) | skip)
          | (simp only [Int.toNat_natCast, ex2]))
        (all_goals first | exact auP | skip)
        refine nx_loop ⟨(j + 1, ta + (td.length : Nat), g2 + 1), ⟨hjl, hp, by dsimp only; omega⟩, by dsimp only; omega, ?_⟩
        refine le_mk ?_ ?_ (Nat.le_refl _)
        all_goals first | with_reducible refine auE ?_ | exact auE0
        all_goals (repeat' (first | exact trivial | exact rfl | apply And.intro))
        all_goals first
          | exact dint ((IntWalk.i64_in _ (by omega)).trans (by omega))
          | rfl
      | true =>
        have c8 := c7 rfl
        clear c6 c7
        repeat' (first
          | (with_reducible refine auS ?_)
          | (simp only [hsb, not_false_eq_true, decide_false, decide_true, bnt, bnf, hm, mkS_size, hw5, hwj])
          | (with_reducible refine auD ?_)
          | ((with_reducible refine auB ?_ ?_); all_goals first | ((with_reducible intro h); first | exact auH | simp only [h, runR_t, runR_f] | skip) | skip)
          | (simp only [Int.toNat_natCast, ex2]))
        (all_goals first | exact auP | skip)
        refine nx_loop ⟨(j + 1, ta + (td.length : Nat), g2 + 1), ⟨hjl, hp, by dsimp only; omega⟩, by dsimp only; omega, ?_⟩
        refine le_mk ?_ ?_ (Nat.le_refl _)
        all_goals first | with_reducible refine auE ?_ | exact auE0
        all_goals (repeat' (first | exact trivial | exact rfl | apply And.intro))
        all_goals first
          | exact dint ((IntWalk.i64_in _ (by omega)).trans (by omega))
          | rfl
  · obtain rfl : j = ps.length := by omega
    rw [List.drop_length] at hp
    have hch : chR ps 0 = true := hp
    clear hp ha hc hsz
    cases ps with
    | nil =>
      have hE : goodG poolOk [] l = false := hbad rfl
      rw [hE]
      clear hgood hbad hE
      repeat' (first
        | (with_reducible refine auS ?_)
        | fail
        | (with_reducible refine auD ?_)
        | ((with_reducible refine auB ?_ ?_); all_goals first | ((with_reducible intro h); first | exact auH | simp only [h, runR_t, runR_f] | skip) | skip)
        | fail)
      (all_goals first | exact auP | skip)
      all_goals first | (exfalso; simp at h; done) | skip
      all_goals with_reducible refine auF ?_
      all_goals (try first | with_reducible refine auR ?_ | exact auR0)
      all_goals (try simp only [hsM] at *)
      all_goals rfl
    | cons p0 r =>
      have ex0 : xget ((p0 :: r).map Pt.enc) 0 = p0.enc := rfl
      have hp0 := (ptOk_fact (chR_cons hch).1).2.1
      have hnil : (mkS opt = { data := #[] }) = (opt = []) := propext (mkS_nil opt)
      have hxt : xtake (xdrop (l.map Hp.enc) 0) ((k : Int) - 0).toNat = (l.take k).map Hp.enc := by
        rw [xtake_eq, xdrop_eq, List.drop_zero, List.map_take]
        congr 1
      have htk : (l.take k).length = k := by rw [List.length_take]; omega
      cases hh : headOk ⟨fr, to, pr, id, tos, life, opt, p0 :: r⟩ with
      | false =>
        have hE : goodG poolOk [] l = false := hbad (by
          unfold poolOk hpOk
          rw [hh, Bool.and_false, Bool.false_and])
        rw [hE]
        clear hgood hbad hE
        unfold headOk at hh
        dsimp only at hh
        simp only [Bool.or_eq_false_iff, Bool.and_eq_false_iff, decide_eq_false_iff_not] at hh
        obtain ⟨hz, (hh | hh) | hh⟩ := hh
        · skip
          repeat' (first
            | (with_reducible refine auS ?_)
            | fail
            | (with_reducible refine auD ?_)
            | ((with_reducible refine auB ?_ ?_); all_goals first | ((with_reducible intro h); first | exact auH | simp only [h, runR_t, runR_f] | skip) | skip)
            | (simp only [Int.toNat_zero, ex0]))
          (all_goals first | exact auP | skip)
          all_goals first | (exfalso; simp at h; done) | (exfalso; simp at h; omega; done) | skip
          all_goals with_reducible refine auF ?_
          all_goals (try first | with_reducible refine auR ?_ | exact auR0)
          all_goals (try simp only [hsM] at *)
          all_goals rfl
        · skip
          repeat' (first
            | (with_reducible refine auS ?_)
            | fail
            | (with_reducible refine auD ?_)
            | ((with_reducible refine auB ?_ ?_); all_goals first | ((with_reducible intro h); first | exact auH | simp only [h, runR_t, runR_f] | skip) | skip)
            | (simp only [Int.toNat_zero, ex0]))
          (all_goals first | exact auP | skip)
          all_goals first | (exfalso; simp at h; done) | (exfalso; simp at h; omega; done) | skip
          all_goals with_reducible refine auF ?_
          all_goals (try first | with_reducible refine auR ?_ | exact auR0)
          all_goals (try simp only [hsM] at *)
          all_goals rfl
        · have hsb : (mkS opt = { data := #[] }) = False := by rw [hnil]; exact eq_false hh
          repeat' (first
            | (with_reducible refine auS ?_)
            | (simp only [hsb, not_false_eq_true, decide_true, decide_false, bnt, bnf])
            | (with_reducible refine auD ?_)
            | ((with_reducible refine auB ?_ ?_); all_goals first | ((with_reducible intro h); first | exact auH | simp only [h, runR_t, runR_f] | skip) | skip)
            | (simp only [Int.toNat_zero, ex0]))
          (all_goals first | exact auP | skip)
          all_goals first | (exfalso; simp at h; done) | (exfalso; simp at h; omega; done) | skip
          all_goals with_reducible refine auF ?_
          all_goals (try first | with_reducible refine auR ?_ | exact auR0)
          all_goals (try simp only [hsM] at *)
          all_goals rfl
      | true =>
        have hz := hh
        unfold headOk at hz
        dsimp only at hz
        simp only [Bool.or_eq_true, Bool.and_eq_true, decide_eq_true_eq] at hz
        by_cases hz0 : p0.at' = 0
        · skip
          repeat' (first
            | (with_reducible refine auS ?_)
            | (simp only [hxt, decide_true, decide_false, not_true_eq_false, not_false_eq_true, bnt, bnf, hxt])
            | (with_reducible refine auD ?_)
            | ((with_reducible refine auB ?_ ?_); all_goals first | ((with_reducible intro h); first | exact auH | simp only [h, runR_t, runR_f] | skip) | skip)
            | (simp only [Int.toNat_natCast, Int.toNat_zero, ex0]))
          (all_goals first | exact auP | skip)
          all_goals first | (exfalso; simp at h; done) | (exfalso; simp at h; omega; done) | skip
          refine go_loopH (α := Nat × Nat) (fun a => [(⟨.d1, .d7, .d6⟩, .v (.int .i64 (a.1 : Nat)))]) (fun _ => [(0, some ⟨g, 8, [Hp.enc ⟨fr, to, pr, id, tos, life, opt, p0 :: r⟩]⟩), (1, none), (2, none)]) (fun a => a.2) (fun a => k - a.1) (fun a => a.1 ≤ k ∧ (l.take k).any (fun o => sameK o ⟨fr, to, pr, id, tos, life, opt, p0 :: r⟩) = ((l.take k).drop a.1).any (fun o => sameK o ⟨fr, to, pr, id, tos, life, opt, p0 :: r⟩)) (0, g2) ⟨Nat.zero_le _, rfl⟩ ?_ ?_
          · skip
            refine le_mk ?_ ?_ (Nat.le_refl _)
            all_goals first | with_reducible refine auE ?_ | exact auE0
            all_goals (repeat' (first | exact trivial | exact rfl | apply And.intro))
          rintro ⟨q, g3⟩ ⟨hq, hp⟩
          dsimp only at hq hp ⊢
          with_reducible refine auL ?_
          by_cases hql : q < k
          · obtain ⟨o, ho⟩ : ∃ o, (l.take k)[q]? = some o := ⟨_, List.getElem?_eq_getElem (by rw [htk]; exact hql)⟩
            have exo := xget_map Hp.enc (l.take k) q o ho
            rw [List.drop_eq_getElem_cons (by rw [htk]; exact hql), show (l.take k)[q]'(by rw [htk]; exact hql) = o from Option.some.inj ((List.getElem?_eq_getElem (by rw [htk]; exact hql)).symm.trans ho), List.any_cons] at hp
            cases hk1 : sameK o ⟨fr, to, pr, id, tos, life, opt, p0 :: r⟩ with
            | true =>
              rw [hk1, Bool.true_or] at hp
              have hE : goodG poolOk [] l = false := hbad (by
                unfold poolOk
                rw [hp, Bool.not_true, Bool.and_false])
              rw [hE]
              clear hgood hbad hp hE
              unfold sameK at hk1
              simp only [Bool.and_eq_true, decide_eq_true_eq] at hk1
              obtain ⟨⟨⟨k1, k2⟩, k3⟩, k4⟩ := hk1
              repeat' (first
                | (with_reducible refine auS ?_)
                | fail
                | (with_reducible refine auD ?_)
                | ((with_reducible refine auB ?_ ?_); all_goals first | ((with_reducible intro h); first | exact auH | simp only [h, runR_t, runR_f] | skip) | skip)
                | (simp only [Int.toNat_natCast, exo]))
              (all_goals first | exact auP | skip)
              all_goals with_reducible refine auF ?_
              all_goals (try first | with_reducible refine auR ?_ | exact auR0)
              all_goals (try simp only [hsM] at *)
              all_goals rfl
            | false =>
              rw [hk1, Bool.false_or] at hp
              have hk2 : ¬ (o.fr = fr ∧ o.to = to ∧ o.pr = pr ∧ o.id = id) := fun ⟨z1, z2, z3, z4⟩ => by
                unfold sameK at hk1
                simp [z1, z2, z3, z4] at hk1
              clear hk1
              repeat' (first
                | (with_reducible refine auS ?_)
                | fail
                | (with_reducible refine auD ?_)
                | ((with_reducible refine auB ?_ ?_); all_goals first | ((with_reducible intro h); first | exact auH | simp only [h, runR_t, runR_f] | skip) | skip)
                | (simp only [Int.toNat_natCast, exo]))
              (all_goals first | exact auP | skip)
              all_goals refine nx_loop ⟨(q + 1, g3 + 1), ⟨hql, hp⟩, by dsimp only; omega, ?_⟩
              all_goals
                refine le_mk ?_ ?_ (Nat.le_refl _)
                all_goals first | with_reducible refine auE ?_ | exact auE0
                all_goals (repeat' (first | exact trivial | exact rfl | apply And.intro))
              all_goals first
                | exact dint ((IntWalk.i64_in _ (by omega)).trans (by omega))
                | rfl
          · obtain rfl : q = k := by omega
            rw [List.drop_of_length_le (by rw [htk]; exact Nat.le_refl _)] at hp
            have hok := hgood (by
              unfold poolOk hpOk
              rw [hp, hch, hh]
              rfl)
            clear hgood hbad
            repeat' (first
              | (with_reducible refine auS ?_)
              | fail
              | (with_reducible refine auD ?_)
              | ((with_reducible refine auB ?_ ?_); all_goals first | ((with_reducible intro h); first | exact auH | simp only [h, runR_t, runR_f] | skip) | skip)
              | fail)
            (all_goals first | exact auP | skip)
            refine nx_loop ⟨(q + 1, g3), ⟨hlt, hok⟩, by dsimp only; omega, ?_⟩
            refine le_mk ?_ ?_ (Nat.le_refl _)
            all_goals first | with_reducible refine auE ?_ | exact auE0
            all_goals (repeat' (first | exact trivial | exact rfl | apply And.intro))
            all_goals first
              | exact dint ((IntWalk.i64_in _ (by omega)).trans (by omega))
              | rfl
        · obtain ⟨⟨z1, z2⟩, z3⟩ := hz.resolve_left hz0
          have hsb : (mkS opt = { data := #[] }) = True := by rw [hnil]; exact eq_true z3
          repeat' (first
            | (with_reducible refine auS ?_)
            | (simp only [hsb, decide_true, decide_false, not_true_eq_false, not_false_eq_true, bnt, bnf, hxt])
            | (with_reducible refine auD ?_)
            | ((with_reducible refine auB ?_ ?_); all_goals first | ((with_reducible intro h); first | exact auH | simp only [h, runR_t, runR_f] | skip) | skip)
            | (simp only [Int.toNat_natCast, Int.toNat_zero, ex0]))
          (all_goals first | exact auP | skip)
          all_goals first | (exfalso; simp at h; done) | (exfalso; simp at h; omega; done) | skip
          refine go_loopH (α := Nat × Nat) (fun a => [(⟨.d1, .d7, .d6⟩, .v (.int .i64 (a.1 : Nat)))]) (fun _ => [(0, some ⟨g, 8, [Hp.enc ⟨fr, to, pr, id, tos, life, opt, p0 :: r⟩]⟩), (1, none), (2, none)]) (fun a => a.2) (fun a => k - a.1) (fun a => a.1 ≤ k ∧ (l.take k).any (fun o => sameK o ⟨fr, to, pr, id, tos, life, opt, p0 :: r⟩) = ((l.take k).drop a.1).any (fun o => sameK o ⟨fr, to, pr, id, tos, life, opt, p0 :: r⟩)) (0, g2) ⟨Nat.zero_le _, rfl⟩ ?_ ?_
          · skip
            refine le_mk ?_ ?_ (Nat.le_refl _)
            all_goals first | with_reducible refine auE ?_ | exact auE0
            all_goals (repeat' (first | exact trivial | exact rfl | apply And.intro))
          rintro ⟨q, g3⟩ ⟨hq, hp⟩
          dsimp only at hq hp ⊢
          with_reducible refine auL ?_
          by_cases hql : q < k
          · obtain ⟨o, ho⟩ : ∃ o, (l.take k)[q]? = some o := ⟨_, List.getElem?_eq_getElem (by rw [htk]; exact hql)⟩
            have exo := xget_map Hp.enc (l.take k) q o ho
            rw [List.drop_eq_getElem_cons (by rw [htk]; exact hql), show (l.take k)[q]'(by rw [htk]; exact hql) = o from Option.some.inj ((List.getElem?_eq_getElem (by rw [htk]; exact hql)).symm.trans ho), List.any_cons] at hp
            cases hk1 : sameK o ⟨fr, to, pr, id, tos, life, opt, p0 :: r⟩ with
            | true =>
              rw [hk1, Bool.true_or] at hp
              have hE : goodG poolOk [] l = false := hbad (by
                unfold poolOk
                rw [hp, Bool.not_true, Bool.and_false])
              rw [hE]
              clear hgood hbad hp hE
              unfold sameK at hk1
              simp only [Bool.and_eq_true, decide_eq_true_eq] at hk1
              obtain ⟨⟨⟨k1, k2⟩, k3⟩, k4⟩ := hk1
              repeat' (first
                | (with_reducible refine auS ?_)
                | fail
                | (with_reducible refine auD ?_)
                | ((with_reducible refine auB ?_ ?_); all_goals first | ((with_reducible intro h); first | exact auH | simp only [h, runR_t, runR_f] | skip) | skip)
                | (simp only [Int.toNat_natCast, exo]))
              (all_goals first | exact auP | skip)
              all_goals with_reducible refine auF ?_
              all_goals (try first | with_reducible refine auR ?_ | exact auR0)
              all_goals (try simp only [hsM] at *)
              all_goals rfl
            | false =>
              rw [hk1, Bool.false_or] at hp
              have hk2 : ¬ (o.fr = fr ∧ o.to = to ∧ o.pr = pr ∧ o.id = id) := fun ⟨z1, z2, z3, z4⟩ => by
                unfold sameK at hk1
                simp [z1, z2, z3, z4] at hk1
              clear hk1
              repeat' (first
                | (with_reducible refine auS ?_)
                | fail
                | (with_reducible refine auD ?_)
                | ((with_reducible refine auB ?_ ?_); all_goals first | ((with_reducible intro h); first | exact auH | simp only [h, runR_t, runR_f] | skip) | skip)
                | (simp only [Int.toNat_natCast, exo]))
              (all_goals first | exact auP | skip)
              all_goals refine nx_loop ⟨(q + 1, g3 + 1), ⟨hql, hp⟩, by dsimp only; omega, ?_⟩
              all_goals
                refine le_mk ?_ ?_ (Nat.le_refl _)
                all_goals first | with_reducible refine auE ?_ | exact auE0
                all_goals (repeat' (first | exact trivial | exact rfl | apply And.intro))
              all_goals first
                | exact dint ((IntWalk.i64_in _ (by omega)).trans (by omega))
                | rfl
          · obtain rfl : q = k := by omega
            rw [List.drop_of_length_le (by rw [htk]; exact Nat.le_refl _)] at hp
            have hok := hgood (by
              unfold poolOk hpOk
              rw [hp, hch, hh]
              rfl)
            clear hgood hbad
            repeat' (first
              | (with_reducible refine auS ?_)
              | fail
              | (with_reducible refine auD ?_)
              | ((with_reducible refine auB ?_ ?_); all_goals first | ((with_reducible intro h); first | exact auH | simp only [h, runR_t, runR_f] | skip) | skip)
              | fail)
            (all_goals first | exact auP | skip)
            refine nx_loop ⟨(q + 1, g3), ⟨hlt, hok⟩, by dsimp only; omega, ?_⟩
            refine le_mk ?_ ?_ (Nat.le_refl _)
            all_goals first | with_reducible refine auE ?_ | exact auE0
            all_goals (repeat' (first | exact trivial | exact rfl | apply And.intro))
            all_goals first
              | exact dint ((IntWalk.i64_in _ (by omega)).trans (by omega))
              | rfl
end Go.Proofs.Ytidogmmfakcfgaa
