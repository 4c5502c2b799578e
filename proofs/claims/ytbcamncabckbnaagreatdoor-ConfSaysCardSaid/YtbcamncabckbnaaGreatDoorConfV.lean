/-
  Words of a line, taken one by one, in the program.
-/
import Derived.Test.YtbcamncabckbnaaGreatDoorConfR
import Derived.Test.YtbcamncabckbnaaGreatDoorCutS
import Derived.Test.YtbcamncabckbnaaGreatDoorFmtU
import Derived.Test.YtbcamncabckbnaaGreatDoorAdrZ
import Derived.Test.YtbcamncabckbnaaGreatDoorRulC
import Derived.Test.YtbcamncabckbnaaGreatDoorCallG
namespace Go.Proofs.YtbcamncabckbnaaGreatDoor
set_option linter.unusedVariables false
set_option linter.unusedSimpArgs false
/-- The words that are left, as the walk sees them. -/
abbrev wO (n : Nat) (t : WS) : AObj := ⟨n, 2, [[.snap 1 (rowS (t.1.map mkS)) false, .v (.bool t.2)]]⟩
def lensW (m : Nat) (t : WS) : Prop := ∀ w ∈ t.1, w.length ≤ m
theorem lensW_nx {m : Nat} {t : WS} (h : lensW m t) : (nx t).1.length ≤ m ∧ lensW m (nx t).2 := by
  unfold nx
  split
  · exact ⟨Nat.zero_le _, fun w hw => by simp at hw⟩
  · rename_i s r e
    exact ⟨h s (by simp [e]), fun w hw => h w (by rw [e]; exact List.mem_cons_of_mem _ hw)⟩
theorem next_spec (n : Nat) (t : WS) : HSpec Tryz.prog 42 [.ptr 0 n 2 0 0] [some (wO n t)] (fun d H => d = .v (.string (mkS (nx t).1)) ∧ H = [some (wO n (nx t).2)]) := by
  obtain ⟨l, b⟩ := t
  cases l with
  | nil =>
    refine hspec_fn Tryz.func42 rfl ok_conf_words_next okr_conf_words_next rfl (by kernel_rfl) ?_
    intro Γ hW0 hN0 hL0
    clear hW0
    unfold x_conf_words_next r_conf_words_next
    with_reducible refine auC ?_
    have hn : n < Γ.g0 := hN0 0 _ rfl
    dsimp only [wO, List.map, rowS]
    repeat' (first
      | (with_reducible refine auS ?_)
      | fail
      | (with_reducible refine auD ?_)
      | ((with_reducible refine auB ?_ ?_); all_goals first | (intro h; first | exact auH | simp only [h, runR_t, runR_f] | skip) | skip)
      | fail)
    (all_goals first | exact auP | skip)
    exact ret_h1 trivial trivial rfl rfl hn ⟨⟨trivial, trivial, trivial⟩, trivial⟩ rfl
  | cons s r =>
    have e : rowS ((s :: r).map mkS) = [.v (.string (mkS s))] :: rowS (r.map mkS) := rfl
    have hnf : ∀ g, nfLL g (rowS (r.map mkS)) := fun g => nfLL_map (fun x => by simp [nfL, nfD])
    show HSpec Tryz.prog _ [.ptr 0 n 2 0 0] [some ⟨n, 2, [[.snap 1 (rowS ((s :: r).map mkS)) false, .v (.bool b)]]⟩] (fun d H => d = .v (.string (mkS s)) ∧ H = [some ⟨n, 2, [[.snap 1 (rowS (r.map mkS)) false, .v (.bool b)]]⟩])
    rw [e]
    generalize rowS (r.map mkS) = X at *
    have hx : xtake (xdrop X 0) (((X.length + 1 : Nat) : Int) - 1).toNat = X := xall (by omega)
    refine hspec_fn Tryz.func42 rfl ok_conf_words_next okr_conf_words_next rfl (by kernel_rfl) ?_
    intro Γ hW0 hN0 hL0
    clear hW0
    unfold x_conf_words_next r_conf_words_next
    with_reducible refine auC ?_
    have hn : n < Γ.g0 := hN0 0 _ rfl
    repeat' (first
      | (with_reducible refine auS ?_)
      | (first | (simp only [hx]))
      | (with_reducible refine auD ?_)
      | ((with_reducible refine auB ?_ ?_); all_goals first | (intro h; first | exact auH | simp only [h, runR_t, runR_f] | skip) | skip)
      | fail)
    (all_goals first | exact auP | skip)
    exact ret_h1 trivial trivial rfl rfl hn ⟨⟨hnf _, trivial, trivial⟩, trivial⟩ rfl
theorem rowS_nf (l : List W8) (g : Nat) : nfLL g (rowS (l.map mkS)) := nfLL_map (fun x => by simp [nfL, nfD])
set_option maxHeartbeats 2000000 in
theorem value_spec (n : Nat) (t : WS) (s : W8) (hs : s.length ≤ 1048576) : HSpec Tryz.prog 65 [.ptr 0 n 2 0 0, .v (.string (mkS s))] [some (wO n t)] (fun d H => d = .v (.int .i64 (vl s t).1) ∧ H = [some (wO n (vl s t).2)]) := by
  obtain ⟨l, b⟩ := t
  have hnf := rowS_nf l
  have hp := parse64_spec s hs
  unfold wO vl
  dsimp only
  generalize rowS (l.map mkS) = X at *
  unfold pu64 at hp
  cases hq : Lib.parseUintB 64 s with
  | ok u =>
    have hle := Lib.parseUintB_le hq
    have hf := fmtU_spec u (by have : (2 : Nat) ^ 64 - 1 = 18446744073709551615 := by decide
                               omega)
    have e1 : vN s = IntKind.i64.wrap (u : Nat) := by unfold vN; rw [hq]
    have e2 : vOk s = (decide (s.length ≤ 10) && decide (Lib.decDigits u = s)) := by unfold vOk; rw [hq]
    rw [hq] at hp
    dsimp only at hp
    rw [e1, e2]
    cases b with
    | true =>
      refine hspec_fn Tryz.func65 rfl ok_conf_words_value okr_conf_words_value rfl (by kernel_rfl) ?_
      intro Γ hW0 hN0 hL0
      clear hW0
      unfold x_conf_words_value r_conf_words_value
      with_reducible refine auC ?_
      have hn : n < Γ.g0 := hN0 0 _ rfl
      repeat' (first
        | (with_reducible refine auS ?_)
        | (first | (simp only [mkS_size, eq_self]) | (with_reducible refine runR_call hp ?_) | (with_reducible refine runR_call hf ?_))
        | (with_reducible refine auD ?_)
        | ((with_reducible refine auB ?_ ?_); all_goals first | (intro h; first | exact auH | simp only [h, runR_t, runR_f] | skip) | skip)
        | fail)
      (all_goals first | exact auP | skip)
      all_goals exact ret_h1 trivial trivial rfl rfl hn ⟨⟨hnf _, trivial, trivial⟩, trivial⟩ rfl
    | false =>
      by_cases h10 : s.length ≤ 10
      · have h10' : decide ((10 : Int) < (s.length : Nat)) = false := decide_eq_false (by omega)
        by_cases hd : Lib.decDigits u = s
        · have hd' : decide (mkS (Lib.decDigits u) = mkS s) = true := decide_eq_true (congrArg mkS hd)
          rw [decide_eq_true h10, decide_eq_true hd]
          refine hspec_fn Tryz.func65 rfl ok_conf_words_value okr_conf_words_value rfl (by kernel_rfl) ?_
          intro Γ hW0 hN0 hL0
          clear hW0
          unfold x_conf_words_value r_conf_words_value
          with_reducible refine auC ?_
          have hn : n < Γ.g0 := hN0 0 _ rfl
          repeat' (first
            | (with_reducible refine auS ?_)
            | (first | (simp only [mkS_size, h10', hd']) | (with_reducible refine runR_call hp ?_) | (with_reducible refine runR_call hf ?_))
            | (with_reducible refine auD ?_)
            | ((with_reducible refine auB ?_ ?_); all_goals first | (intro h; first | exact auH | simp only [h, runR_t, runR_f] | skip) | skip)
            | fail)
          (all_goals first | exact auP | skip)
          all_goals exact ret_h1 trivial trivial rfl rfl hn ⟨⟨hnf _, trivial, trivial⟩, trivial⟩ rfl
        · have hd' : decide (mkS (Lib.decDigits u) = mkS s) = false := decide_eq_false (fun q => hd (mkS_inj.1 q))
          rw [decide_eq_true h10, decide_eq_false hd]
          refine hspec_fn Tryz.func65 rfl ok_conf_words_value okr_conf_words_value rfl (by kernel_rfl) ?_
          intro Γ hW0 hN0 hL0
          clear hW0
          unfold x_conf_words_value r_conf_words_value
          with_reducible refine auC ?_
          have hn : n < Γ.g0 := hN0 0 _ rfl
          repeat' (first
            | (with_reducible refine auS ?_)
            | (first | (simp only [mkS_size, h10', hd']) | (with_reducible refine runR_call hp ?_) | (with_reducible refine runR_call hf ?_))
            | (with_reducible refine auD ?_)
            | ((with_reducible refine auB ?_ ?_); all_goals first | (intro h; first | exact auH | simp only [h, runR_t, runR_f] | skip) | skip)
            | fail)
          (all_goals first | exact auP | skip)
          all_goals exact ret_h1 trivial trivial rfl rfl hn ⟨⟨hnf _, trivial, trivial⟩, trivial⟩ rfl
      · have h10' : decide ((10 : Int) < (s.length : Nat)) = true := decide_eq_true (by omega)
        rw [decide_eq_false h10, Bool.false_and]
        refine hspec_fn Tryz.func65 rfl ok_conf_words_value okr_conf_words_value rfl (by kernel_rfl) ?_
        intro Γ hW0 hN0 hL0
        clear hW0
        unfold x_conf_words_value r_conf_words_value
        with_reducible refine auC ?_
        have hn : n < Γ.g0 := hN0 0 _ rfl
        repeat' (first
          | (with_reducible refine auS ?_)
          | (first | (simp only [mkS_size, h10']) | (with_reducible refine runR_call hp ?_) | (with_reducible refine runR_call hf ?_))
          | (with_reducible refine auD ?_)
          | ((with_reducible refine auB ?_ ?_); all_goals first | (intro h; first | exact auH | simp only [h, runR_t, runR_f] | skip) | skip)
          | fail)
        (all_goals first | exact auP | skip)
        all_goals exact ret_h1 trivial trivial rfl rfl hn ⟨⟨hnf _, trivial, trivial⟩, trivial⟩ rfl
  | range =>
    have e1 : vN s = -1 := by unfold vN; rw [hq]
    have e2 : vOk s = false := by unfold vOk; rw [hq]
    have hf := fmtU_spec 0 (by decide)
    have w1 : IntKind.i64.wrap 18446744073709551615 = -1 := by decide
    rw [hq] at hp
    dsimp only at hp
    rw [e1, e2]
    cases b with
    | true =>
      refine hspec_fn Tryz.func65 rfl ok_conf_words_value okr_conf_words_value rfl (by kernel_rfl) ?_
      intro Γ hW0 hN0 hL0
      clear hW0
      unfold x_conf_words_value r_conf_words_value
      with_reducible refine auC ?_
      have hn : n < Γ.g0 := hN0 0 _ rfl
      repeat' (first
        | (with_reducible refine auS ?_)
        | (first | (simp only [mkS_size, w1]) | (with_reducible refine runR_call hp ?_) | (with_reducible refine runR_call hf ?_))
        | (with_reducible refine auD ?_)
        | ((with_reducible refine auB ?_ ?_); all_goals first | (intro h; first | exact auH | simp only [h, runR_t, runR_f] | skip) | skip)
        | fail)
      (all_goals first | exact auP | skip)
      all_goals exact ret_h1 trivial trivial rfl rfl hn ⟨⟨hnf _, trivial, trivial⟩, trivial⟩ rfl
    | false =>
      refine hspec_fn Tryz.func65 rfl ok_conf_words_value okr_conf_words_value rfl (by kernel_rfl) ?_
      intro Γ hW0 hN0 hL0
      clear hW0
      unfold x_conf_words_value r_conf_words_value
      with_reducible refine auC ?_
      have hn : n < Γ.g0 := hN0 0 _ rfl
      repeat' (first
        | (with_reducible refine auS ?_)
        | (first | (simp only [mkS_size, w1]) | (with_reducible refine runR_call hp ?_) | (with_reducible refine runR_call hf ?_))
        | (with_reducible refine auD ?_)
        | ((with_reducible refine auB ?_ ?_); all_goals first | (intro h; first | exact auH | simp only [h, runR_t, runR_f] | skip) | skip)
        | fail)
      (all_goals first | exact auP | skip)
      all_goals exact ret_h1 trivial trivial rfl rfl hn ⟨⟨hnf _, trivial, trivial⟩, trivial⟩ rfl
  | _ =>
    have e1 : vN s = 0 := by unfold vN; rw [hq]
    have e2 : vOk s = false := by unfold vOk; rw [hq]
    have hf := fmtU_spec 0 (by decide)
    have w1 : IntKind.i64.wrap 0 = 0 := by decide
    rw [hq] at hp
    dsimp only at hp
    rw [e1, e2]
    cases b with
    | true =>
      refine hspec_fn Tryz.func65 rfl ok_conf_words_value okr_conf_words_value rfl (by kernel_rfl) ?_
      intro Γ hW0 hN0 hL0
      clear hW0
      unfold x_conf_words_value r_conf_words_value
      with_reducible refine auC ?_
      have hn : n < Γ.g0 := hN0 0 _ rfl
      repeat' (first
        | (with_reducible refine auS ?_)
        | (first | (simp only [mkS_size, w1]) | (with_reducible refine runR_call hp ?_) | (with_reducible refine runR_call hf ?_))
        | (with_reducible refine auD ?_)
        | ((with_reducible refine auB ?_ ?_); all_goals first | (intro h; first | exact auH | simp only [h, runR_t, runR_f] | skip) | skip)
        | fail)
      (all_goals first | exact auP | skip)
      all_goals exact ret_h1 trivial trivial rfl rfl hn ⟨⟨hnf _, trivial, trivial⟩, trivial⟩ rfl
    | false =>
      refine hspec_fn Tryz.func65 rfl ok_conf_words_value okr_conf_words_value rfl (by kernel_rfl) ?_
      intro Γ hW0 hN0 hL0
      clear hW0
      unfold x_conf_words_value r_conf_words_value
      with_reducible refine auC ?_
      have hn : n < Γ.g0 := hN0 0 _ rfl
      repeat' (first
        | (with_reducible refine auS ?_)
        | (first | (simp only [mkS_size, w1]) | (with_reducible refine runR_call hp ?_) | (with_reducible refine runR_call hf ?_))
        | (with_reducible refine auD ?_)
        | ((with_reducible refine auB ?_ ?_); all_goals first | (intro h; first | exact auH | simp only [h, runR_t, runR_f] | skip) | skip)
        | fail)
      (all_goals first | exact auP | skip)
      all_goals exact ret_h1 trivial trivial rfl rfl hn ⟨⟨hnf _, trivial, trivial⟩, trivial⟩ rfl
end Go.Proofs.YtbcamncabckbnaaGreatDoor
