/-
  Words of a line, taken as numbers, addresses, nets, bounds, verdicts, in the program.
-/
import Derived.Test.YtbcamncabckbnaaGreatDoorConfV
namespace Go.Proofs.YtbcamncabckbnaaGreatDoor
set_option linter.unusedVariables false
set_option linter.unusedSimpArgs false
theorem number_spec (n : Nat) (t : WS) (hw : lensW 1048576 t) : HSpec Tryz.prog 44 [.ptr 0 n 2 0 0] [some (wO n t)] (fun d H => d = .v (.int .i64 (nu t).1) ∧ H = [some (wO n (nu t).2)]) := by
  have h1 := next_spec n t
  have h2 := value_spec n (nx t).2 (nx t).1 (lensW_nx hw).1
  unfold nu
  generalize (nx t).1 = s1 at *
  generalize (nx t).2 = t2 at *
  refine hspec_fn Tryz.func44 rfl ok_conf_words_number okr_conf_words_number rfl (by kernel_rfl) ?_
  intro Γ hW0 hN0 hL0
  clear hW0
  unfold x_conf_words_number r_conf_words_number
  with_reducible refine auC ?_
  have hn : n < Γ.g0 := hN0 0 _ rfl
  repeat' (first
    | (with_reducible refine auS ?_)
    | (first | ((with_reducible refine runR_callH 0 ?_ h1 (fun _ _ _ h => h) ?_); (exact rfl)) | ((with_reducible refine runR_callH 0 ?_ h2 (fun _ _ _ h => h) ?_); (exact rfl)))
    | (with_reducible refine auD ?_)
    | ((with_reducible refine auB ?_ ?_); all_goals first | (intro h; first | exact auH | simp only [h, runR_t, runR_f] | skip) | skip)
    | fail)
  (all_goals first | exact auP | skip)
  all_goals exact ret_h1 (by (try first | with_reducible refine auR ?_ | exact auR0); repeat' (first | exact trivial | exact rfl | decide | apply And.intro)) (by (try first | with_reducible refine auR ?_ | exact auR0); repeat' (first | exact trivial | exact rfl | decide | apply And.intro)) rfl rfl hn ⟨⟨rowS_nf _ _, trivial, trivial⟩, trivial⟩ rfl
theorem addr_specW (n : Nat) (t : WS) (s : W8) (hs : s.length ≤ 1048576) : HSpec Tryz.prog 43 [.ptr 0 n 2 0 0, .v (.string (mkS s))] [some (wO n t)] (fun d H => d = .v (.int .u32 (ad s t).1) ∧ H = [some (wO n (ad s t).2)]) := by
  obtain ⟨l, b⟩ := t
  have hp := parse_spec s hs
  unfold ad
  unfold dNE at hp
  dsimp only
  generalize (((parA s).1 : Nat) : Int) = A at *
  generalize (parA s).2 = E at *
  cases b with
  | true =>
    refine hspec_fn Tryz.func43 rfl ok_conf_words_addr okr_conf_words_addr rfl (by kernel_rfl) ?_
    intro Γ hW0 hN0 hL0
    clear hW0
    unfold x_conf_words_addr r_conf_words_addr
    with_reducible refine auC ?_
    have hn : n < Γ.g0 := hN0 0 _ rfl
    repeat' (first
      | (with_reducible refine auS ?_)
      | (first | (with_reducible refine runR_call hp ?_))
      | (with_reducible refine auD ?_)
      | ((with_reducible refine auB ?_ ?_); all_goals first | (intro h; first | exact auH | simp only [h, runR_t, runR_f] | skip) | skip)
      | fail)
    (all_goals first | exact auP | skip)
    all_goals exact ret_h1 (by (try first | with_reducible refine auR ?_ | exact auR0); repeat' (first | exact trivial | exact rfl | decide | apply And.intro)) (by (try first | with_reducible refine auR ?_ | exact auR0); repeat' (first | exact trivial | exact rfl | decide | apply And.intro)) rfl rfl hn ⟨⟨rowS_nf _ _, trivial, trivial⟩, trivial⟩ rfl
  | false =>
    by_cases he : E = 0
    · subst he
      refine hspec_fn Tryz.func43 rfl ok_conf_words_addr okr_conf_words_addr rfl (by kernel_rfl) ?_
      intro Γ hW0 hN0 hL0
      clear hW0
      unfold x_conf_words_addr r_conf_words_addr
      with_reducible refine auC ?_
      have hn : n < Γ.g0 := hN0 0 _ rfl
      repeat' (first
        | (with_reducible refine auS ?_)
        | (first | (with_reducible refine runR_call hp ?_))
        | (with_reducible refine auD ?_)
        | ((with_reducible refine auB ?_ ?_); all_goals first | (intro h; first | exact auH | simp only [h, runR_t, runR_f] | skip) | skip)
        | fail)
      (all_goals first | exact auP | skip)
      all_goals exact ret_h1 (by (try first | with_reducible refine auR ?_ | exact auR0); repeat' (first | exact trivial | exact rfl | decide | apply And.intro)) (by (try first | with_reducible refine auR ?_ | exact auR0); repeat' (first | exact trivial | exact rfl | decide | apply And.intro)) rfl rfl hn ⟨⟨rowS_nf _ _, trivial, trivial⟩, trivial⟩ rfl
    · have he2 : decide (E = 0) = false := decide_eq_false he
      have he3 : decide (¬ E = 0) = true := decide_eq_true he
      rw [he3]
      refine hspec_fn Tryz.func43 rfl ok_conf_words_addr okr_conf_words_addr rfl (by kernel_rfl) ?_
      intro Γ hW0 hN0 hL0
      clear hW0
      unfold x_conf_words_addr r_conf_words_addr
      with_reducible refine auC ?_
      have hn : n < Γ.g0 := hN0 0 _ rfl
      repeat' (first
        | (with_reducible refine auS ?_)
        | (first | (simp only [he2]) | (with_reducible refine runR_call hp ?_))
        | (with_reducible refine auD ?_)
        | ((with_reducible refine auB ?_ ?_); all_goals first | (intro h; first | exact auH | simp only [h, runR_t, runR_f] | skip) | skip)
        | fail)
      (all_goals first | exact auP | skip)
      all_goals exact ret_h1 (by (try first | with_reducible refine auR ?_ | exact auR0); repeat' (first | exact trivial | exact rfl | decide | apply And.intro)) (by (try first | with_reducible refine auR ?_ | exact auR0); repeat' (first | exact trivial | exact rfl | decide | apply And.intro)) rfl rfl hn ⟨⟨rowS_nf _ _, trivial, trivial⟩, trivial⟩ rfl
theorem verdict_specW (n : Nat) (t : WS) (s : W8) : HSpec Tryz.prog 45 [.ptr 0 n 2 0 0, .v (.string (mkS s))] [some (wO n t)] (fun d H => d = .v (.bool (vd s t).1) ∧ H = [some (wO n (vd s t).2)]) := by
  obtain ⟨l, b⟩ := t
  have c1 : (ByteArray.mk #[112, 97, 115, 115] : ByteArray) = mkS wPass := rfl
  have c2 : (ByteArray.mk #[100, 114, 111, 112] : ByteArray) = mkS wDrop := rfl
  have d1 : decide (mkS s = mkS wPass) = decide (s = wPass) := decide_eq_decide.2 mkS_inj
  have d2 : decide (mkS s = mkS wDrop) = decide (s = wDrop) := decide_eq_decide.2 mkS_inj
  unfold vd
  dsimp only
  generalize decide (s = wPass) = p1 at *
  generalize decide (s = wDrop) = p2 at *
  cases b <;> cases p1 <;> cases p2
  all_goals
    refine hspec_fn Tryz.func45 rfl ok_conf_words_verdict okr_conf_words_verdict rfl (by kernel_rfl) ?_
    intro Γ hW0 hN0 hL0
    clear hW0
    unfold x_conf_words_verdict r_conf_words_verdict
    with_reducible refine auC ?_
    have hn : n < Γ.g0 := hN0 0 _ rfl
    repeat' (first
      | (with_reducible refine auS ?_)
      | (first | (simp only [c1, c2, d1, d2]))
      | (with_reducible refine auD ?_)
      | ((with_reducible refine auB ?_ ?_); all_goals first | (intro h; first | exact auH | simp only [h, runR_t, runR_f] | skip) | skip)
      | fail)
    (all_goals first | exact auP | skip)
    all_goals exact ret_h1 (by (try first | with_reducible refine auR ?_ | exact auR0); repeat' (first | exact trivial | exact rfl | decide | apply And.intro)) (by (try first | with_reducible refine auR ?_ | exact auR0); repeat' (first | exact trivial | exact rfl | decide | apply And.intro)) rfl rfl hn ⟨⟨rowS_nf _ _, trivial, trivial⟩, trivial⟩ rfl
theorem pair_spec (n : Nat) (t : WS) (c : UInt8) (hw : lensW 1048576 t) : HSpec Tryz.prog 66 [.ptr 0 n 2 0 0, .v (.string (mkS [c]))] [some (wO n t)] (fun d H => d = .tup [.v (.string (mkS (pa c t).1.1)), .v (.string (mkS (pa c t).1.2))] ∧ H = [some (wO n (pa c t).2)]) := by
  have h1 := next_spec n t
  have h2 := cut_spec c (nx t).1 (lensW_nx hw).1
  unfold pa
  generalize (cutB c (nx t).1).1 = A at *
  generalize (cutB c (nx t).1).2.1 = B at *
  generalize (cutB c (nx t).1).2.2 = C at *
  generalize (nx t).1 = s1 at *
  generalize (nx t).2 = t2 at *
  obtain ⟨l, b⟩ := t2
  cases b <;> cases C
  all_goals
    refine hspec_fn Tryz.func66 rfl ok_conf_words_pair okr_conf_words_pair rfl (by kernel_rfl) ?_
    intro Γ hW0 hN0 hL0
    clear hW0
    unfold x_conf_words_pair r_conf_words_pair
    with_reducible refine auC ?_
    have hn : n < Γ.g0 := hN0 0 _ rfl
    repeat' (first
      | (with_reducible refine auS ?_)
      | (first | ((with_reducible refine runR_callH 0 ?_ h1 (fun _ _ _ h => h) ?_); (exact rfl)) | (with_reducible refine runR_call h2 ?_))
      | (with_reducible refine auD ?_)
      | ((with_reducible refine auB ?_ ?_); all_goals first | (intro h; first | exact auH | simp only [h, runR_t, runR_f] | skip) | skip)
      | fail)
    (all_goals first | exact auP | skip)
    all_goals exact ret_h1 (by (try first | with_reducible refine auR ?_ | exact auR0); repeat' (first | exact trivial | exact rfl | decide | apply And.intro)) (by (try first | with_reducible refine auR ?_ | exact auR0); repeat' (first | exact trivial | exact rfl | decide | apply And.intro)) rfl rfl hn ⟨⟨rowS_nf _ _, trivial, trivial⟩, trivial⟩ rfl
theorem lens_pa {m : Nat} {c : UInt8} {t : WS} (h : lensW m t) : (pa c t).1.1.length ≤ m ∧ (pa c t).1.2.length ≤ m ∧ lensW m (pa c t).2 := by
  have h1 := lensW_nx h
  have h2 := cutB_len (c := c) (nx t).1
  exact ⟨by unfold pa; dsimp only; omega, by unfold pa; dsimp only; omega, h1.2⟩
theorem lens_ad {m : Nat} {s : W8} {t : WS} (h : lensW m t) : lensW m (ad s t).2 := h
theorem lens_vl {m : Nat} {s : W8} {t : WS} (h : lensW m t) : lensW m (vl s t).2 := h
theorem lens_nu {m : Nat} {t : WS} (h : lensW m t) : lensW m (nu t).2 := (lensW_nx h).2
theorem lens_nt {m : Nat} {t : WS} (h : lensW m t) : lensW m (nt t).2 := (lens_pa (c := 47) h).2.2
theorem lens_bo {m : Nat} {t : WS} (h : lensW m t) : lensW m (bo t).2 := (lens_pa (c := 45) h).2.2
theorem net_specR (n : Nat) (t : WS) (hw : lensW 1048576 t) : HSpec Tryz.prog 46 [.ptr 0 n 2 0 0] [some (wO n t)] (fun d H => d = .agg [.v (.int .u32 (nt t).1.1), .v (.int .i64 (nt t).1.2)] ∧ H = [some (wO n (nt t).2)]) := by
  have h1 := pair_spec n t 47 hw
  obtain ⟨l1, l2, l3⟩ := lens_pa (c := 47) hw
  have h2 := addr_specW n (pa 47 t).2 (pa 47 t).1.1 l1
  have h3 := value_spec n (ad (pa 47 t).1.1 (pa 47 t).2).2 (pa 47 t).1.2 l2
  have e : (ByteArray.mk #[47] : ByteArray) = mkS [47] := rfl
  unfold nt
  generalize (vl (pa 47 t).1.2 (ad (pa 47 t).1.1 (pa 47 t).2).2).2 = T3 at *
  generalize (vl (pa 47 t).1.2 (ad (pa 47 t).1.1 (pa 47 t).2).2).1 = V3 at *
  generalize (ad (pa 47 t).1.1 (pa 47 t).2).2 = T2 at *
  generalize (ad (pa 47 t).1.1 (pa 47 t).2).1 = V2 at *
  generalize (pa 47 t).2 = T1 at *
  generalize (pa 47 t).1.1 = A1 at *
  generalize (pa 47 t).1.2 = B1 at *
  refine hspec_fn Tryz.func46 rfl ok_conf_words_net okr_conf_words_net rfl (by kernel_rfl) ?_
  intro Γ hW0 hN0 hL0
  clear hW0
  unfold x_conf_words_net r_conf_words_net
  with_reducible refine auC ?_
  have hn : n < Γ.g0 := hN0 0 _ rfl
  repeat' (first
    | (with_reducible refine auS ?_)
    | (first | (simp only [e]) | ((with_reducible refine runR_callH 0 ?_ h1 (fun _ _ _ h => h) ?_); (exact rfl)) | ((with_reducible refine runR_callH 0 ?_ h2 (fun _ _ _ h => h) ?_); (exact rfl)) | ((with_reducible refine runR_callH 0 ?_ h3 (fun _ _ _ h => h) ?_); (exact rfl)))
    | (with_reducible refine auD ?_)
    | ((with_reducible refine auB ?_ ?_); all_goals first | (intro h; first | exact auH | simp only [h, runR_t, runR_f] | skip) | skip)
    | fail)
  (all_goals first | exact auP | skip)
  all_goals exact ret_h1 (by (try first | with_reducible refine auR ?_ | exact auR0); repeat' (first | exact trivial | exact rfl | decide | apply And.intro)) (by (try first | with_reducible refine auR ?_ | exact auR0); repeat' (first | exact trivial | exact rfl | decide | apply And.intro)) rfl rfl hn ⟨⟨rowS_nf _ _, trivial, trivial⟩, trivial⟩ rfl
theorem bounds_specR (n : Nat) (t : WS) (hw : lensW 1048576 t) : HSpec Tryz.prog 47 [.ptr 0 n 2 0 0] [some (wO n t)] (fun d H => d = .tup [.v (.int .i64 (bo t).1.1), .v (.int .i64 (bo t).1.2)] ∧ H = [some (wO n (bo t).2)]) := by
  have h1 := pair_spec n t 45 hw
  obtain ⟨l1, l2, l3⟩ := lens_pa (c := 45) hw
  have h2 := value_spec n (pa 45 t).2 (pa 45 t).1.1 l1
  have h3 := value_spec n (vl (pa 45 t).1.1 (pa 45 t).2).2 (pa 45 t).1.2 l2
  have e : (ByteArray.mk #[45] : ByteArray) = mkS [45] := rfl
  unfold bo
  generalize (vl (pa 45 t).1.2 (vl (pa 45 t).1.1 (pa 45 t).2).2).2 = T3 at *
  generalize (vl (pa 45 t).1.2 (vl (pa 45 t).1.1 (pa 45 t).2).2).1 = V3 at *
  generalize (vl (pa 45 t).1.1 (pa 45 t).2).2 = T2 at *
  generalize (vl (pa 45 t).1.1 (pa 45 t).2).1 = V2 at *
  generalize (pa 45 t).2 = T1 at *
  generalize (pa 45 t).1.1 = A1 at *
  generalize (pa 45 t).1.2 = B1 at *
  refine hspec_fn Tryz.func47 rfl ok_conf_words_bounds okr_conf_words_bounds rfl (by kernel_rfl) ?_
  intro Γ hW0 hN0 hL0
  clear hW0
  unfold x_conf_words_bounds r_conf_words_bounds
  with_reducible refine auC ?_
  have hn : n < Γ.g0 := hN0 0 _ rfl
  repeat' (first
    | (with_reducible refine auS ?_)
    | (first | (simp only [e]) | ((with_reducible refine runR_callH 0 ?_ h1 (fun _ _ _ h => h) ?_); (exact rfl)) | ((with_reducible refine runR_callH 0 ?_ h2 (fun _ _ _ h => h) ?_); (exact rfl)) | ((with_reducible refine runR_callH 0 ?_ h3 (fun _ _ _ h => h) ?_); (exact rfl)))
    | (with_reducible refine auD ?_)
    | ((with_reducible refine auB ?_ ?_); all_goals first | (intro h; first | exact auH | simp only [h, runR_t, runR_f] | skip) | skip)
    | fail)
  (all_goals first | exact auP | skip)
  all_goals exact ret_h1 (by (try first | with_reducible refine auR ?_ | exact auR0); repeat' (first | exact trivial | exact rfl | decide | apply And.intro)) (by (try first | with_reducible refine auR ?_ | exact auR0); repeat' (first | exact trivial | exact rfl | decide | apply And.intro)) rfl rfl hn ⟨⟨rowS_nf _ _, trivial, trivial⟩, trivial⟩ rfl
end Go.Proofs.YtbcamncabckbnaaGreatDoor
