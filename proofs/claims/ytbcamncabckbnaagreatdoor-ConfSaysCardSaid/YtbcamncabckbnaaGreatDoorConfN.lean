/-
  The reference's words of a line: numbers, addresses, one by one.
-/
import Derived.Test.YtbcamncabckbnaaGreatDoorCutS
import Derived.Test.YtbcamncabckbnaaGreatDoorAdrZ
import Derived.Test.YtbcamncabckbnaaGreatDoorConfR
import Derived.Test.YtbcamncabckbnaaGreatDoorCallG
import Derived.Test.YtbcamncabckbnaaGreatDoorNamN
namespace Go.Proofs.YtbcamncabckbnaaGreatDoor
set_option linter.unusedVariables false
set_option linter.unusedSimpArgs false
theorem readLong_spec (s : W8) (hs : s.length ≤ 1048576) : Spec Tryz.prog 52 [.v (.string (mkS s))] (dNB (rlong s)) := by
  by_cases h10 : s.length < 10
  · have e : rlong s = rnum s := by unfold rlong; rw [if_pos h10]
    have h := readNum_spec s hs
    have hd : decide (((s.length : Nat) : Int) < 10) = true := decide_eq_true (by omega)
    rw [e]
    unfold dNB at h ⊢
    generalize (((rnum s).1 : Nat) : Int) = A at *
    generalize (rnum s).2 = B at *
    refine hspec_fn Tryz.func52 rfl ok_custref_ReadLong okr_custref_ReadLong rfl (by kernel_rfl) ?_
    intro Γ hW0 hN0 hL0
    have hW := hW0 rfl
    clear hW0 hN0 hL0
    unfold x_custref_ReadLong r_custref_ReadLong
    with_reducible refine auC ?_
    repeat' (first
      | (with_reducible refine auS ?_)
      | (first | (simp only [mkS_size, hd]) | (with_reducible refine runR_call h ?_))
      | (with_reducible refine auD ?_)
      | ((with_reducible refine auB ?_ ?_); all_goals first | (intro h; first | exact auH | simp only [h, runR_t, runR_f] | skip) | skip)
      | fail)
    (all_goals first | exact auP | skip)
    all_goals with_reducible refine auF ?_
    all_goals (try first | with_reducible refine auR ?_ | exact auR0)
    all_goals (try simp only [hsM] at *)
  · have e : rlong s = (10 * (rnum (s.take 9)).1 + (rnum (s.drop 9)).1, (((rnum (s.take 9)).2 && (rnum (s.drop 9)).2) && decide (0 < (rnum (s.take 9)).1)) && decide (s.length = 10)) := by unfold rlong; rw [if_neg h10]
    have h1 := readNum_spec (s.take 9) (by rw [List.length_take]; omega)
    have h2 := readNum_spec (s.drop 9) (by rw [List.length_drop]; omega)
    have hd : decide (((s.length : Nat) : Int) < 10) = false := decide_eq_false (by omega)
    have hd2 : decide (((s.length : Nat) : Int) = 10) = decide (s.length = 10) := decide_eq_decide.2 (by omega)
    have b1 := rnum_fst_of (s := s.take 9)
    have b2 := rnum_fst_of (s := s.drop 9)
    have ea : (mkS s).extract 0 9 = mkS (s.take 9) := by rw [mkS_ext]; simp
    have eb : (mkS s).extract 9 s.length = mkS (s.drop 9) := by rw [mkS_ext, List.take_of_length_le (by simp)]
    rw [e]
    unfold dNB at h1 h2 ⊢
    dsimp only
    generalize (rnum (s.take 9)).1 = A at *
    generalize (rnum (s.take 9)).2 = A2 at *
    generalize (rnum (s.drop 9)).1 = B at *
    generalize (rnum (s.drop 9)).2 = B2 at *
    have w1 : IntKind.i64.wrap (10 * ((A : Nat) : Int)) = 10 * (A : Nat) := IntWalk.i64_in _ (by omega)
    have w2 : IntKind.i64.wrap (10 * ((A : Nat) : Int) + (B : Nat)) = ((10 * A + B : Nat) : Int) := by rw [IntWalk.i64_in _ (by omega)]; omega
    have hp : decide ((0 : Int) < (A : Nat)) = decide (0 < A) := decide_eq_decide.2 (by omega)
    generalize decide (s.length = 10) = L at *
    generalize decide (0 < A) = P at *
    cases A2 <;> cases B2 <;> cases P
    all_goals
      refine hspec_fn Tryz.func52 rfl ok_custref_ReadLong okr_custref_ReadLong rfl (by kernel_rfl) ?_
      intro Γ hW0 hN0 hL0
      have hW := hW0 rfl
      clear hW0 hN0 hL0
      unfold x_custref_ReadLong r_custref_ReadLong
      with_reducible refine auC ?_
      repeat' (first
        | (with_reducible refine auS ?_)
        | (first | (simp only [mkS_size, Int.toNat_natCast, hd, hd2, w1, w2, hp, ea, eb]) | (with_reducible refine runR_call h1 ?_) | (with_reducible refine runR_call h2 ?_))
        | (with_reducible refine auD ?_)
        | ((with_reducible refine auB ?_ ?_); all_goals first | (intro h; first | exact auH | simp only [h, runR_t, runR_f] | skip) | skip)
        | fail)
      (all_goals first | exact auP | skip)
      all_goals with_reducible refine auF ?_
      all_goals (try first | with_reducible refine auR ?_ | exact auR0)
      all_goals (try simp only [hsM] at *)
      all_goals first
        | rfl
        | fail
/-- Numbers as a row. -/
abbrev zR (l : List Int) : List (List DV) := l.map fun n => [.v (.int .i64 n)]
theorem zR_one : ∀ l : List Int, allOnes (zR l) = true
  | [] => rfl
  | b :: l => zR_one l
theorem zR_nf (l : List Int) (g : Nat) : nfLL g (zR l) := nfLL_map (fun x => by simp [nfL, nfD])
theorem zR_snoc (l : List Int) (n : Int) : zR l ++ [[.v (.int .i64 n)]] = zR (l ++ [n]) := by simp [zR]
theorem zR_len (l : List Int) : (zR l).length = l.length := by simp [zR]
/-- The numbers so far, and whether all was well. -/
abbrev nO (n m : Nat) (x : NS) : AObj := ⟨n, 1, [[.sl 1 m 1 0 x.1.length false]]⟩
abbrev kO (n : Nat) (x : NS) : AObj := ⟨n, 1, [[.v (.bool x.2)]]⟩
set_option maxHeartbeats 2000000 in
theorem cnum_spec (no rn nk : Nat) (s : W8) (x : NS) (hs : s.length ≤ 1048576) (hx : x.1.length ≤ 1048576) : MSpec Tryz.prog 51 [.v (.string (mkS s)), .ptr 0 no 1 0 0, .ptr 2 nk 1 0 0] [some (nO no rn x), some ⟨rn, 1, zR x.1⟩, some (kO nk x)] 1
    (fun m d H => d = .tup [] ∧ H = [some (nO no m (rNum s x)), none, some (kO nk (rNum s x)), some ⟨m, 1, zR (rNum s x).1⟩]) := by
  have h := readLong_spec s hs
  obtain ⟨l, b⟩ := x
  unfold rNum
  unfold dNB at h
  dsimp only at hx ⊢
  generalize (((rlong s).1 : Nat) : Int) = A at *
  generalize (rlong s).2 = B at *
  have x1 : (l ++ [A]).length = l.length + 1 := by simp
  have hsn := zR_snoc l A
  have hone := zR_one l
  have hln := zR_len l
  cases b <;> cases B
  all_goals
    refine mspec_fn Tryz.func51 rfl ok_custref_lineNumbers_1 okr_custref_lineNumbers_1 rfl (by kernel_rfl) ?_
    intro Γ hW0 hN0 hL0
    clear hW0
    unfold x_custref_lineNumbers_1 r_custref_lineNumbers_1
    with_reducible refine auC ?_
    have hno : no < Γ.g0 := hN0 0 _ rfl
    have hnk : nk < Γ.g0 := hN0 2 _ rfl
    repeat' (first
      | (with_reducible refine auS ?_)
      | (first | (simp only [hsn, hln]) | (with_reducible refine runR_call h ?_))
      | (with_reducible refine auD ?_)
      | ((with_reducible refine auB ?_ ?_); all_goals first | (intro h; first | exact auH | simp only [h, runR_t, runR_f] | skip) | skip)
      | (first | ((with_reducible refine atN ?_); first | (refine runR_n ⟨by trivial, by trivial, by trivial, by trivial, hln.symm⟩ ?_) | (refine runR_n ⟨by trivial, by rw [hln]; unfold room maxLen; simp only [List.length_cons, List.length_nil]; omega⟩ ?_)) | fail))
    (all_goals first | exact auP | skip)
    all_goals refine ret_m [0, 1, 2, 4] [Γ.g0 + 1] ?_ (by decide) rfl (fun a ha => ?_) (fun m => ?_) (fun m => ?_)
    any_goals (first | with_reducible refine auR ?_ | exact auR0)
    all_goals first
      | exact trivial
      | (simp at ha; subst ha; exact ⟨4, _, rfl, rfl⟩)
      | (simp only [renM, renML]; (repeat' (first | exact trivial | exact rfl | apply And.intro)); done)
      | (refine ⟨⟨.inr ⟨hno, rfl⟩, rfl, ?_⟩, ⟨.inr ⟨hnk, rfl⟩, rfl, renMLL_nf _ ⟨⟨trivial, trivial⟩, trivial⟩⟩, ⟨.inl ⟨0, rfl, rfl⟩, rfl, renMLL_nf _ (zR_nf _ _)⟩, rfl⟩
         refine ⟨?_, rfl⟩
         simp only [renML, renM, nfD]
         exact ⟨⟨1, m, .inl ⟨0, rfl, rfl⟩, by rw [x1]⟩, trivial⟩)
set_option maxHeartbeats 2000000 in
theorem cadr_spec (no rn nk : Nat) (s : W8) (x : NS) (hs : s.length ≤ 1048576) (hx : x.1.length ≤ 1048576) : MSpec Tryz.prog 53 [.v (.string (mkS s)), .ptr 0 no 1 0 0, .ptr 2 nk 1 0 0] [some (nO no rn x), some ⟨rn, 1, zR x.1⟩, some (kO nk x)] 1
    (fun m d H => d = .tup [] ∧ H = [some (nO no m (rAdr s x)), none, some (kO nk (rAdr s x)), some ⟨m, 1, zR (rAdr s x).1⟩]) := by
  have h := textAddr_spec s hs
  rw [← adr_same] at h
  obtain ⟨l, b⟩ := x
  have hlt : (parA s).1 < 4294967296 := by
    unfold parA
    split
    · rename_i a ha
      have := foldA_lt _ _ _ (by decide) ha
      split
      · exact this
      · exact Nat.zero_lt_succ _
    · exact Nat.zero_lt_succ _
  have w1 : IntKind.i64.wrap (((parA s).1 : Nat) : Int) = ((parA s).1 : Nat) := IntWalk.i64_in _ (by omega)
  unfold rAdr
  unfold dNE at h
  dsimp only at hx ⊢
  generalize (((parA s).1 : Nat) : Int) = A at *
  generalize (parA s).2 = E at *
  generalize hB : decide (E = 0) = B at *
  have x1 : (l ++ [A]).length = l.length + 1 := by simp
  have hsn := zR_snoc l A
  have hone := zR_one l
  have hln := zR_len l
  cases b <;> cases B
  all_goals
    refine mspec_fn Tryz.func53 rfl ok_custref_lineNumbers_2 okr_custref_lineNumbers_2 rfl (by kernel_rfl) ?_
    intro Γ hW0 hN0 hL0
    clear hW0
    unfold x_custref_lineNumbers_2 r_custref_lineNumbers_2
    with_reducible refine auC ?_
    have hno : no < Γ.g0 := hN0 0 _ rfl
    have hnk : nk < Γ.g0 := hN0 2 _ rfl
    repeat' (first
      | (with_reducible refine auS ?_)
      | (first | (simp only [hsn, hln, w1, hB]) | (with_reducible refine runR_call h ?_))
      | (with_reducible refine auD ?_)
      | ((with_reducible refine auB ?_ ?_); all_goals first | (intro h; first | exact auH | simp only [h, runR_t, runR_f] | skip) | skip)
      | (first | ((with_reducible refine atN ?_); first | (refine runR_n ⟨by trivial, by trivial, by trivial, by trivial, hln.symm⟩ ?_) | (refine runR_n ⟨by trivial, by rw [hln]; unfold room maxLen; simp only [List.length_cons, List.length_nil]; omega⟩ ?_)) | fail))
    (all_goals first | exact auP | skip)
    all_goals refine ret_m [0, 1, 2, 4] [Γ.g0 + 1] ?_ (by decide) rfl (fun a ha => ?_) (fun m => ?_) (fun m => ?_)
    any_goals (first | with_reducible refine auR ?_ | exact auR0)
    all_goals first
      | exact trivial
      | (simp at ha; subst ha; exact ⟨4, _, rfl, rfl⟩)
      | (simp only [renM, renML]; (repeat' (first | exact trivial | exact rfl | apply And.intro)); done)
      | (refine ⟨⟨.inr ⟨hno, rfl⟩, rfl, ?_⟩, ⟨.inr ⟨hnk, rfl⟩, rfl, renMLL_nf _ ⟨⟨trivial, trivial⟩, trivial⟩⟩, ⟨.inl ⟨0, rfl, rfl⟩, rfl, renMLL_nf _ (zR_nf _ _)⟩, rfl⟩
         refine ⟨?_, rfl⟩
         simp only [renML, renM, nfD]
         exact ⟨⟨1, m, .inl ⟨0, rfl, rfl⟩, by rw [x1]⟩, trivial⟩)
theorem args3_label {K : Kr} {w : World} {vs : Array Value} {d : DV} {k1 k2 n1 n2 : Nat} (h : ArgsRel K w [d, .ptr k1 n1 1 0 0, .ptr k2 n2 1 0 0] vs) (j1 j2 : Nat) : ArgsRel K w [d, .ptr j1 n1 1 0 0, .ptr j2 n2 1 0 0] vs := by
  obtain ⟨hs, ha⟩ := h
  refine ⟨hs, fun i e v he hv => ?_⟩
  match i, he with
  | 0, he => exact ha 0 e v he hv
  | 1, he =>
    obtain rfl := Option.some.inj he
    exact ptr_label (ha 1 _ v rfl hv)
  | 2, he =>
    obtain rfl := Option.some.inj he
    exact ptr_label (ha 2 _ v rfl hv)
  | i + 3, he => simp at he
theorem cnumC (k1 k2 no rn nk : Nat) (s : W8) (x : NS) (hs : s.length ≤ 1048576) (hx : x.1.length ≤ 1048576) : MSpec Tryz.prog 51 [.v (.string (mkS s)), .ptr k1 no 1 0 0, .ptr k2 nk 1 0 0] [some (nO no rn x), some ⟨rn, 1, zR x.1⟩, some (kO nk x)] 1
    (fun m d H => d = .tup [] ∧ H = [some (nO no m (rNum s x)), none, some (kO nk (rNum s x)), some ⟨m, 1, zR (rNum s x).1⟩]) :=
  mspec_args (cnum_spec no rn nk s x hs hx) (fun K w vs h => args3_label h 0 2)
theorem cadrC (k1 k2 no rn nk : Nat) (s : W8) (x : NS) (hs : s.length ≤ 1048576) (hx : x.1.length ≤ 1048576) : MSpec Tryz.prog 53 [.v (.string (mkS s)), .ptr k1 no 1 0 0, .ptr k2 nk 1 0 0] [some (nO no rn x), some ⟨rn, 1, zR x.1⟩, some (kO nk x)] 1
    (fun m d H => d = .tup [] ∧ H = [some (nO no m (rAdr s x)), none, some (kO nk (rAdr s x)), some ⟨m, 1, zR (rAdr s x).1⟩]) :=
  mspec_args (cadr_spec no rn nk s x hs hx) (fun K w vs h => args3_label h 0 2)
end Go.Proofs.YtbcamncabckbnaaGreatDoor
