/-
  A rule's line, read by the program; a line of any kind.
-/
import Derived.Test.YtbcamncabckbnaaGreatDoorConfT
namespace Go.Proofs.YtbcamncabckbnaaGreatDoor
set_option linter.unusedVariables false
set_option linter.unusedSimpArgs false
theorem rl_one : ∀ l : List Rl, allOnes (l.map Rl.enc) = true := allOnes_map (fun x => rfl)
set_option maxHeartbeats 8000000 in
theorem line6 (np rn nw : Nat) (p : Pl) (w0 : W8) (r : List W8) (hw : lensW 1048576 (r, false)) (hl : p.rs.length ≤ 1048576) (h1' : ¬ w0 = wOut) (h2' : ¬ w0 = wPorts) (h3' : ¬ w0 = wLife) (h4' : ¬ w0 = wRate) (h5' : ¬ w0 = wElse) : LineS np rn nw p w0 r := by
  have h0 := next0 nw w0 r
  have l1 : lensW 1048576 (vd w0 (r, false)).2 := hw
  have l2 := lens_nt l1
  have l3 := lens_nt l2
  have l4 := lens_nu l3
  have l5 := lens_bo l4
  have h1 := verdict_specW nw (r, false) w0
  have h2 := net_specR nw _ l1
  have h3 := net_specR nw _ l2
  have h4 := number_spec nw _ l3
  have h5 := bounds_specR nw _ l4
  have h6 := bounds_specR nw _ l5
  clear l1 l2 l3 l4 l5
  have el : lineB p w0 (r, false) = ({ p with rs := p.rs ++ [⟨(nt (vd w0 (r, false)).2).1.1, (nt (vd w0 (r, false)).2).1.2, (nt (nt (vd w0 (r, false)).2).2).1.1, (nt (nt (vd w0 (r, false)).2).2).1.2, (nu (nt (nt (vd w0 (r, false)).2).2).2).1, (bo (nu (nt (nt (vd w0 (r, false)).2).2).2).2).1.1, (bo (nu (nt (nt (vd w0 (r, false)).2).2).2).2).1.2, (bo (bo (nu (nt (nt (vd w0 (r, false)).2).2).2).2).2).1.1, (bo (bo (nu (nt (nt (vd w0 (r, false)).2).2).2).2).2).1.2, (vd w0 (r, false)).1⟩] }, (bo (bo (nu (nt (nt (vd w0 (r, false)).2).2).2).2).2).2) := by
    unfold lineB
    rw [if_neg h1', if_neg h2', if_neg h3', if_neg h4', if_neg h5']
    rfl
  unfold LineS
  rw [el]
  generalize (bo (bo (nu (nt (nt (vd w0 (r, false)).2).2).2).2).2).1.1 = E1 at *
  generalize (bo (bo (nu (nt (nt (vd w0 (r, false)).2).2).2).2).2).1.2 = E2 at *
  generalize (bo (bo (nu (nt (nt (vd w0 (r, false)).2).2).2).2).2).2 = T at *
  generalize (bo (nu (nt (nt (vd w0 (r, false)).2).2).2).2).1.1 = D1 at *
  generalize (bo (nu (nt (nt (vd w0 (r, false)).2).2).2).2).1.2 = D2 at *
  generalize (bo (nu (nt (nt (vd w0 (r, false)).2).2).2).2).2 = T5 at *
  generalize (nu (nt (nt (vd w0 (r, false)).2).2).2).1 = C1 at *
  generalize (nu (nt (nt (vd w0 (r, false)).2).2).2).2 = T4 at *
  generalize (nt (nt (vd w0 (r, false)).2).2).1.1 = B1 at *
  generalize (nt (nt (vd w0 (r, false)).2).2).1.2 = B2 at *
  generalize (nt (nt (vd w0 (r, false)).2).2).2 = T3 at *
  generalize (nt (vd w0 (r, false)).2).1.1 = A1 at *
  generalize (nt (vd w0 (r, false)).2).1.2 = A2 at *
  generalize (nt (vd w0 (r, false)).2).2 = T2 at *
  generalize (vd w0 (r, false)).1 = V1 at *
  generalize (vd w0 (r, false)).2 = T1 at *
  have x1 : ∀ x : Rl, (p.rs ++ [x]).length = p.rs.length + 1 := fun x => by simp
  have x2 : ∀ x : Rl, (p.rs ++ [x]).map Rl.enc = p.rs.map Rl.enc ++ [x.enc] := fun x => by simp
  have hone := rl_one p.rs
  have hnf : ∀ g, nfLL g (p.rs.map Rl.enc) := fun g => nfLL_map (fun x => by simp [nfL, nfD])
  have hml : (p.rs.map Rl.enc).length = p.rs.length := by simp
  have hnf2 : ∀ (x : Rl) (g : Nat), nfLL g (p.rs.map Rl.enc ++ [x.enc]) := fun x g => by
    rw [← x2]
    exact nfLL_map (fun x => by simp [nfL, nfD])
  unfold rO
  generalize p.rs.map Rl.enc = X at *
  have c1 : (ByteArray.mk #[111, 117, 116, 115, 105, 100, 101] : ByteArray) = mkS wOut := rfl
  have c2 : (ByteArray.mk #[112, 111, 114, 116, 115] : ByteArray) = mkS wPorts := rfl
  have c3 : (ByteArray.mk #[108, 105, 102, 101] : ByteArray) = mkS wLife := rfl
  have c4 : (ByteArray.mk #[114, 97, 116, 101] : ByteArray) = mkS wRate := rfl
  have c5 : (ByteArray.mk #[101, 108, 115, 101] : ByteArray) = mkS wElse := rfl
  have n21 : decide (mkS wPorts = mkS wOut) = false := decide_eq_false (by rw [mkS_inj]; decide)
  have n31 : decide (mkS wLife = mkS wOut) = false := decide_eq_false (by rw [mkS_inj]; decide)
  have n32 : decide (mkS wLife = mkS wPorts) = false := decide_eq_false (by rw [mkS_inj]; decide)
  have n41 : decide (mkS wRate = mkS wOut) = false := decide_eq_false (by rw [mkS_inj]; decide)
  have n42 : decide (mkS wRate = mkS wPorts) = false := decide_eq_false (by rw [mkS_inj]; decide)
  have n43 : decide (mkS wRate = mkS wLife) = false := decide_eq_false (by rw [mkS_inj]; decide)
  have n51 : decide (mkS wElse = mkS wOut) = false := decide_eq_false (by rw [mkS_inj]; decide)
  have n52 : decide (mkS wElse = mkS wPorts) = false := decide_eq_false (by rw [mkS_inj]; decide)
  have n53 : decide (mkS wElse = mkS wLife) = false := decide_eq_false (by rw [mkS_inj]; decide)
  have n54 : decide (mkS wElse = mkS wRate) = false := decide_eq_false (by rw [mkS_inj]; decide)
  have e0 : ∀ x : ByteArray, decide (x = x) = true := fun x => decide_eq_true rfl
  have d1 : decide (mkS w0 = mkS wOut) = false := decide_eq_false (fun q => h1' (mkS_inj.1 q))
  have d2 : decide (mkS w0 = mkS wPorts) = false := decide_eq_false (fun q => h2' (mkS_inj.1 q))
  have d3 : decide (mkS w0 = mkS wLife) = false := decide_eq_false (fun q => h3' (mkS_inj.1 q))
  have d4 : decide (mkS w0 = mkS wRate) = false := decide_eq_false (fun q => h4' (mkS_inj.1 q))
  have d5 : decide (mkS w0 = mkS wElse) = false := decide_eq_false (fun q => h5' (mkS_inj.1 q))
  obtain ⟨l', b'⟩ := T
  cases b'
  all_goals
    refine mspec_fn Tryz.func25 rfl ok_conf_line okr_conf_line rfl (by kernel_rfl) ?_
    intro Γ hW0 hN0 hL0
    clear hW0
    unfold x_conf_line r_conf_line
    with_reducible refine auC ?_
    have hnp : np < Γ.g0 := hN0 0 _ rfl
    have hnw : nw < Γ.g0 := hN0 2 _ rfl
    repeat' (first
      | (with_reducible refine auS ?_)
      | (first | (simp only [c1, c2, c3, c4, c5, d1, d2, d3, d4, d5, rowW_len, dlen]) | ((with_reducible refine runR_callH 2 ?_ (hspec_ptr 2 h0) (fun _ _ _ h => h) ?_); (exact rfl)) | ((with_reducible refine runR_callH 2 ?_ (hspec_ptr 2 h1) (fun _ _ _ h => h) ?_); (exact rfl)) | ((with_reducible refine runR_callH 2 ?_ (hspec_ptr 2 h2) (fun _ _ _ h => h) ?_); (exact rfl)) | ((with_reducible refine runR_callH 2 ?_ (hspec_ptr 2 h3) (fun _ _ _ h => h) ?_); (exact rfl)) | ((with_reducible refine runR_callH 2 ?_ (hspec_ptr 2 h4) (fun _ _ _ h => h) ?_); (exact rfl)) | ((with_reducible refine runR_callH 2 ?_ (hspec_ptr 2 h5) (fun _ _ _ h => h) ?_); (exact rfl)) | ((with_reducible refine runR_callH 2 ?_ (hspec_ptr 2 h6) (fun _ _ _ h => h) ?_); (exact rfl)))
      | (with_reducible refine auD ?_)
      | ((with_reducible refine auB ?_ ?_); all_goals first | (intro h; first | exact auH | simp only [h, runR_t, runR_f] | skip) | skip)
      | (first | (refine runR_n ⟨by trivial, by trivial, by trivial, by trivial, hml.symm⟩ ?_) | (refine runR_n ⟨by trivial, by rw [hml]; unfold room maxLen; simp only [List.length_cons, List.length_nil]; omega⟩ ?_) | (simp only [hml]) | fail))
    (all_goals first | exact auP | skip)
  all_goals refine ret_m [0, 1, 2, 5] [Γ.g0 + 1 + 1] ?_ (by decide) rfl (fun a ha => ?_) (fun m => ?_) (fun m => ?_)
  any_goals (first | with_reducible refine auR ?_ | exact auR0)
  all_goals first
    | exact trivial
    | (simp at ha; subst ha; exact ⟨5, _, rfl, rfl⟩)
    | (simp only [renM, nfD]; (repeat' (first | exact trivial | exact rfl | apply And.intro)); done)
    | (refine ⟨⟨.inr ⟨hnp, rfl⟩, rfl, ?_⟩, ⟨.inr ⟨hnw, rfl⟩, rfl, renMLL_nf _ ⟨⟨rowS_nf _ _, trivial, trivial⟩, trivial⟩⟩, ⟨.inl ⟨0, rfl, rfl⟩, rfl, ?_⟩, rfl⟩
       · refine ⟨?_, rfl⟩
         simp only [renML, renM, nfD]
         (repeat' (first | exact trivial | exact rfl | exact ⟨1, m, .inl ⟨0, rfl, rfl⟩, by rw [x1]⟩ | apply And.intro))
       · rw [x2]
         exact renMLL_nf _ (hnf2 ⟨A1, A2, B1, B2, C1, D1, D2, E1, E2, V1⟩ _))
theorem line_spec (np rn nw : Nat) (p : Pl) (w0 : W8) (r : List W8) (hw : lensW 1048576 (r, false)) (hl : p.rs.length ≤ 1048576) : LineS np rn nw p w0 r := by
  by_cases h1 : w0 = wOut
  · subst h1
    exact line1 np rn nw p r hw
  by_cases h2 : w0 = wPorts
  · subst h2
    exact line2 np rn nw p r hw
  by_cases h3 : w0 = wLife
  · subst h3
    exact line3 np rn nw p r hw
  by_cases h4 : w0 = wRate
  · subst h4
    exact line4 np rn nw p r hw
  by_cases h5 : w0 = wElse
  · subst h5
    exact line5 np rn nw p r hw
  exact line6 np rn nw p w0 r hw hl h1 h2 h3 h4 h5
/-- The same, whatever the caller calls the plan's place. -/
theorem lineC (k np rn nw : Nat) (p : Pl) (w0 : W8) (r : List W8) (hw : lensW 1048576 (r, false)) (hl : p.rs.length ≤ 1048576) : MSpec Tryz.prog 25 [.ptr k np 8 0 0, .ptr 2 nw 2 0 0] [some (pO np rn p), some (rO rn p), some (wO nw (w0 :: r, false))] 1
  (fun m d H => d = .v (.string (mkS w0)) ∧ H = [some (pO np m (lineB p w0 (r, false)).1), none, some (wO nw (finW (lineB p w0 (r, false)).2)), some (rO m (lineB p w0 (r, false)).1)]) := mspec_ptr k (line_spec np rn nw p w0 r hw hl)
end Go.Proofs.YtbcamncabckbnaaGreatDoor
