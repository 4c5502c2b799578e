/-
  A line of a plan, read by the program.
-/
import Derived.Test.YtbcamncabckbnaaGreatDoorConfU
import Derived.Test.YtbcamncabckbnaaGreatDoorNamN
namespace Go.Proofs.YtbcamncabckbnaaGreatDoor
set_option linter.unusedVariables false
set_option linter.unusedSimpArgs false
theorem le_ln {tm : Env} {np rn g k len : Nat} {a1 a2 a3 a4 a5 a6 b : DV} {rows : List (List DV)} {T : HL} : Le ⟨tm, some ⟨np, 8, [[a1, a2, a3, a4, a5, a6, .sl k rn 10 0 len false, b]]⟩ :: some ⟨rn, 10, rows⟩ :: T, g⟩ ⟨tm, some ⟨np, 8, [[a1, a2, a3, a4, a5, a6, .sl k g 10 0 len false, b]]⟩ :: some ⟨g, 10, rows⟩ :: T, g + 1⟩ := by
  refine le_names (st := ⟨tm, some ⟨np, 8, [[a1, a2, a3, a4, a5, a6, .sl k rn 10 0 len false, b]]⟩ :: some ⟨rn, 10, rows⟩ :: T, g⟩) (fun _ => rn) 1 (fun i p hp => ?_)
  match i, hp with
  | 0, hp =>
    refine ⟨_, rfl, .inr ?_⟩
    obtain rfl := Option.some.inj hp
    refine ⟨.inl rfl, by show 0 < 8; omega, rfl, rfl, fun i y hy => ?_⟩
    match i, hy with
    | 0, hy =>
      obtain rfl := Option.some.inj hy
      refine ⟨_, rfl, rfl, fun t e he => ?_⟩
      match t, he with
      | 6, he =>
        obtain rfl := Option.some.inj he
        exact ⟨_, rfl, .inr ⟨0, _, _, _, _, _, _, by omega, rfl, rfl⟩⟩
      | 0, he => exact ⟨e, he, .inl rfl⟩
      | 1, he => exact ⟨e, he, .inl rfl⟩
      | 2, he => exact ⟨e, he, .inl rfl⟩
      | 3, he => exact ⟨e, he, .inl rfl⟩
      | 4, he => exact ⟨e, he, .inl rfl⟩
      | 5, he => exact ⟨e, he, .inl rfl⟩
      | 7, he => exact ⟨e, he, .inl rfl⟩
      | t + 8, he => simp at he
    | i + 1, hy => simp at hy
  | 1, hp =>
    refine ⟨_, rfl, .inr ?_⟩
    obtain rfl := Option.some.inj hp
    exact ⟨.inr ⟨0, by omega, rfl, rfl⟩, by show 0 < 10; omega, rfl, rfl, fun i y hy => ⟨y, hy, rfl, fun t e he => ⟨e, he, .inl rfl⟩⟩⟩
  | i + 2, hp => exact ⟨p, hp, .inl rfl⟩
theorem dlen (n : Nat) : decide ((0 : Int) < ((n : Nat) : Int)) = decide (0 < n) := by simp
theorem rowW_len (l : List W8) : (rowS (l.map mkS)).length = l.length := by simp [rowS]
abbrev pO (np m : Nat) (p : Pl) : AObj := ⟨np, 8, [p.enc (.sl 1 m 10 0 p.rs.length false)]⟩
abbrev rO (m : Nat) (p : Pl) : AObj := ⟨m, 10, p.rs.map Rl.enc⟩
def finW (t : WS) : WS := (t.1, badL t)
/-- What a line does to a plan and to its words. -/
abbrev LineS (np rn nw : Nat) (p : Pl) (w0 : W8) (r : List W8) : Prop := MSpec Tryz.prog 25 [.ptr 0 np 8 0 0, .ptr 2 nw 2 0 0] [some (pO np rn p), some (rO rn p), some (wO nw (w0 :: r, false))] 1
  (fun m d H => d = .v (.string (mkS w0)) ∧ H = [some (pO np m (lineB p w0 (r, false)).1), none, some (wO nw (finW (lineB p w0 (r, false)).2)), some (rO m (lineB p w0 (r, false)).1)])
theorem next0 (nw : Nat) (w0 : W8) (r : List W8) : HSpec Tryz.prog 42 [.ptr 0 nw 2 0 0] [some (wO nw (w0 :: r, false))] (fun d H => d = .v (.string (mkS w0)) ∧ H = [some (wO nw (r, false))]) := next_spec nw (w0 :: r, false)
set_option maxHeartbeats 4000000 in
theorem line1 (np rn nw : Nat) (p : Pl) (r : List W8) (hw : lensW 1048576 (r, false)) : LineS np rn nw p wOut r := by
  have h0 := next0 nw wOut r
  have h1 := next_spec nw (r, false)
  have h2 := addr_specW nw (nx (r, false)).2 (nx (r, false)).1 (lensW_nx hw).1
  have el : lineB p wOut (r, false) = ({ p with ou := (ad (nx (r, false)).1 (nx (r, false)).2).1 }, (ad (nx (r, false)).1 (nx (r, false)).2).2) := by
    unfold lineB
    rw [if_pos rfl]
  unfold LineS
  rw [el]
  generalize (ad (nx (r, false)).1 (nx (r, false)).2).1 = A at *
  generalize (ad (nx (r, false)).1 (nx (r, false)).2).2 = T at *
  have c1 : (ByteArray.mk #[111, 117, 116, 115, 105, 100, 101] : ByteArray) = mkS wOut := rfl
  have c2 : (ByteArray.mk #[112, 111, 114, 116, 115] : ByteArray) = mkS wPorts := rfl
  have c3 : (ByteArray.mk #[108, 105, 102, 101] : ByteArray) = mkS wLife := rfl
  have c4 : (ByteArray.mk #[114, 97, 116, 101] : ByteArray) = mkS wRate := rfl
  have c5 : (ByteArray.mk #[101, 108, 115, 101] : ByteArray) = mkS wElse := rfl
  have n21 : decide (mkS wPorts = mkS wOut) = false := decide_eq_false (by rw [mkS_inj]; decide)
  have n31 : decide (mkS wLife = mkS wOut) = false := decide_eq_false (by rw [mkS_inj]; decide)
  have n32 : decide (mkS wLife = mkS wPorts) = false := decide_eq_false (by rw [mkS_inj]; decide)
  have n41 : decide (mkS wRate = mkS wOut) = false := decide_eq_false (by rw [mkS_inj]; decide)
  have n42 : decide (mkS wRate = mkS wPorts) = false := decide_eq_false (by rw [mkS_inj]; decide)
  have n43 : decide (mkS wRate = mkS wLife) = false := decide_eq_false (by rw [mkS_inj]; decide)
  have n51 : decide (mkS wElse = mkS wOut) = false := decide_eq_false (by rw [mkS_inj]; decide)
  have n52 : decide (mkS wElse = mkS wPorts) = false := decide_eq_false (by rw [mkS_inj]; decide)
  have n53 : decide (mkS wElse = mkS wLife) = false := decide_eq_false (by rw [mkS_inj]; decide)
  have n54 : decide (mkS wElse = mkS wRate) = false := decide_eq_false (by rw [mkS_inj]; decide)
  have e0 : ∀ x : ByteArray, decide (x = x) = true := fun x => decide_eq_true rfl
  obtain ⟨l', b'⟩ := T
  cases b'
  all_goals
    refine mspec_fn Tryz.func25 rfl ok_conf_line okr_conf_line rfl (by kernel_rfl) ?_
    intro Γ hW0 hN0 hL0
    clear hW0
    unfold x_conf_line r_conf_line
    with_reducible refine auC ?_
    have hnp : np < Γ.g0 := hN0 0 _ rfl
    have hnw : nw < Γ.g0 := hN0 2 _ rfl
    repeat' (first
      | (with_reducible refine auS ?_)
      | (first | (simp only [c1, c2, c3, c4, c5, e0, n21, rowW_len, dlen]) | ((with_reducible refine runR_callH 2 ?_ (hspec_ptr 2 h0) (fun _ _ _ h => h) ?_); (exact rfl)) | ((with_reducible refine runR_callH 2 ?_ (hspec_ptr 2 h1) (fun _ _ _ h => h) ?_); (exact rfl)) | ((with_reducible refine runR_callH 2 ?_ (hspec_ptr 2 h2) (fun _ _ _ h => h) ?_); (exact rfl)))
      | (with_reducible refine auD ?_)
      | ((with_reducible refine auB ?_ ?_); all_goals first | (intro h; first | exact auH | simp only [h, runR_t, runR_f] | skip) | skip)
      | fail)
    (all_goals first | exact auP | skip)
    all_goals refine retqm_le (le_leG le_ln) ?_
    all_goals refine ret_m [0, 6, 2, 1] [Γ.g0] ?_ (by decide) rfl (fun a ha => ?_) (fun m => ?_) (fun m => ?_)
    any_goals (first | with_reducible refine auR ?_ | exact auR0)
    all_goals first
      | exact trivial
      | (simp at ha; subst ha; exact ⟨1, _, rfl, rfl⟩)
      | (simp only [renM, nfD]; (repeat' (first | exact trivial | exact rfl | apply And.intro)); done)
      | (refine ⟨⟨.inr ⟨hnp, rfl⟩, rfl, ?_⟩, ⟨.inr ⟨hnw, rfl⟩, rfl, renMLL_nf _ ⟨⟨rowS_nf _ _, trivial, trivial⟩, trivial⟩⟩, ⟨.inl ⟨0, rfl, rfl⟩, rfl, renMLL_nf _ (nfLL_map (fun x => by simp [nfL, nfD]))⟩, rfl⟩; refine ⟨?_, rfl⟩; simp only [renML, renM, nfD]; (repeat' (first | exact trivial | exact rfl | exact ⟨_, _, .inl ⟨0, rfl, rfl⟩, rfl⟩ | apply And.intro)))
set_option maxHeartbeats 4000000 in
theorem line2 (np rn nw : Nat) (p : Pl) (r : List W8) (hw : lensW 1048576 (r, false)) : LineS np rn nw p wPorts r := by
  have h0 := next0 nw wPorts r
  have h1 := number_spec nw (r, false) hw
  have h2 := number_spec nw (nu (r, false)).2 (lens_nu hw)
  have el : lineB p wPorts (r, false) = ({ p with lt := (nu (r, false)).1, st := (nu (nu (r, false)).2).1 }, (nu (nu (r, false)).2).2) := by
    unfold lineB
    rw [if_neg (by decide), if_pos rfl]
  unfold LineS
  rw [el]
  generalize (nu (nu (r, false)).2).1 = B at *
  generalize (nu (nu (r, false)).2).2 = T at *
  generalize (nu (r, false)).1 = A at *
  generalize (nu (r, false)).2 = T1 at *
  have c1 : (ByteArray.mk #[111, 117, 116, 115, 105, 100, 101] : ByteArray) = mkS wOut := rfl
  have c2 : (ByteArray.mk #[112, 111, 114, 116, 115] : ByteArray) = mkS wPorts := rfl
  have c3 : (ByteArray.mk #[108, 105, 102, 101] : ByteArray) = mkS wLife := rfl
  have c4 : (ByteArray.mk #[114, 97, 116, 101] : ByteArray) = mkS wRate := rfl
  have c5 : (ByteArray.mk #[101, 108, 115, 101] : ByteArray) = mkS wElse := rfl
  have n21 : decide (mkS wPorts = mkS wOut) = false := decide_eq_false (by rw [mkS_inj]; decide)
  have n31 : decide (mkS wLife = mkS wOut) = false := decide_eq_false (by rw [mkS_inj]; decide)
  have n32 : decide (mkS wLife = mkS wPorts) = false := decide_eq_false (by rw [mkS_inj]; decide)
  have n41 : decide (mkS wRate = mkS wOut) = false := decide_eq_false (by rw [mkS_inj]; decide)
  have n42 : decide (mkS wRate = mkS wPorts) = false := decide_eq_false (by rw [mkS_inj]; decide)
  have n43 : decide (mkS wRate = mkS wLife) = false := decide_eq_false (by rw [mkS_inj]; decide)
  have n51 : decide (mkS wElse = mkS wOut) = false := decide_eq_false (by rw [mkS_inj]; decide)
  have n52 : decide (mkS wElse = mkS wPorts) = false := decide_eq_false (by rw [mkS_inj]; decide)
  have n53 : decide (mkS wElse = mkS wLife) = false := decide_eq_false (by rw [mkS_inj]; decide)
  have n54 : decide (mkS wElse = mkS wRate) = false := decide_eq_false (by rw [mkS_inj]; decide)
  have e0 : ∀ x : ByteArray, decide (x = x) = true := fun x => decide_eq_true rfl
  obtain ⟨l', b'⟩ := T
  cases b'
  all_goals
    refine mspec_fn Tryz.func25 rfl ok_conf_line okr_conf_line rfl (by kernel_rfl) ?_
    intro Γ hW0 hN0 hL0
    clear hW0
    unfold x_conf_line r_conf_line
    with_reducible refine auC ?_
    have hnp : np < Γ.g0 := hN0 0 _ rfl
    have hnw : nw < Γ.g0 := hN0 2 _ rfl
    repeat' (first
      | (with_reducible refine auS ?_)
      | (first | (simp only [c1, c2, c3, c4, c5, e0, n21, rowW_len, dlen]) | ((with_reducible refine runR_callH 2 ?_ (hspec_ptr 2 h0) (fun _ _ _ h => h) ?_); (exact rfl)) | ((with_reducible refine runR_callH 2 ?_ (hspec_ptr 2 h1) (fun _ _ _ h => h) ?_); (exact rfl)) | ((with_reducible refine runR_callH 2 ?_ (hspec_ptr 2 h2) (fun _ _ _ h => h) ?_); (exact rfl)))
      | (with_reducible refine auD ?_)
      | ((with_reducible refine auB ?_ ?_); all_goals first | (intro h; first | exact auH | simp only [h, runR_t, runR_f] | skip) | skip)
      | fail)
    (all_goals first | exact auP | skip)
    all_goals refine retqm_le (le_leG le_ln) ?_
    all_goals refine ret_m [0, 6, 2, 1] [Γ.g0] ?_ (by decide) rfl (fun a ha => ?_) (fun m => ?_) (fun m => ?_)
    any_goals (first | with_reducible refine auR ?_ | exact auR0)
    all_goals first
      | exact trivial
      | (simp at ha; subst ha; exact ⟨1, _, rfl, rfl⟩)
      | (simp only [renM, nfD]; (repeat' (first | exact trivial | exact rfl | apply And.intro)); done)
      | (refine ⟨⟨.inr ⟨hnp, rfl⟩, rfl, ?_⟩, ⟨.inr ⟨hnw, rfl⟩, rfl, renMLL_nf _ ⟨⟨rowS_nf _ _, trivial, trivial⟩, trivial⟩⟩, ⟨.inl ⟨0, rfl, rfl⟩, rfl, renMLL_nf _ (nfLL_map (fun x => by simp [nfL, nfD]))⟩, rfl⟩; refine ⟨?_, rfl⟩; simp only [renML, renM, nfD]; (repeat' (first | exact trivial | exact rfl | exact ⟨_, _, .inl ⟨0, rfl, rfl⟩, rfl⟩ | apply And.intro)))
set_option maxHeartbeats 4000000 in
theorem line3 (np rn nw : Nat) (p : Pl) (r : List W8) (hw : lensW 1048576 (r, false)) : LineS np rn nw p wLife r := by
  have h0 := next0 nw wLife r
  have h1 := number_spec nw (r, false) hw
  have h2 := h1
  have el : lineB p wLife (r, false) = ({ p with lf := (nu (r, false)).1 }, (nu (r, false)).2) := by
    unfold lineB
    rw [if_neg (by decide), if_neg (by decide), if_pos rfl]
  unfold LineS
  rw [el]
  generalize (nu (r, false)).1 = A at *
  generalize (nu (r, false)).2 = T at *
  have c1 : (ByteArray.mk #[111, 117, 116, 115, 105, 100, 101] : ByteArray) = mkS wOut := rfl
  have c2 : (ByteArray.mk #[112, 111, 114, 116, 115] : ByteArray) = mkS wPorts := rfl
  have c3 : (ByteArray.mk #[108, 105, 102, 101] : ByteArray) = mkS wLife := rfl
  have c4 : (ByteArray.mk #[114, 97, 116, 101] : ByteArray) = mkS wRate := rfl
  have c5 : (ByteArray.mk #[101, 108, 115, 101] : ByteArray) = mkS wElse := rfl
  have n21 : decide (mkS wPorts = mkS wOut) = false := decide_eq_false (by rw [mkS_inj]; decide)
  have n31 : decide (mkS wLife = mkS wOut) = false := decide_eq_false (by rw [mkS_inj]; decide)
  have n32 : decide (mkS wLife = mkS wPorts) = false := decide_eq_false (by rw [mkS_inj]; decide)
  have n41 : decide (mkS wRate = mkS wOut) = false := decide_eq_false (by rw [mkS_inj]; decide)
  have n42 : decide (mkS wRate = mkS wPorts) = false := decide_eq_false (by rw [mkS_inj]; decide)
  have n43 : decide (mkS wRate = mkS wLife) = false := decide_eq_false (by rw [mkS_inj]; decide)
  have n51 : decide (mkS wElse = mkS wOut) = false := decide_eq_false (by rw [mkS_inj]; decide)
  have n52 : decide (mkS wElse = mkS wPorts) = false := decide_eq_false (by rw [mkS_inj]; decide)
  have n53 : decide (mkS wElse = mkS wLife) = false := decide_eq_false (by rw [mkS_inj]; decide)
  have n54 : decide (mkS wElse = mkS wRate) = false := decide_eq_false (by rw [mkS_inj]; decide)
  have e0 : ∀ x : ByteArray, decide (x = x) = true := fun x => decide_eq_true rfl
  obtain ⟨l', b'⟩ := T
  cases b'
  all_goals
    refine mspec_fn Tryz.func25 rfl ok_conf_line okr_conf_line rfl (by kernel_rfl) ?_
    intro Γ hW0 hN0 hL0
    clear hW0
    unfold x_conf_line r_conf_line
    with_reducible refine auC ?_
    have hnp : np < Γ.g0 := hN0 0 _ rfl
    have hnw : nw < Γ.g0 := hN0 2 _ rfl
    repeat' (first
      | (with_reducible refine auS ?_)
      | (first | (simp only [c1, c2, c3, c4, c5, e0, n31, n32, rowW_len, dlen]) | ((with_reducible refine runR_callH 2 ?_ (hspec_ptr 2 h0) (fun _ _ _ h => h) ?_); (exact rfl)) | ((with_reducible refine runR_callH 2 ?_ (hspec_ptr 2 h1) (fun _ _ _ h => h) ?_); (exact rfl)) | ((with_reducible refine runR_callH 2 ?_ (hspec_ptr 2 h2) (fun _ _ _ h => h) ?_); (exact rfl)))
      | (with_reducible refine auD ?_)
      | ((with_reducible refine auB ?_ ?_); all_goals first | (intro h; first | exact auH | simp only [h, runR_t, runR_f] | skip) | skip)
      | fail)
    (all_goals first | exact auP | skip)
    all_goals refine retqm_le (le_leG le_ln) ?_
    all_goals refine ret_m [0, 6, 2, 1] [Γ.g0] ?_ (by decide) rfl (fun a ha => ?_) (fun m => ?_) (fun m => ?_)
    any_goals (first | with_reducible refine auR ?_ | exact auR0)
    all_goals first
      | exact trivial
      | (simp at ha; subst ha; exact ⟨1, _, rfl, rfl⟩)
      | (simp only [renM, nfD]; (repeat' (first | exact trivial | exact rfl | apply And.intro)); done)
      | (refine ⟨⟨.inr ⟨hnp, rfl⟩, rfl, ?_⟩, ⟨.inr ⟨hnw, rfl⟩, rfl, renMLL_nf _ ⟨⟨rowS_nf _ _, trivial, trivial⟩, trivial⟩⟩, ⟨.inl ⟨0, rfl, rfl⟩, rfl, renMLL_nf _ (nfLL_map (fun x => by simp [nfL, nfD]))⟩, rfl⟩; refine ⟨?_, rfl⟩; simp only [renML, renM, nfD]; (repeat' (first | exact trivial | exact rfl | exact ⟨_, _, .inl ⟨0, rfl, rfl⟩, rfl⟩ | apply And.intro)))
set_option maxHeartbeats 4000000 in
theorem line4 (np rn nw : Nat) (p : Pl) (r : List W8) (hw : lensW 1048576 (r, false)) : LineS np rn nw p wRate r := by
  have h0 := next0 nw wRate r
  have h1 := number_spec nw (r, false) hw
  have h2 := number_spec nw (nu (r, false)).2 (lens_nu hw)
  have el : lineB p wRate (r, false) = ({ p with ra := (nu (r, false)).1, mo := (nu (nu (r, false)).2).1 }, (nu (nu (r, false)).2).2) := by
    unfold lineB
    rw [if_neg (by decide), if_neg (by decide), if_neg (by decide), if_pos rfl]
  unfold LineS
  rw [el]
  generalize (nu (nu (r, false)).2).1 = B at *
  generalize (nu (nu (r, false)).2).2 = T at *
  generalize (nu (r, false)).1 = A at *
  generalize (nu (r, false)).2 = T1 at *
  have c1 : (ByteArray.mk #[111, 117, 116, 115, 105, 100, 101] : ByteArray) = mkS wOut := rfl
  have c2 : (ByteArray.mk #[112, 111, 114, 116, 115] : ByteArray) = mkS wPorts := rfl
  have c3 : (ByteArray.mk #[108, 105, 102, 101] : ByteArray) = mkS wLife := rfl
  have c4 : (ByteArray.mk #[114, 97, 116, 101] : ByteArray) = mkS wRate := rfl
  have c5 : (ByteArray.mk #[101, 108, 115, 101] : ByteArray) = mkS wElse := rfl
  have n21 : decide (mkS wPorts = mkS wOut) = false := decide_eq_false (by rw [mkS_inj]; decide)
  have n31 : decide (mkS wLife = mkS wOut) = false := decide_eq_false (by rw [mkS_inj]; decide)
  have n32 : decide (mkS wLife = mkS wPorts) = false := decide_eq_false (by rw [mkS_inj]; decide)
  have n41 : decide (mkS wRate = mkS wOut) = false := decide_eq_false (by rw [mkS_inj]; decide)
  have n42 : decide (mkS wRate = mkS wPorts) = false := decide_eq_false (by rw [mkS_inj]; decide)
  have n43 : decide (mkS wRate = mkS wLife) = false := decide_eq_false (by rw [mkS_inj]; decide)
  have n51 : decide (mkS wElse = mkS wOut) = false := decide_eq_false (by rw [mkS_inj]; decide)
  have n52 : decide (mkS wElse = mkS wPorts) = false := decide_eq_false (by rw [mkS_inj]; decide)
  have n53 : decide (mkS wElse = mkS wLife) = false := decide_eq_false (by rw [mkS_inj]; decide)
  have n54 : decide (mkS wElse = mkS wRate) = false := decide_eq_false (by rw [mkS_inj]; decide)
  have e0 : ∀ x : ByteArray, decide (x = x) = true := fun x => decide_eq_true rfl
  obtain ⟨l', b'⟩ := T
  cases b'
  all_goals
    refine mspec_fn Tryz.func25 rfl ok_conf_line okr_conf_line rfl (by kernel_rfl) ?_
    intro Γ hW0 hN0 hL0
    clear hW0
    unfold x_conf_line r_conf_line
    with_reducible refine auC ?_
    have hnp : np < Γ.g0 := hN0 0 _ rfl
    have hnw : nw < Γ.g0 := hN0 2 _ rfl
    repeat' (first
      | (with_reducible refine auS ?_)
      | (first | (simp only [c1, c2, c3, c4, c5, e0, n41, n42, n43, rowW_len, dlen]) | ((with_reducible refine runR_callH 2 ?_ (hspec_ptr 2 h0) (fun _ _ _ h => h) ?_); (exact rfl)) | ((with_reducible refine runR_callH 2 ?_ (hspec_ptr 2 h1) (fun _ _ _ h => h) ?_); (exact rfl)) | ((with_reducible refine runR_callH 2 ?_ (hspec_ptr 2 h2) (fun _ _ _ h => h) ?_); (exact rfl)))
      | (with_reducible refine auD ?_)
      | ((with_reducible refine auB ?_ ?_); all_goals first | (intro h; first | exact auH | simp only [h, runR_t, runR_f] | skip) | skip)
      | fail)
    (all_goals first | exact auP | skip)
    all_goals refine retqm_le (le_leG le_ln) ?_
    all_goals refine ret_m [0, 6, 2, 1] [Γ.g0] ?_ (by decide) rfl (fun a ha => ?_) (fun m => ?_) (fun m => ?_)
    any_goals (first | with_reducible refine auR ?_ | exact auR0)
    all_goals first
      | exact trivial
      | (simp at ha; subst ha; exact ⟨1, _, rfl, rfl⟩)
      | (simp only [renM, nfD]; (repeat' (first | exact trivial | exact rfl | apply And.intro)); done)
      | (refine ⟨⟨.inr ⟨hnp, rfl⟩, rfl, ?_⟩, ⟨.inr ⟨hnw, rfl⟩, rfl, renMLL_nf _ ⟨⟨rowS_nf _ _, trivial, trivial⟩, trivial⟩⟩, ⟨.inl ⟨0, rfl, rfl⟩, rfl, renMLL_nf _ (nfLL_map (fun x => by simp [nfL, nfD]))⟩, rfl⟩; refine ⟨?_, rfl⟩; simp only [renML, renM, nfD]; (repeat' (first | exact trivial | exact rfl | exact ⟨_, _, .inl ⟨0, rfl, rfl⟩, rfl⟩ | apply And.intro)))
set_option maxHeartbeats 4000000 in
theorem line5 (np rn nw : Nat) (p : Pl) (r : List W8) (hw : lensW 1048576 (r, false)) : LineS np rn nw p wElse r := by
  have h0 := next0 nw wElse r
  have h1 := next_spec nw (r, false)
  have h2 := verdict_specW nw (nx (r, false)).2 (nx (r, false)).1
  have el : lineB p wElse (r, false) = ({ p with el := (vd (nx (r, false)).1 (nx (r, false)).2).1 }, (vd (nx (r, false)).1 (nx (r, false)).2).2) := by
    unfold lineB
    rw [if_neg (by decide), if_neg (by decide), if_neg (by decide), if_neg (by decide), if_pos rfl]
  unfold LineS
  rw [el]
  generalize (vd (nx (r, false)).1 (nx (r, false)).2).1 = A at *
  generalize (vd (nx (r, false)).1 (nx (r, false)).2).2 = T at *
  generalize (nx (r, false)).1 = s1 at *
  generalize (nx (r, false)).2 = t1 at *
  have c1 : (ByteArray.mk #[111, 117, 116, 115, 105, 100, 101] : ByteArray) = mkS wOut := rfl
  have c2 : (ByteArray.mk #[112, 111, 114, 116, 115] : ByteArray) = mkS wPorts := rfl
  have c3 : (ByteArray.mk #[108, 105, 102, 101] : ByteArray) = mkS wLife := rfl
  have c4 : (ByteArray.mk #[114, 97, 116, 101] : ByteArray) = mkS wRate := rfl
  have c5 : (ByteArray.mk #[101, 108, 115, 101] : ByteArray) = mkS wElse := rfl
  have n21 : decide (mkS wPorts = mkS wOut) = false := decide_eq_false (by rw [mkS_inj]; decide)
  have n31 : decide (mkS wLife = mkS wOut) = false := decide_eq_false (by rw [mkS_inj]; decide)
  have n32 : decide (mkS wLife = mkS wPorts) = false := decide_eq_false (by rw [mkS_inj]; decide)
  have n41 : decide (mkS wRate = mkS wOut) = false := decide_eq_false (by rw [mkS_inj]; decide)
  have n42 : decide (mkS wRate = mkS wPorts) = false := decide_eq_false (by rw [mkS_inj]; decide)
  have n43 : decide (mkS wRate = mkS wLife) = false := decide_eq_false (by rw [mkS_inj]; decide)
  have n51 : decide (mkS wElse = mkS wOut) = false := decide_eq_false (by rw [mkS_inj]; decide)
  have n52 : decide (mkS wElse = mkS wPorts) = false := decide_eq_false (by rw [mkS_inj]; decide)
  have n53 : decide (mkS wElse = mkS wLife) = false := decide_eq_false (by rw [mkS_inj]; decide)
  have n54 : decide (mkS wElse = mkS wRate) = false := decide_eq_false (by rw [mkS_inj]; decide)
  have e0 : ∀ x : ByteArray, decide (x = x) = true := fun x => decide_eq_true rfl
  obtain ⟨l', b'⟩ := T
  cases b'
  all_goals
    refine mspec_fn Tryz.func25 rfl ok_conf_line okr_conf_line rfl (by kernel_rfl) ?_
    intro Γ hW0 hN0 hL0
    clear hW0
    unfold x_conf_line r_conf_line
    with_reducible refine auC ?_
    have hnp : np < Γ.g0 := hN0 0 _ rfl
    have hnw : nw < Γ.g0 := hN0 2 _ rfl
    repeat' (first
      | (with_reducible refine auS ?_)
      | (first | (simp only [c1, c2, c3, c4, c5, e0, n51, n52, n53, n54, rowW_len, dlen]) | ((with_reducible refine runR_callH 2 ?_ (hspec_ptr 2 h0) (fun _ _ _ h => h) ?_); (exact rfl)) | ((with_reducible refine runR_callH 2 ?_ (hspec_ptr 2 h1) (fun _ _ _ h => h) ?_); (exact rfl)) | ((with_reducible refine runR_callH 2 ?_ (hspec_ptr 2 h2) (fun _ _ _ h => h) ?_); (exact rfl)))
      | (with_reducible refine auD ?_)
      | ((with_reducible refine auB ?_ ?_); all_goals first | (intro h; first | exact auH | simp only [h, runR_t, runR_f] | skip) | skip)
      | fail)
    (all_goals first | exact auP | skip)
    all_goals refine retqm_le (le_leG le_ln) ?_
    all_goals refine ret_m [0, 6, 2, 1] [Γ.g0] ?_ (by decide) rfl (fun a ha => ?_) (fun m => ?_) (fun m => ?_)
    any_goals (first | with_reducible refine auR ?_ | exact auR0)
    all_goals first
      | exact trivial
      | (simp at ha; subst ha; exact ⟨1, _, rfl, rfl⟩)
      | (simp only [renM, nfD]; (repeat' (first | exact trivial | exact rfl | apply And.intro)); done)
      | (refine ⟨⟨.inr ⟨hnp, rfl⟩, rfl, ?_⟩, ⟨.inr ⟨hnw, rfl⟩, rfl, renMLL_nf _ ⟨⟨rowS_nf _ _, trivial, trivial⟩, trivial⟩⟩, ⟨.inl ⟨0, rfl, rfl⟩, rfl, renMLL_nf _ (nfLL_map (fun x => by simp [nfL, nfD]))⟩, rfl⟩; refine ⟨?_, rfl⟩; simp only [renML, renM, nfD]; (repeat' (first | exact trivial | exact rfl | exact ⟨_, _, .inl ⟨0, rfl, rfl⟩, rfl⟩ | apply And.intro)))
end Go.Proofs.YtbcamncabckbnaaGreatDoor
