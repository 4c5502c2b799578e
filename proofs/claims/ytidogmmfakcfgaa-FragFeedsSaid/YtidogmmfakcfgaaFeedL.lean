/-
  A part is put into a heap: there is room.
-/
import Derived.Test.YtidogmmfakcfgaaFeedI
namespace Go.Proofs.Ytidogmmfakcfgaa
set_option linter.unusedVariables false
set_option linter.unusedSimpArgs false
set_option maxHeartbeats 4000000 in
theorem put_new (n : Nat) (R : List (List DV)) (i m : Nat) (u : Hp) (v : Pt) (hh : putHyp n R i m u v) (hs : scanR v u.ps = none) (h64 : u.ps.length < 64) :
    MSpec Try.prog 16 [.ptr 0 n 8 i 0, .agg v.enc] [some ⟨n, 8, R⟩, some ⟨m, 3, u.ps.map Pt.enc⟩] 1 (fun q d H => d = .tup [.v (.bool true), .v (.int .i64 0)] ∧ H = [some ⟨n, 8, xset R i (u.cells (slP 1 q (insP v u.ps)))⟩, none, some ⟨q, 3, (insP v u.ps).map Pt.enc⟩]) := by
  obtain ⟨hiR, hx, hR, hl, hch, hv, hd, hvd⟩ := hh
  have hs0 := scan0 v u.ps hch hs
  obtain ⟨rr, hrr⟩ : ∃ rr, rr = ((none : Option Bool), lows v u.ps) := ⟨_, rfl⟩
  rw [← hrr] at hs0
  have hlo := lows_le v u.ps
  have hlen := insP_len v u.ps
  clear hs
  have hins := fun nv => ins_args 1 4 m nv u.ps v (lows v u.ps) hlo hl
  have hnew : ∀ q, insO q (newL v (lows v u.ps) u.ps) = insO q (insP v u.ps) := fun q => rfl
  simp only [hnew] at hins
  rw [← hlen] at hins
  generalize insP v u.ps = L at *
  obtain ⟨fr, to, pr, id, tos, life, opt, ps⟩ := u
  obtain ⟨va, vd, vl⟩ := v
  dsimp only at *
  have hvo := ptOk_fact hv
  have h2 := end_spec ⟨va, vd, vl⟩ ⟨hvo.2.1, hvo.2.2.2.1⟩ hvd
  refine mspec_fn Try.func16 rfl ok_frag_put okr_frag_put rfl (by kernel_rfl) ?_
  intro Γ hW0 hN0 hL0
  clear hW0
  unfold x_frag_put r_frag_put
  with_reducible refine auC ?_
  have hn : n < Γ.g0 := hN0 0 _ rfl
  have hm : m < Γ.g0 := hN0 1 _ rfl
  repeat' (first
    | (with_reducible refine auS ?_)
    | (simp only [hx])
    | (with_reducible refine auD ?_)
    | ((with_reducible refine auB ?_ ?_); all_goals first | ((with_reducible intro h); first | exact auH | simp only [h, runR_t, runR_f] | skip) | skip)
    | (first | (refine runR_n ⟨hiR, by trivial⟩ ?_) | fail))
  refine go_loopH (α := Nat × Nat × Nat) (fun a => [(⟨.d0, .d1, .d6⟩, .v (.int .i64 (a.1 : Nat))), (⟨.d0, .d0, .d6⟩, .v (.int .i64 (a.2.1 : Nat)))]) (fun a => [(0, some ⟨n, 8, R⟩), (1, some ⟨m, 3, ps.map Pt.enc⟩), (2, some ⟨Γ.g0, 3, [Pt.enc ⟨va, vd, vl⟩]⟩), (3, none)]) (fun a => a.2.2) (fun a => ps.length - a.1) (fun a => a.1 ≤ ps.length ∧ scan ⟨va, vd, vl⟩ (ps.drop a.1) a.1 a.2.1 = rr ∧ a.2.1 ≤ a.1) (0, 0, Γ.g0 + 1) ⟨Nat.zero_le _, hs0, Nat.le_refl _⟩ ?_ ?_
  · skip
    refine le_mk ?_ ?_ (Nat.le_refl _)
    all_goals first | with_reducible refine auE ?_ | exact auE0
    all_goals (repeat' (first | exact trivial | exact rfl | apply And.intro))
  rintro ⟨k, a, g⟩ ⟨hk, hp, hak⟩
  dsimp only at hk hp hak ⊢
  with_reducible refine auL ?_
  by_cases hlt : k < ps.length
  · obtain ⟨⟨ta, td, tl⟩, ht⟩ : ∃ t, ps[k]? = some t := ⟨_, List.getElem?_eq_getElem hlt⟩
    have htm := List.mem_of_getElem? ht
    have hkk : k < (ps.map Pt.enc).length := by simpa using hlt
    have ex := xget_map Pt.enc ps k ⟨ta, td, tl⟩ ht
    have hto := ptOk_fact (chR_ge hch _ htm).2
    have h1 := end_spec ⟨ta, td, tl⟩ ⟨hto.2.1, hto.2.2.2.1⟩ (hd _ htm)
    rw [List.drop_eq_getElem_cons hlt, show ps[k] = ⟨ta, td, tl⟩ from Option.some.inj ((List.getElem?_eq_getElem hlt).symm.trans ht)] at hp
    simp only [scan] at hp
    have heq := (eqPt_iff ⟨ta, td, tl⟩ ⟨va, vd, vl⟩).symm
    have hcn := clash_no (n := ⟨va, vd, vl⟩) (o := ⟨ta, td, tl⟩)
    have hcy := clash_yes (n := ⟨va, vd, vl⟩) (o := ⟨ta, td, tl⟩)
    dsimp only at heq hcn hcy h1 h2 hto hvo
    generalize Pt.fin ⟨ta, td, tl⟩ = tf at *
    generalize Pt.fin ⟨va, vd, vl⟩ = vf at *
    by_cases he : (⟨ta, td, tl⟩ : Pt) = ⟨va, vd, vl⟩
    · rw [if_pos he] at hp
      rw [decide_eq_true he] at heq
      first
        | (exfalso; rw [hrr] at hp; cases hp; done)
        | (rw [hrr (some true) (by rw [← hp])]
           repeat' (first
             | (with_reducible refine auS ?_)
             | (first | (with_reducible refine runR_call h1 ?_) | (with_reducible refine runR_call h2 ?_) | (simp only [hx, heq]))
             | (with_reducible refine auD ?_)
             | ((with_reducible refine auB ?_ ?_); all_goals first | ((with_reducible intro h); first | exact auH | simp only [h, runR_t, runR_f] | skip) | skip)
             | (first | (simp only [Int.toNat_natCast, Nat.zero_add, ex]) | (refine runR_n ⟨hiR, by trivial⟩ ?_) | (refine runR_n ⟨hkk, by trivial⟩ ?_) | fail))
           (all_goals first | exact auP | skip)
           exact ret_m [0, 1] [] trivial (by decide) rfl (fun a ha => by simp at ha) (fun q => ⟨⟨rfl, trivial⟩, ⟨rfl, trivial⟩, rfl⟩) (fun q => ⟨⟨.inr ⟨hn, rfl⟩, rfl, renMLL_nf _ (hR _ hm)⟩, ⟨.inr ⟨hm, rfl⟩, rfl, renMLL_nf _ (pt_nf _ _)⟩, rfl⟩))
    · rw [if_neg he] at hp
      rw [decide_eq_false he] at heq
      cases hcl : clash ⟨va, vd, vl⟩ ⟨ta, td, tl⟩ with
      | true =>
        rw [hcl, if_pos rfl] at hp
        have hc := hcy hcl
        clear hcn hcy
        first
          | (exfalso; rw [hrr] at hp; cases hp; done)
          | (rw [hrr (some false) (by rw [← hp])]
             cases tl <;> cases vl
             all_goals simp only [Bool.false_eq_true, false_and, true_and, or_false, false_or] at hc
             all_goals
               repeat' (first
                 | (with_reducible refine auS ?_)
                 | (first | (with_reducible refine runR_call h1 ?_) | (with_reducible refine runR_call h2 ?_) | (simp only [hx, heq]))
                 | (with_reducible refine auD ?_)
                 | ((with_reducible refine auB ?_ ?_); all_goals first | ((with_reducible intro h); first | exact auH | simp only [h, runR_t, runR_f] | skip) | skip)
                 | (first | (simp only [Int.toNat_natCast, Nat.zero_add, ex]) | (refine runR_n ⟨hiR, by trivial⟩ ?_) | (refine runR_n ⟨hkk, by trivial⟩ ?_) | fail))
               (all_goals first | exact auP | skip)
             all_goals exact ret_m [0, 1] [] trivial (by decide) rfl (fun a ha => by simp at ha) (fun q => ⟨⟨rfl, trivial⟩, ⟨rfl, trivial⟩, rfl⟩) (fun q => ⟨⟨.inr ⟨hn, rfl⟩, rfl, renMLL_nf _ (hR _ hm)⟩, ⟨.inr ⟨hm, rfl⟩, rfl, renMLL_nf _ (pt_nf _ _)⟩, rfl⟩))
      | false =>
        rw [hcl, if_neg (by decide)] at hp
        obtain ⟨c1, c2, c3⟩ := hcn hcl
        clear hcn hcy
        by_cases hlo : ta < va
        · rw [if_pos hlo] at hp
          cases tl <;> cases vl
          all_goals simp only [Bool.false_eq_true, true_implies, false_implies] at c2 c3
          all_goals
            repeat' (first
              | (with_reducible refine auS ?_)
              | (first | (with_reducible refine runR_call h1 ?_) | (with_reducible refine runR_call h2 ?_) | (simp only [hx, heq]))
              | (with_reducible refine auD ?_)
              | ((with_reducible refine auB ?_ ?_); all_goals first | ((with_reducible intro h); first | exact auH | simp only [h, runR_t, runR_f] | skip) | skip)
              | (first | (simp only [Int.toNat_natCast, Nat.zero_add, ex]) | (refine runR_n ⟨hiR, by trivial⟩ ?_) | (refine runR_n ⟨hkk, by trivial⟩ ?_) | fail))
            (all_goals first | exact auP | skip)
          all_goals refine nx_loop ⟨(k + 1, k + 1, g + 1), ⟨hlt, hp, Nat.le_refl _⟩, by dsimp only; omega, ?_⟩
          all_goals
            refine le_mk ?_ ?_ (Nat.le_refl _)
            all_goals first | with_reducible refine auE ?_ | exact auE0
            all_goals (repeat' (first | exact trivial | exact rfl | apply And.intro))
          all_goals first
            | exact dint ((IntWalk.i64_in _ (by omega)).trans (by omega))
            | rfl
        · rw [if_neg hlo] at hp
          cases tl <;> cases vl
          all_goals simp only [Bool.false_eq_true, true_implies, false_implies] at c2 c3
          all_goals
            repeat' (first
              | (with_reducible refine auS ?_)
              | (first | (with_reducible refine runR_call h1 ?_) | (with_reducible refine runR_call h2 ?_) | (simp only [hx, heq]))
              | (with_reducible refine auD ?_)
              | ((with_reducible refine auB ?_ ?_); all_goals first | ((with_reducible intro h); first | exact auH | simp only [h, runR_t, runR_f] | skip) | skip)
              | (first | (simp only [Int.toNat_natCast, Nat.zero_add, ex]) | (refine runR_n ⟨hiR, by trivial⟩ ?_) | (refine runR_n ⟨hkk, by trivial⟩ ?_) | fail))
            (all_goals first | exact auP | skip)
          all_goals refine nx_loop ⟨(k + 1, a, g + 1), ⟨hlt, hp, by dsimp only; omega⟩, by dsimp only; omega, ?_⟩
          all_goals
            refine le_mk ?_ ?_ (Nat.le_refl _)
            all_goals first | with_reducible refine auE ?_ | exact auE0
            all_goals (repeat' (first | exact trivial | exact rfl | apply And.intro))
          all_goals first
            | exact dint ((IntWalk.i64_in _ (by omega)).trans (by omega))
            | rfl
  obtain rfl : k = ps.length := by omega
  rw [List.drop_length] at hp
  rw [hrr] at hp
  obtain rfl : a = _ := (Prod.mk.inj hp).2
  repeat' (first
    | (with_reducible refine auS ?_)
    | (first | (simp only [hx]) | ((with_reducible refine atCall 38 ?_); (refine runR_callG [1, 4] [5] [1, 4, 5] rfl (by decide) rfl rfl (hins _) ?_)))
    | (with_reducible refine auD ?_)
    | ((with_reducible refine auB ?_ ?_); all_goals first | ((with_reducible intro h); first | exact auH | simp only [h, runR_t, runR_f] | skip) | skip)
    | (first | (refine runR_n ⟨hiR, by trivial⟩ ?_) | fail))
  (all_goals first | exact auP | skip)
  refine ret_m [0, 9, 5] [g + 1] trivial (by decide) rfl (fun a ha => by simp at ha; subst ha; exact ⟨5, _, rfl, rfl⟩) (fun q => ⟨⟨rfl, trivial⟩, ⟨rfl, trivial⟩, rfl⟩) (fun q => ⟨⟨.inr ⟨hn, rfl⟩, rfl, ?_⟩, ⟨.inl ⟨0, rfl, rfl⟩, rfl, renMLL_nf _ (pt_nf _ _)⟩, rfl⟩)
  exact renMLL_set i (renMLL_nf _ (hR _ hm)) ⟨⟨rfl, trivial⟩, ⟨rfl, trivial⟩, ⟨rfl, trivial⟩, ⟨rfl, trivial⟩, ⟨rfl, trivial⟩, ⟨rfl, trivial⟩, ⟨rfl, trivial⟩, ⟨1, q, .inl ⟨0, rfl, rfl⟩, rfl⟩, rfl⟩
end Go.Proofs.Ytidogmmfakcfgaa
