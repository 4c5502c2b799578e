/-
  Many turns, in the program.
-/
import Derived.Test.YtecnjhmpipfldaaWheelB
namespace Go.Proofs.Ytecnjhmpipfldaa
set_option linter.unusedVariables false
set_option linter.unusedSimpArgs false
/-! As in the texts of WheelSets, which are not read here. -/
def noW : WL := List.replicate 96 []
theorem nilL_rep : ∀ n : Nat, nilL (List.replicate n nilD) ((List.replicate n ([] : List Du)).map snapD)
  | 0 => by simp only [List.replicate_zero, List.map_nil, nilL]
  | n + 1 => by
    simp only [List.replicate_succ, List.map_cons, nilL]
    refine ⟨?_, nilL_rep n⟩
    simp [nilP, snapD]
theorem rep_nf (g n : Nat) : nfL g (List.replicate n nilD) := nfL_iff.2 fun d hd => by
  rw [(List.mem_replicate.1 hd).2]
  trivial
theorem chk_zero {now : Int} {L : WL} (h : wchk now L = 0) : L.flatten.length ≤ 500 ∧ 0 ≤ now ∧ now ≤ 16777215 ∧ Fair now L.flatten ∧ Stands now L := by
  rcases wchk_cases now L with ⟨_, q⟩ | ⟨_, _, q⟩ | ⟨a, b, c, d, e, _⟩ | ⟨_, _, _, _, q⟩
  · omega
  · omega
  · exact ⟨a, b, c, d, e⟩
  · omega
theorem noW_ok : noW.length = 96 ∧ ∀ l ∈ noW, l.length ≤ maxLen := ⟨by simp [noW], fun l hl => by
  rw [(List.mem_replicate.1 hl).2]
  exact Nat.zero_le _⟩
theorem wof_ok (now : Int) (F : List Du) (h : F.length ≤ maxLen) : (wof now F).length = 96 ∧ ∀ l ∈ wof now F, l.length ≤ maxLen := ⟨wof_len _ _, fun l hl => by
  obtain ⟨i, -, rfl⟩ := List.mem_map.1 hl
  exact Nat.le_trans (fil_le _ _ _) h⟩
/-- What so many turns leave, and what comes out. -/
def tickS (n : Nat) (L : WL) : Nat → WL × List Du
  | 0 => (L, [])
  | i + 1 => ((levs (n + i + 1) 6 ((tickS n L i).1, [])).1, (tickS n L i).2 ++ (levs (n + i + 1) 6 ((tickS n L i).1, [])).2)
/-- An answer: a wheel, what came out, an error. -/
def dT (now : Int) (L : WL) (out : List Du) (e : Int) : DV := .tup [.agg (wcs now L), snapD out, .v (.int .i64 e)]
/-- A call to which a wheel is lent, whose rows it hands back under new names, and a row of its own. -/
theorem runR_turn {P : Program} {F : List XOp → St → List Rec → Prop} {r : List XOp} {tm : Env} {b a1 a2 a4 : Option AObj} {T : HL} {g : Nat} {dst : Option Sl} {tr : List Rec} {f : FuncId} {ds : List DV} {D : Nat → DV} {B N : Nat → Option AObj} {T1 : Nat → HL} (hT : T.length = 96)
    (h1 : MSpec P f ds (b :: T) 97 (fun n d H => d = D n ∧ H = B n :: (T1 n ++ [N n]))) (hl : (T1 g).length = 96)
    (h2 : F r ⟨putE tm dst (D g), B g :: a1 :: a2 :: N g :: a4 :: T1 g, g + 97⟩ (⟨(0 :: List.range' 5 96) ++ [3], (0 :: List.range' 5 96) ++ [3]⟩ :: tr)) : runR P F r ⟨tm, b :: a1 :: a2 :: none :: a4 :: T, g⟩ dst tr (.call f ds) := by
  refine .inr (.inr ⟨0 :: List.range' 5 96, [3], ds, 97, D, fun n => B n :: (T1 n ++ [N n]), fun _ _ _ h => h, by decide +kernel, by simp [hl], ?_, ?_⟩)
  · have e : lgets (b :: a1 :: a2 :: none :: a4 :: T) (0 :: List.range' 5 96) = b :: T := by
      have h := lgets_tail [b, a1, a2, none, a4] T
      rw [hT] at h
      show b :: lgets _ _ = _
      exact congrArg (b :: ·) h
    show MSpec P f ds (lgets (b :: a1 :: a2 :: none :: a4 :: T) (0 :: List.range' 5 96)) 97 _
    rw [e]
    exact h1
  · have e : updL (b :: a1 :: a2 :: none :: a4 :: T) (zipO ((0 :: List.range' 5 96) ++ [3]) (B g :: (T1 g ++ [N g]))) = B g :: a1 :: a2 :: N g :: a4 :: T1 g := by
      have h := upd_over (T1 g) T [B g, a1, a2, none, a4] (by rw [hT, hl])
      rw [hl] at h
      show updL (B g :: a1 :: a2 :: none :: a4 :: T) (zipO (List.range' 5 96 ++ [3]) (T1 g ++ [N g])) = _
      rw [zipO_app _ _ _ _ (by rw [hl]; simp), updL_app]
      have h' : updL (B g :: a1 :: a2 :: none :: a4 :: T) (zipO (List.range' 5 96) (T1 g)) = B g :: a1 :: a2 :: none :: a4 :: T1 g := h
      rw [h']
      rfl
    show F r ⟨putE tm dst (D g), updL (b :: a1 :: a2 :: none :: a4 :: T) (zipO ((0 :: List.range' 5 96) ++ [3]) (B g :: (T1 g ++ [N g]))), g + 97⟩ _
    rw [e]
    exact h2
set_option maxRecDepth 4000 in
set_option maxHeartbeats 8000000 in
theorem tick_good (n m : Nat) (L : WL) (h96 : L.length = 96) (hz : ∀ l ∈ L, l.length ≤ 1407374) (h0 : wchk n L = 0) (hm : m ≤ 10000) (hnm : n + m < 16777216)
    (hok : ∀ i, i < m → OkL ((n + i + 1 : Nat) : Int) 500 ((tickS n L i).1, [])) (h96' : ∀ i, i ≤ m → (tickS n L i).1.length = 96) (ho : ∀ i, i ≤ m → (tickS n L i).2.length ≤ 500) :
    Spec Try.prog 12 [.agg (wcs n L), .v (.int .i64 (m : Nat))] (dT ((n + m : Nat) : Int) (tickS n L m).1 (tickS n L m).2 0) := by
  have hchk := wcheck_spec n L h96 hz
  rw [h0] at hchk
  obtain ⟨hA, hB, hL, hT, hG⟩ := snaps h96
  rw [ddrop0] at hT
  have hrep : (List.replicate 96 nilD).length = 96 := by simp
  have hra := rep_ones 96
  have hrb := lenB_of hrep
  have hzz := splice_len _ _ (Eq.refl (List.replicate 96 nilD).length)
  have hdz := dtake_of hrep
  have hown := own_spec n L h96 hz (fun j => j + 5)
  have hXl : ∀ nm, (rowc (fun j => j + 5) nm 0 L).length = 96 := fun nm => by rw [rowc_len]; exact h96
  have hTl : ∀ nm, (rowh nm 0 L).length = 96 := fun nm => by rw [rowh_len]; exact h96
  have hX96 : (L.map snapD).length = 96 := by simpa using h96
  have hs1 : ∀ nm, splice (L.map snapD) 0 (rowc (fun j => j + 5) nm 0 L) = rowc (fun j => j + 5) nm 0 L := fun nm => splice_len _ _ (by rw [hXl, hX96])
  have q1 : decide (((m : Nat) : Int) < 0) = false := decide_eq_false (by omega)
  have q2 : decide ((10000 : Int) < ((m : Nat) : Int)) = false := decide_eq_false (by omega)
  have q3 : decide ((16777216 : Int) ≤ ((n + m : Nat) : Int)) = false := decide_eq_false (by omega)
  have w1 : IntKind.i64.wrap (((n : Nat) : Int) + ((m : Nat) : Int)) = ((n + m : Nat) : Int) := by rw [IntWalk.i64_in _ (by omega)]; omega
  have ho1 : ∀ nm (l' : WL), allOne (rowc (fun j => j + 5) nm 0 l') = true := fun nm l' => rowc_ones l' 0
  have hb1 : ∀ nm, lenB (rowc (fun j => j + 5) nm 0 L) 96 = true := fun nm => lenB_of (hXl nm)
  unfold wcs at hchk
  refine hspec_fn Try.func12 rfl ok_wheel_Tick okr_wheel_Tick rfl (by kernel_rfl) ?_
  intro Γ hW0 hN0 hL0
  have hW := hW0 rfl
  clear hW0 hN0 hL0
  unfold x_wheel_Tick r_wheel_Tick
  refine auC ?_
  unfold wcs
  repeat' (first
    | (refine auS ?_)
    | (first | (simp only [hT, ddrop0, zv_eq, zv_len, hzz, splice_nil, hs1, q1, q2, q3, w1]) | (with_reducible refine runR_call hchk ?_) | (with_reducible refine runR_own hown (hTl _) ?_))
    | (refine auD ?_)
    | (with_reducible refine runR_b (fun h => ?_) (fun h => ?_) <;> first | exact auH | simp only [h, runR_t, runR_f])
    | (with_reducible refine condK_bl ?_ ?_)
    | (with_reducible refine condK_b (fun h => ?_) (fun h => ?_) <;> first | exact auH | skip)
    | (first | (refine runR_n ⟨by simp only [hA, hB, allOne, lenB, oneD, oneV, andB], by decide⟩ ?_) | (refine runR_n ⟨by decide, by decide, by simp only [ho1, hb1, allOne, lenB, oneD, oneV, andB]⟩ ?_) | fail))
  apply go_le
  · exact le_row ⟨.d0, .d1, .d0⟩ 2 2 rfl rfl
  refine auL ?_
  refine go_loopT (α := Nat × (Nat → Nat) × Nat × Nat) (fun x => [(⟨.d0, .d1, .d0⟩, .sl 2 x.2.2.1 2 0 (tickS n L x.1).2.length false), (⟨.d0, .d4, .d0⟩, .v (.int .i64 (x.1 : Nat)))]) (fun x => some ⟨Γ.g0, 97, [.v (.int .i64 ((n + x.1 : Nat) : Int)) :: rowc (fun j => j + 5) x.2.1 0 (tickS n L x.1).1]⟩ :: some ⟨Γ.g0 + 1, 97, [.v (.int .i64 0) :: List.replicate 96 nilD]⟩ :: some ⟨x.2.2.1, 2, (tickS n L x.1).2.map Du.enc⟩ :: none :: none :: rowh x.2.1 0 (tickS n L x.1).1) (fun x => x.2.2.2) (fun x => m - x.1) (fun x => x.1 ≤ m) (0, (fun j => Γ.g0 + 2 + j), Γ.g0 + 2 + 96, Γ.g0 + 2 + 96 + 1) (Nat.zero_le _) ?_ ?_
  · refine le_mk2 ?_ ?_ (Nat.le_refl _)
    · first | refine auE ?_ | exact auE0
      all_goals (repeat' (first | exact trivial | exact rfl | apply And.intro))
    · exact hs_refl _
  rintro ⟨i, nm, on, gn⟩ hi
  dsimp only at hi ⊢
  refine auL ?_
  have hl96 := h96' i hi
  have hou := ho i hi
  have hTl1 : (rowh nm 0 (tickS n L i).1).length = 96 := by rw [rowh_len]; exact hl96
  by_cases hlt : i < m
  · have c0 : decide (((i : Nat) : Int) < ((m : Nat) : Int)) = true := decide_eq_true (by omega)
    have hou2 := ho (i + 1) hlt
    have hl96b := h96' (i + 1) hlt
    have hturn := turn_spec 0 (n + i) (by omega) (tickS n L i).1 (hok i hlt) (fun j => j + 5) nm (fun j => j + 5) Γ.g0 3
    have hS : tickS n L (i + 1) = ((levs (n + i + 1) 6 ((tickS n L i).1, [])).1, (tickS n L i).2 ++ (levs (n + i + 1) 6 ((tickS n L i).1, [])).2) := rfl
    rw [hS] at hou2 hl96b
    have w2 : IntKind.i64.wrap ((i : Int) + 1) = ((i + 1 : Nat) : Int) := by rw [IntWalk.i64_in _ (by omega)]; omega
    generalize tickS n L i = S at *
    generalize levs (n + i + 1) 6 (S.1, []) = V at *
    dsimp only at hou2 hl96b
    rw [List.length_append] at hou2
    have hTl2 : ∀ g, (rowh (fun j => g + j) 0 V.1).length = 96 := fun g => by rw [rowh_len]; exact hl96b
    have hml : (S.2.map Du.enc).length = S.2.length := List.length_map _
    have hml2 : (V.2.map Du.enc).length = V.2.length := List.length_map _
    have hrm : room (S.2.length + V.2.length) 16 := room_due (by omega)
    have hone := ones_du V.2
    have hxt : xtake (xdrop (V.2.map Du.enc) 0) V.2.length = V.2.map Du.enc := xall (by simp)
    repeat' (first
      | (refine auS ?_)
      | (first | (simp only [c0, w2, hml, hml2, hxt]) | (with_reducible refine runR_turn hTl1 hturn (hTl2 _) ?_))
      | (refine auD ?_)
      | (with_reducible refine runR_b (fun h => ?_) (fun h => ?_) <;> first | exact auH | simp only [h, runR_t, runR_f])
      | (with_reducible refine condK_bl ?_ ?_)
      | (with_reducible refine condK_b (fun h => ?_) (fun h => ?_) <;> first | exact auH | skip)
      | (first | (refine runR_n ⟨rfl, rfl, rfl, rfl, hml.symm⟩ ?_) | (refine runR_n ⟨hone, hrm⟩ ?_) | fail))
    (all_goals first | exact auP | skip)
    refine nx_loop ⟨(i + 1, (fun j => gn + j), gn + 97, gn + 98), hlt, Nat.sub_lt_sub_left hlt (Nat.lt_succ_self i), ?_⟩
    refine le_mk2 ?_ ?_ (Nat.le_refl _)
    · first | refine auE ?_ | exact auE0
      all_goals (repeat' (first | exact trivial | exact rfl | apply And.intro))
      all_goals rw [hS, List.length_append]
    · dsimp only
      rw [hS, List.map_append]
      exact hs_cons (.inl rfl) (hs_cons (.inl rfl) (hs_cons (.inl rfl) (hs_cons (.inr rfl) (hs_refl _))))
  · obtain rfl : i = m := by omega
    have c0 : decide (((i : Nat) : Int) < ((i : Nat) : Int)) = false := decide_eq_false (by omega)
    have hXl2 : (rowc (fun j => j + 5) nm 0 (tickS n L i).1).length = 96 := by rw [rowc_len]; exact hl96
    have hs2 : splice (List.replicate 96 nilD) 0 (rowc (fun j => j + 5) nm 0 (tickS n L i).1) = rowc (fun j => j + 5) nm 0 (tickS n L i).1 := splice_len _ _ (by rw [hXl2, hrep])
    have hd2 := dtake_of hXl2
    have hb2 := lenB_of hXl2
    generalize tickS n L i = S at *
    repeat' (first
      | (refine auS ?_)
      | (simp only [c0, splice_nil, hs2, hd2, ddrop0])
      | (refine auD ?_)
      | (with_reducible refine runR_b (fun h => ?_) (fun h => ?_) <;> first | exact auH | simp only [h, runR_t, runR_f])
      | (with_reducible refine condK_bl ?_ ?_)
      | (with_reducible refine condK_b (fun h => ?_) (fun h => ?_) <;> first | exact auH | skip)
      | (first | (refine runR_n ⟨by simp only [ho1, hb2, allOne, lenB, oneD, oneV, andB], by decide⟩ ?_) | (refine runR_n ⟨by decide, by decide, by simp only [ho1, hb2, allOne, lenB, oneD, oneV, andB]⟩ ?_) | fail))
    (all_goals first | exact auP | skip)
    have hxt : xtake (xdrop (S.2.map Du.enc) 0) S.2.length = S.2.map Du.enc := xall (by simp)
    refine retq_le (leG_freeze hW ⟨.d0, .d0, .d5⟩ rfl rfl ⟨rfl, rfl, by simp⟩) ?_
    refine retq_le (leG_all hW _ _ _ _ _ _ _ _) ?_
    have hnf := snaps_nf S.1 Γ.g0
    have hdt' := dtake_of (show (S.1.map snapD).length = 96 by rw [List.length_map]; exact hl96)
    have hnf2 : nfL Γ.g0 (dtake (S.1.map snapD) 96) := by rw [hdt']; exact hnf
    have hnf3 : nfLL Γ.g0 (S.2.map Du.enc) := nfLL_map (fun x => by simp [nfL, nfD])
    unfold dT wcs
    dsimp only
    rw [hxt]
    generalize S.1.map snapD = Z at *
    generalize hY : S.2.map Du.enc = Y at *
    all_goals with_reducible refine ret_spec2 (by (try first | refine auR ?_ | exact auR0); (repeat' (first | exact trivial | exact rfl | exact hnf2 | exact hnf3 | decide | apply And.intro))) ?_
    all_goals (try first | refine auR ?_ | exact auR0)
    rw [hdt']
    subst hY
    rfl
/-- The empty answer. -/
abbrev badT (e : Int) : DV := .tup [.agg (.v (.int .i64 0) :: List.replicate 96 nilD), nilD, .v (.int .i64 e)]
theorem bad_dT {f : FuncId} {ds : List DV} {e : Int} (h : Spec Try.prog f ds (badT e)) : Spec Try.prog f ds (dT 0 noW [] e) := spec_nil h (by
  unfold dT noW wcs
  simp only [nilP, nilL, true_or, and_true, or_true]
  simp [nilP, nilL, nilL_rep, snapD])
end Go.Proofs.Ytecnjhmpipfldaa
