/-
  A plan written, in the reference.
-/
import Derived.Test.YtbcamncabckbnaaGreatDoorConfX
import Derived.Test.YtbcamncabckbnaaGreatDoorAdrT
namespace Go.Proofs.YtbcamncabckbnaaGreatDoor
set_option linter.unusedVariables false
set_option linter.unusedSimpArgs false
theorem passWord_spec (b : Bool) : Spec Tryz.prog 23 [.v (.bool b)] (.v (.string (mkS (pw b)))) := by
  cases b
  · skip
    refine hspec_fn Tryz.func23 rfl ok_custref_passWord okr_custref_passWord rfl (by kernel_rfl) ?_
    intro Γ hW0 hN0 hL0
    have hW := hW0 rfl
    clear hW0 hN0 hL0
    unfold x_custref_passWord r_custref_passWord
    with_reducible refine auC ?_
    repeat' (first
      | (with_reducible refine auS ?_)
      | fail
      | (with_reducible refine auD ?_)
      | ((with_reducible refine auB ?_ ?_); all_goals first | (intro h; first | exact auH | simp only [h, runR_t, runR_f] | skip) | skip)
      | fail)
    (all_goals first | exact auP | skip)
    all_goals with_reducible refine auF ?_
    all_goals (try first | with_reducible refine auR ?_ | exact auR0)
    all_goals (try simp only [hsM] at *)
    all_goals rfl
  · skip
    refine hspec_fn Tryz.func23 rfl ok_custref_passWord okr_custref_passWord rfl (by kernel_rfl) ?_
    intro Γ hW0 hN0 hL0
    have hW := hW0 rfl
    clear hW0 hN0 hL0
    unfold x_custref_passWord r_custref_passWord
    with_reducible refine auC ?_
    repeat' (first
      | (with_reducible refine auS ?_)
      | fail
      | (with_reducible refine auD ?_)
      | ((with_reducible refine auB ?_ ?_); all_goals first | (intro h; first | exact auH | simp only [h, runR_t, runR_f] | skip) | skip)
      | fail)
    (all_goals first | exact auP | skip)
    all_goals with_reducible refine auF ?_
    all_goals (try first | with_reducible refine auR ?_ | exact auR0)
    all_goals (try simp only [hsM] at *)
    all_goals rfl
theorem numI (n : Int) (h : 0 ≤ n ∧ n ≤ 1000000000) : Spec Tryz.prog 21 [.v (.int .i64 n)] (.v (.string (mkS (dI n)))) := by
  have := num_spec _ n.toNat (Nat.le_refl _) (by omega)
  rw [Int.toNat_of_nonneg h.1] at this
  exact this
theorem addrI (n : Int) (h : 0 ≤ n ∧ n < 4294967296) : Spec Tryz.prog 20 [.v (.int .u32 n)] (.v (.string (mkS (showA n.toNat)))) := by
  have := addrText_spec n.toNat (by omega)
  rw [Int.toNat_of_nonneg h.1] at this
  exact this
/-- A rule's text behind so many nets. -/
def rtx (P A B C D : W8) : Nat → W8
  | 0 => P
  | 1 => P ++ ([32] ++ A ++ [47] ++ B)
  | _ => P ++ ([32] ++ A ++ [47] ++ B) ++ ([32] ++ C ++ [47] ++ D)
theorem lits : (ByteArray.mk #[32] = mkS [32]) ∧ (ByteArray.mk #[47] = mkS [47]) ∧ (ByteArray.mk #[45] = mkS [45]) ∧ (ByteArray.mk #[10] = mkS [10]) ∧ (ByteArray.mk #[] = mkS []) := ⟨rfl, rfl, rfl, rfl, rfl⟩
set_option maxHeartbeats 4000000 in
theorem ruleText_spec (r : Rl) (F : RlF r) : Spec Tryz.prog 22 [dRl r] (.v (.string (mkS (joinL (ruleWs r))))) := by
  have l0 := pw_len r.ps
  have l1 := showA_len r.fa.toNat
  have l2 := showA_len r.ta.toNat
  have l3 := dI_len _ F.fl
  have l4 := dI_len _ F.tl
  have l5 := dI_len _ F.pr
  have l6 := dI_len _ F.fp
  have l7 := dI_len _ F.fq
  have l8 := dI_len _ F.tp
  have l9 := dI_len _ F.tq
  have s0 := passWord_spec r.ps
  have s1 := addrI _ F.fa
  have s2 := addrI _ F.ta
  have s3 := numI _ F.fl
  have s4 := numI _ F.tl
  have s5 := numI _ F.pr
  have s6 := numI _ F.fp
  have s7 := numI _ F.fq
  have s8 := numI _ F.tp
  have s9 := numI _ F.tq
  have e : joinL (ruleWs r) = rtx (pw r.ps) (showA r.fa.toNat) (dI r.fl) (showA r.ta.toNat) (dI r.tl) 2 ++ [32] ++ dI r.pr ++ [32] ++ dI r.fp ++ [45] ++ dI r.fq ++ [32] ++ dI r.tp ++ [45] ++ dI r.tq := by
    simp [joinL, ruleWs, netT, bndT, rtx, Lib.join, List.intercalate, List.intersperse]
  rw [e]
  generalize pw r.ps = P0 at *
  generalize showA r.fa.toNat = P1 at *
  generalize showA r.ta.toNat = P2 at *
  generalize dI r.fl = P3 at *
  generalize dI r.tl = P4 at *
  generalize dI r.pr = P5 at *
  generalize dI r.fp = P6 at *
  generalize dI r.fq = P7 at *
  generalize dI r.tp = P8 at *
  generalize dI r.tq = P9 at *
  obtain ⟨b1, b2, b3, b4, b5⟩ := lits
  refine hspec_fn Tryz.func22 rfl ok_custref_RuleText okr_custref_RuleText rfl (by kernel_rfl) ?_
  intro Γ hW0 hN0 hL0
  have hW := hW0 rfl
  clear hW0 hN0 hL0
  unfold x_custref_RuleText r_custref_RuleText
  with_reducible refine auC ?_
  repeat' (first
    | (with_reducible refine auS ?_)
    | (with_reducible refine runR_call s0 ?_)
    | (with_reducible refine auD ?_)
    | ((with_reducible refine auB ?_ ?_); all_goals first | (intro h; first | exact auH | simp only [h, runR_t, runR_f] | skip) | skip)
    | fail)
  refine go_loopH (α := Nat × Nat) (fun x => [(⟨.d0, .d0, .d3⟩, .v (.string (mkS (rtx P0 P1 P3 P2 P4 x.1)))), (⟨.d0, .d1, .d7⟩, .v (.int .i64 (x.1 : Nat)))]) (fun _ => [(2, none)]) (fun x => x.2) (fun x => 2 - x.1) (fun x => x.1 ≤ 2) (0, Γ.g0 + 2) (Nat.zero_le _) ?_ ?_
  · skip
    refine le_mk ?_ ?_ (Nat.le_refl _)
    all_goals first | with_reducible refine auE ?_ | exact auE0
    all_goals (repeat' (first | exact trivial | exact rfl | apply And.intro))
  rintro ⟨i, gn⟩ hi
  dsimp only at hi ⊢
  with_reducible refine auL ?_
  have : i = 0 ∨ i = 1 ∨ i = 2 := by omega
  rcases this with rfl | rfl | rfl
  all_goals simp only [natL]
  all_goals dsimp only [rtx]
  repeat' (first
    | (with_reducible refine auS ?_)
    | (first | (simp only [b1, b2, b3, b4, b5, mkS_app]) | (with_reducible refine runR_call s1 ?_) | (with_reducible refine runR_call s2 ?_) | (with_reducible refine runR_call s3 ?_) | (with_reducible refine runR_call s4 ?_) | (with_reducible refine runR_call s5 ?_) | (with_reducible refine runR_call s6 ?_) | (with_reducible refine runR_call s7 ?_) | (with_reducible refine runR_call s8 ?_) | (with_reducible refine runR_call s9 ?_))
    | (with_reducible refine auD ?_)
    | ((with_reducible refine auB ?_ ?_); all_goals first | (intro h; first | exact auH | simp only [h, runR_t, runR_f] | skip) | skip)
    | (refine runR_n (by simp only [mkS_size, List.length_append, List.length_cons, List.length_nil]; omega) ?_))
  (all_goals first | exact auP | skip)
  · refine nx_loop ⟨(1, gn + 1), by omega, by omega, ?_⟩
    refine le_mk ?_ ?_ (Nat.le_refl _)
    all_goals first | with_reducible refine auE ?_ | exact auE0
    all_goals (repeat' (first | exact trivial | exact rfl | apply And.intro))
  · refine nx_loop ⟨(2, gn + 1), by omega, by omega, ?_⟩
    refine le_mk ?_ ?_ (Nat.le_refl _)
    all_goals first | with_reducible refine auE ?_ | exact auE0
    all_goals (repeat' (first | exact trivial | exact rfl | apply And.intro))
  · skip
    all_goals with_reducible refine auF ?_
    all_goals (try first | with_reducible refine auR ?_ | exact auR0)
    all_goals (try simp only [hsM] at *)
/-- The lines of a plan. -/
def hd4 (p : Pl) : List W8 := [joinL [wOut, showA p.ou.toNat], joinL [wPorts, dI p.lt, dI p.st], joinL [wLife, dI p.lf], joinL [wRate, dI p.ra, dI p.mo]]
def rlL (p : Pl) (i : Nat) : List W8 := hd4 p ++ (p.rs.take i).map fun r => joinL (ruleWs r)
def plL (p : Pl) : List W8 := rlL p p.rs.length ++ [joinL [wElse, pw p.el]]
def endL (l : List W8) : W8 := (l.map fun x => x ++ [10]).flatten
theorem endL_snoc (l : List W8) (x : W8) : endL (l ++ [x]) = endL l ++ (x ++ [10]) := by simp [endL]
theorem planT_eq (p : Pl) : planT p = endL (plL p) := by
  unfold planT txR tx4 tx3 tx2 tx1 endL plL rlL hd4 lineT
  simp [Function.comp_def]
theorem rlL_snoc {p : Pl} {i : Nat} {r : Rl} (h : p.rs[i]? = some r) : rlL p (i + 1) = rlL p i ++ [joinL (ruleWs r)] := by
  unfold rlL
  rw [take_snoc h]
  simp
theorem rlL_len (p : Pl) (i : Nat) (h : i ≤ p.rs.length) : (rlL p i).length = 4 + i := by
  unfold rlL hd4
  simp [Nat.min_eq_left h]
  omega
theorem endL_take (l : List W8) (i : Nat) : (endL (l.take i)).length ≤ (endL l).length := by
  have e : endL l = endL (l.take i) ++ endL (l.drop i) := by
    unfold endL
    rw [← List.flatten_append, ← List.map_append, List.take_append_drop]
  rw [e, List.length_append]
  omega
theorem pre_nm (l : List W8) (g : Nat) : nfLL g (rowS (l.map mkS)) := nfLL_map (fun x => by simp [nfL, nfD])
theorem rowS_one : ∀ l : List W8, allOnes (rowS (l.map mkS)) = true
  | [] => rfl
  | b :: l => rowS_one l
theorem rowS_app (l t : List W8) : rowS (l.map mkS) ++ rowS (t.map mkS) = rowS ((l ++ t).map mkS) := by simp [rowS]
theorem rowS_len (l : List W8) : (rowS (l.map mkS)).length = l.length := by simp [rowS]
set_option maxHeartbeats 8000000 in
theorem planText_ok (p : Pl) (c : Bool) (hp : p.wf) (he : plE p = 0) : Spec Tryz.prog 5 [dPl p c] (.tup [.v (.string (mkS (planT p))), .v (.int .i64 0)]) := by
  obtain ⟨f1, f2, f3, f4, f5, f6, f7, f8⟩ := plE_facts hp he
  have hchk := planRight_spec p c hp (by unfold maxLen; omega)
  rw [he] at hchk
  have hln := txR_len hp he p.rs (fun x hx => hx)
  have hpw := pw_len p.el
  have hjl := joinL_len [wElse, pw p.el]
  have hpl : (planT p).length ≤ 1048576 := by
    unfold planT lineT
    simp only [List.map_cons, List.map_nil, List.sum_cons, List.sum_nil, List.length_append, List.length_singleton, List.length_cons, List.length_nil] at hjl ⊢
    omega
  have s1 := addrI p.ou f1
  have s2 := numI p.lt (by omega)
  have s3 := numI p.st (by omega)
  have s4 := numI p.lf (by omega)
  have s5 := numI p.ra (by omega)
  have s6 := numI p.mo (by omega)
  have s7 := passWord_spec p.el
  have l1 := showA_len p.ou.toNat
  have l2 := dI_len p.lt (by omega)
  have l3 := dI_len p.st (by omega)
  have l4 := dI_len p.lf (by omega)
  have l5 := dI_len p.ra (by omega)
  have l6 := dI_len p.mo (by omega)
  obtain ⟨b1, b2, b3, b4, b5⟩ := lits
  have c1 : (ByteArray.mk #[111, 117, 116, 115, 105, 100, 101, 32] : ByteArray) = mkS (wOut ++ [32]) := rfl
  have c2 : (ByteArray.mk #[112, 111, 114, 116, 115, 32] : ByteArray) = mkS (wPorts ++ [32]) := rfl
  have c3 : (ByteArray.mk #[108, 105, 102, 101, 32] : ByteArray) = mkS (wLife ++ [32]) := rfl
  have c4 : (ByteArray.mk #[114, 97, 116, 101, 32] : ByteArray) = mkS (wRate ++ [32]) := rfl
  have c5 : (ByteArray.mk #[101, 108, 115, 101, 32] : ByteArray) = mkS (wElse ++ [32]) := rfl
  have j2 : ∀ a b : W8, joinL [a, b] = a ++ [32] ++ b := fun a b => by simp [joinL, Lib.join, List.intercalate, List.intersperse]
  have j3 : ∀ a b c : W8, joinL [a, b, c] = a ++ [32] ++ b ++ [32] ++ c := fun a b c => by simp [joinL, Lib.join, List.intercalate, List.intersperse]
  have hh : hd4 p = [wOut ++ [32] ++ showA p.ou.toNat, wPorts ++ [32] ++ dI p.lt ++ [32] ++ dI p.st, wLife ++ [32] ++ dI p.lf, wRate ++ [32] ++ dI p.ra ++ [32] ++ dI p.mo] := by
    unfold hd4
    rw [j2, j3, j2, j3]
  have hz : wOut.length = 7 ∧ wPorts.length = 5 ∧ wLife.length = 4 ∧ wRate.length = 4 ∧ wElse.length = 4 := ⟨rfl, rfl, rfl, rfl, rfl⟩
  obtain ⟨z1, z2, z3, z4, z5⟩ := hz
  have hpe := planT_eq p
  have hg : rlL p 0 = hd4 p := by simp [rlL]
  have hplL : plL p = rlL p p.rs.length ++ [joinL [wElse, pw p.el]] := rfl
  rw [j2] at hplL
  generalize showA p.ou.toNat = P1 at *
  generalize dI p.lt = P2 at *
  generalize dI p.st = P3 at *
  generalize dI p.lf = P4 at *
  generalize dI p.ra = P5 at *
  generalize dI p.mo = P6 at *
  generalize wOut = W1 at *
  generalize wPorts = W2 at *
  generalize wLife = W3 at *
  generalize wRate = W4 at *
  generalize wElse = W5 at *
  refine hspec_fn Tryz.func5 rfl ok_custref_PlanText okr_custref_PlanText rfl (by kernel_rfl) ?_
  intro Γ hW0 hN0 hL0
  have hW := hW0 rfl
  clear hW0 hN0 hL0
  unfold x_custref_PlanText r_custref_PlanText
  with_reducible refine auC ?_
  repeat' (first
    | (with_reducible refine auS ?_)
    | (first | (simp only [b1, b2, b3, b4, b5, c1, c2, c3, c4, c5, mkS_app]) | (with_reducible refine runR_call hchk ?_) | (with_reducible refine runR_call s1 ?_) | (with_reducible refine runR_call s2 ?_) | (with_reducible refine runR_call s3 ?_) | (with_reducible refine runR_call s4 ?_) | (with_reducible refine runR_call s5 ?_) | (with_reducible refine runR_call s6 ?_))
    | (with_reducible refine auD ?_)
    | ((with_reducible refine auB ?_ ?_); all_goals first | (intro h; first | exact auH | simp only [h, runR_t, runR_f] | skip) | skip)
    | (refine runR_n (by simp only [mkS_size, List.length_append, List.length_cons, List.length_nil]; omega) ?_))
  (all_goals first | exact auP | skip)
  have hsn := fun (i : Nat) (r : Rl) (h : p.rs[i]? = some r) => congrArg (fun l => rowS (l.map mkS)) (rlL_snoc h)
  simp only [← rowS_app] at hsn
  have hlr := fun (i : Nat) (h : i ≤ p.rs.length) => (rowS_len (rlL p i)).trans (rlL_len p i h)
  have hone := fun i => rowS_one (rlL p i)
  have hr0 : rowS ((rlL p 0).map mkS) = [[.v (.string (mkS (W1 ++ [32] ++ P1)))], [.v (.string (mkS (W2 ++ [32] ++ P2 ++ [32] ++ P3)))], [.v (.string (mkS (W3 ++ [32] ++ P4)))], [.v (.string (mkS (W4 ++ [32] ++ P5 ++ [32] ++ P6)))]] := by rw [hg, hh]; rfl
  rw [← hr0]
  refine go_loopH (α := Option (Nat × Nat × Nat)) (fun x => match x with
    | none => [(⟨.d0, .d0, .d5⟩, .sl 1 (Γ.g0 + 1) 1 0 4 true), (⟨.d0, .d5, .d6⟩, .v (.int .i64 ((0 : Nat) : Int)))]
    | some y => [(⟨.d0, .d0, .d5⟩, .sl 4 y.2.1 1 0 (4 + y.1) false), (⟨.d0, .d5, .d6⟩, .v (.int .i64 (y.1 : Nat)))]) (fun x => match x with
    | none => [(2, none), (3, none), (4, none)]
    | some y => [(1, none), (2, none), (3, none), (4, some ⟨y.2.1, 1, rowS ((rlL p y.1).map mkS)⟩)]) (fun x => match x with
    | none => Γ.g0 + 2
    | some y => y.2.2) (fun x => match x with
    | none => p.rs.length + 1
    | some y => p.rs.length - y.1) (fun x => match x with
    | none => True
    | some y => y.1 ≤ p.rs.length) none trivial ?_ ?_
  · skip
    refine le_mk ?_ ?_ (Nat.le_refl _)
    all_goals first | with_reducible refine auE ?_ | exact auE0
    all_goals (repeat' (first | exact trivial | exact rfl | apply And.intro))
  have hfin : ∀ i, i < (plL p).length → ∃ x, (plL p)[i]? = some x ∧ xget (rowS ((plL p).map mkS)) i = [.v (.string (mkS x))] ∧ endL ((plL p).take (i + 1)) = endL ((plL p).take i) ++ (x ++ [10]) := fun i h => by
    refine ⟨_, List.getElem?_eq_getElem h, ?_, ?_⟩
    · rw [xget_get, rowS, List.map_map, List.getElem?_map, List.getElem?_eq_getElem h]
      rfl
    · rw [take_snoc (List.getElem?_eq_getElem h), endL_snoc]
  have hpn : (plL p).length = 5 + p.rs.length := by
    rw [hplL, List.length_append, rlL_len p _ (Nat.le_refl _)]
    simp
    omega
  have htk := fun i => endL_take (plL p) i
  rw [hpe] at hpl ⊢
  have hsl : rowS ((rlL p p.rs.length).map mkS) ++ [[.v (.string (mkS (W5 ++ [32] ++ pw p.el)))]] = rowS ((plL p).map mkS) := by
    rw [hplL, ← rowS_app]
    rfl
  rintro (_ | ⟨i, an, gn⟩) hi
  · dsimp only at hi ⊢
    with_reducible refine auL ?_
    have h1 := hlr 0 (Nat.zero_le _)
    have h2 := hone 0
    have hx : xtake (xdrop (rowS ((rlL p 0).map mkS)) 0) 4 = rowS ((rlL p 0).map mkS) := xall (by rw [h1])
    by_cases hlt : 0 < p.rs.length
    · obtain ⟨r, hr⟩ : ∃ r, p.rs[0]? = some r := ⟨_, List.getElem?_eq_getElem hlt⟩
      have hmem := List.mem_of_getElem? hr
      have ex := xget_rl hr
      have q1 := ruleText_spec r (rlF (f8 r hmem))
      have hs := hsn 0 r hr
      generalize rowS ((rlL p 0).map mkS) = X at *
      repeat' (first
        | (with_reducible refine auS ?_)
        | (first | (with_reducible refine runR_call q1 ?_) | (with_reducible refine runR_l ?_))
        | (with_reducible refine auD ?_)
        | ((with_reducible refine auB ?_ ?_); all_goals first | (intro h; first | exact auH | simp only [h, runR_t, runR_f] | skip) | skip)
        | (first | (simp only [Int.toNat_natCast, ex, hx, h1, List.length_map]) | (refine runR_n ⟨.inl (by decide), h2, by trivial, by unfold room maxLen; omega⟩ ?_)))
      (all_goals first | exact auP | skip)
      refine nx_loop ⟨some (1, Γ.g0 + 3 + 1, Γ.g0 + 5), hlt, by dsimp only; omega, ?_⟩
      refine le_mk ?_ ?_ (Nat.le_refl _)
      all_goals first | with_reducible refine auE ?_ | exact auE0
      all_goals (repeat' (first | exact trivial | exact rfl | apply And.intro))
      all_goals exact congrArg (fun x => some (AObj.mk _ _ x)) hs.symm
    · have hn0 : p.rs.length = 0 := by omega
      rw [hn0] at hsl hpn
      repeat' (first
        | (with_reducible refine auS ?_)
        | (first | (with_reducible refine runR_call s7 ?_) | (simp only [b4, c5, mkS_app]) | (with_reducible refine runR_l ?_))
        | (with_reducible refine auD ?_)
        | ((with_reducible refine auB ?_ ?_); all_goals first | (intro h; first | exact auH | simp only [h, runR_t, runR_f] | skip) | skip)
        | (first | (refine runR_n (by simp only [mkS_size, List.length_append, List.length_cons, List.length_nil]; omega) ?_) | (simp only [Int.toNat_natCast, hx, h1, hsl, List.length_map]) | (refine runR_n ⟨.inl (by decide), h2, by trivial, by unfold room maxLen; simp only [List.length_cons, List.length_nil]; omega⟩ ?_) | (refine runR_n ⟨by trivial, by trivial, by trivial, by trivial, h1.symm⟩ ?_) | (refine runR_n ⟨by trivial, by unfold room maxLen; simp only [List.length_cons, List.length_nil]; omega⟩ ?_)))
      (all_goals first | exact auP | skip)
      refine go_loopH (α := Nat) (fun x => [(⟨.d0, .d1, .d0⟩, .v (.string (mkS (endL ((plL p).take x))))), (⟨.d1, .d0, .d0⟩, .v (.int .i64 (x : Nat)))]) (fun _ => []) (fun _ => Γ.g0 + 4) (fun x => (plL p).length - x) (fun x => x ≤ (plL p).length) 0 (Nat.zero_le _) ?_ ?_
      · skip
        refine le_mk ?_ ?_ (Nat.le_refl _)
        all_goals first | with_reducible refine auE ?_ | exact auE0
        all_goals (repeat' (first | exact trivial | exact rfl | apply And.intro))
      intro x hx0
      dsimp only at hx0 ⊢
      with_reducible refine auL ?_
      by_cases hlt2 : x < (plL p).length
      · obtain ⟨y, y1, y2, y3⟩ := hfin x hlt2
        have y4 := htk (x + 1)
        rw [y3] at y4
        simp only [List.length_append, List.length_cons, List.length_nil] at y4
        repeat' (first
          | (with_reducible refine auS ?_)
          | (first | (simp only [b4, mkS_app, ← y3]))
          | (with_reducible refine auD ?_)
          | ((with_reducible refine auB ?_ ?_); all_goals first | (intro h; first | exact auH | simp only [h, runR_t, runR_f] | skip) | skip)
          | (first | (simp only [Int.toNat_natCast, Nat.zero_add, y2, rowS_len]) | (refine runR_n (by simp only [mkS_size, List.length_append, List.length_cons, List.length_nil]; omega) ?_) | fail))
        (all_goals first | exact auP | skip)
        refine nx_loop ⟨x + 1, hlt2, Nat.sub_lt_sub_left hlt2 (Nat.lt_succ_self x), ?_⟩
        refine le_mk ?_ ?_ (Nat.le_refl _)
        all_goals first | with_reducible refine auE ?_ | exact auE0
        all_goals (repeat' (first | exact trivial | exact rfl | apply And.intro))
        all_goals exact dint ((IntWalk.i64_in _ (by omega)).trans (by omega))
      · obtain rfl : x = (plL p).length := by omega
        rw [List.take_length]
        repeat' (first
          | (with_reducible refine auS ?_)
          | fail
          | (with_reducible refine auD ?_)
          | ((with_reducible refine auB ?_ ?_); all_goals first | (intro h; first | exact auH | simp only [h, runR_t, runR_f] | skip) | skip)
          | fail)
        (all_goals first | exact auP | skip)
        all_goals with_reducible refine auF ?_
        all_goals (try first | with_reducible refine auR ?_ | exact auR0)
        all_goals (try simp only [hsM] at *)
        all_goals rfl
  · dsimp only at hi ⊢
    with_reducible refine auL ?_
    have h1 := hlr i hi
    have h2 := hone i
    have hx := h1
    by_cases hlt : i < p.rs.length
    · obtain ⟨r, hr⟩ : ∃ r, p.rs[i]? = some r := ⟨_, List.getElem?_eq_getElem hlt⟩
      have hmem := List.mem_of_getElem? hr
      have ex := xget_rl hr
      have q1 := ruleText_spec r (rlF (f8 r hmem))
      have hs := hsn i r hr
      generalize rowS ((rlL p i).map mkS) = X at *
      repeat' (first
        | (with_reducible refine auS ?_)
        | (first | (with_reducible refine runR_call q1 ?_) | (with_reducible refine runR_l ?_))
        | (with_reducible refine auD ?_)
        | ((with_reducible refine auB ?_ ?_); all_goals first | (intro h; first | exact auH | simp only [h, runR_t, runR_f] | skip) | skip)
        | (first | (simp only [Int.toNat_natCast, ex, h1, List.length_map]) | (refine runR_n ⟨by trivial, by trivial, by trivial, by trivial, h1.symm⟩ ?_) | (refine runR_n ⟨by trivial, by unfold room maxLen; simp only [List.length_cons, List.length_nil]; omega⟩ ?_)))
      (all_goals first | exact auP | skip)
      refine nx_loop ⟨some (i + 1, gn + 2, gn + 3), hlt, by dsimp only; omega, ?_⟩
      refine le_mk ?_ ?_ (Nat.le_refl _)
      all_goals first | with_reducible refine auE ?_ | exact auE0
      all_goals (repeat' (first | exact trivial | exact rfl | apply And.intro))
      all_goals first
        | exact congrArg (fun x => some (AObj.mk _ _ x)) hs.symm
        | exact dint ((IntWalk.i64_in _ (by omega)).trans (by omega))
        | fail
    · obtain rfl : i = p.rs.length := by omega
      repeat' (first
        | (with_reducible refine auS ?_)
        | (first | (with_reducible refine runR_call s7 ?_) | (simp only [b4, c5, mkS_app]) | (with_reducible refine runR_l ?_))
        | (with_reducible refine auD ?_)
        | ((with_reducible refine auB ?_ ?_); all_goals first | (intro h; first | exact auH | simp only [h, runR_t, runR_f] | skip) | skip)
        | (first | (refine runR_n (by simp only [mkS_size, List.length_append, List.length_cons, List.length_nil]; omega) ?_) | (simp only [Int.toNat_natCast, hx, h1, hsl, List.length_map]) | (refine runR_n ⟨.inl (by decide), h2, by trivial, by unfold room maxLen; simp only [List.length_cons, List.length_nil]; omega⟩ ?_) | (refine runR_n ⟨by trivial, by trivial, by trivial, by trivial, h1.symm⟩ ?_) | (refine runR_n ⟨by trivial, by unfold room maxLen; simp only [List.length_cons, List.length_nil]; omega⟩ ?_)))
      (all_goals first | exact auP | skip)
      refine go_loopH (α := Nat) (fun x => [(⟨.d0, .d1, .d0⟩, .v (.string (mkS (endL ((plL p).take x))))), (⟨.d1, .d0, .d0⟩, .v (.int .i64 (x : Nat)))]) (fun _ => []) (fun _ => gn + 2) (fun x => (plL p).length - x) (fun x => x ≤ (plL p).length) 0 (Nat.zero_le _) ?_ ?_
      · skip
        refine le_mk ?_ ?_ (Nat.le_refl _)
        all_goals first | with_reducible refine auE ?_ | exact auE0
        all_goals (repeat' (first | exact trivial | exact rfl | apply And.intro))
      intro x hx0
      dsimp only at hx0 ⊢
      with_reducible refine auL ?_
      by_cases hlt2 : x < (plL p).length
      · obtain ⟨y, y1, y2, y3⟩ := hfin x hlt2
        have y4 := htk (x + 1)
        rw [y3] at y4
        simp only [List.length_append, List.length_cons, List.length_nil] at y4
        repeat' (first
          | (with_reducible refine auS ?_)
          | (first | (simp only [b4, mkS_app, ← y3]))
          | (with_reducible refine auD ?_)
          | ((with_reducible refine auB ?_ ?_); all_goals first | (intro h; first | exact auH | simp only [h, runR_t, runR_f] | skip) | skip)
          | (first | (simp only [Int.toNat_natCast, Nat.zero_add, y2, rowS_len]) | (refine runR_n (by simp only [mkS_size, List.length_append, List.length_cons, List.length_nil]; omega) ?_) | fail))
        (all_goals first | exact auP | skip)
        refine nx_loop ⟨x + 1, hlt2, Nat.sub_lt_sub_left hlt2 (Nat.lt_succ_self x), ?_⟩
        refine le_mk ?_ ?_ (Nat.le_refl _)
        all_goals first | with_reducible refine auE ?_ | exact auE0
        all_goals (repeat' (first | exact trivial | exact rfl | apply And.intro))
        all_goals exact dint ((IntWalk.i64_in _ (by omega)).trans (by omega))
      · obtain rfl : x = (plL p).length := by omega
        rw [List.take_length]
        repeat' (first
          | (with_reducible refine auS ?_)
          | fail
          | (with_reducible refine auD ?_)
          | ((with_reducible refine auB ?_ ?_); all_goals first | (intro h; first | exact auH | simp only [h, runR_t, runR_f] | skip) | skip)
          | fail)
        (all_goals first | exact auP | skip)
        all_goals with_reducible refine auF ?_
        all_goals (try first | with_reducible refine auR ?_ | exact auR0)
        all_goals (try simp only [hsM] at *)
        all_goals rfl
theorem planText_bad (p : Pl) (c : Bool) (hp : p.wf) (hl : p.rs.length ≤ maxLen) (he : ¬ plE p = 0) : Spec Tryz.prog 5 [dPl p c] (.tup [.v (.string (mkS [])), .v (.int .i64 (plE p))]) := by
  have hchk := planRight_spec p c hp hl
  generalize plE p = E at *
  refine hspec_fn Tryz.func5 rfl ok_custref_PlanText okr_custref_PlanText rfl (by kernel_rfl) ?_
  intro Γ hW0 hN0 hL0
  have hW := hW0 rfl
  clear hW0 hN0 hL0
  unfold x_custref_PlanText r_custref_PlanText
  with_reducible refine auC ?_
  repeat' (first
    | (with_reducible refine auS ?_)
    | (first | (with_reducible refine runR_call hchk ?_))
    | (with_reducible refine auD ?_)
    | ((with_reducible refine auB ?_ ?_); all_goals first | (intro h; first | exact auH | simp only [h, runR_t, runR_f] | skip) | skip)
    | fail)
  (all_goals first | exact auP | skip)
  all_goals with_reducible refine auF ?_
  all_goals (try first | with_reducible refine auR ?_ | exact auR0)
  all_goals (try simp only [hsM] at *)
  all_goals rfl
end Go.Proofs.YtbcamncabckbnaaGreatDoor
