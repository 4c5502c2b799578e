/-
  A plan written, in the program.
-/
import Derived.Test.YtbcamncabckbnaaGreatDoorConfW
namespace Go.Proofs.YtbcamncabckbnaaGreatDoor
set_option linter.unusedVariables false
set_option linter.unusedSimpArgs false
def lineT (ws : List W8) : W8 := joinL ws ++ [10]
def ruleWs (r : Rl) : List W8 := [pw r.ps, netT r.fa r.fl, netT r.ta r.tl, dI r.pr, bndT r.fp r.fq, bndT r.tp r.tq]
def tx1 (p : Pl) : W8 := lineT [wOut, showA p.ou.toNat]
def tx2 (p : Pl) : W8 := tx1 p ++ lineT [wPorts, dI p.lt, dI p.st]
def tx3 (p : Pl) : W8 := tx2 p ++ lineT [wLife, dI p.lf]
def tx4 (p : Pl) : W8 := tx3 p ++ lineT [wRate, dI p.ra, dI p.mo]
def txR (p : Pl) (l : List Rl) : W8 := tx4 p ++ (l.map fun r => lineT (ruleWs r)).flatten
def planT (p : Pl) : W8 := txR p p.rs ++ lineT [wElse, pw p.el]
theorem txR_snoc (p : Pl) (l : List Rl) (r : Rl) : txR p (l ++ [r]) = txR p l ++ lineT (ruleWs r) := by simp [txR]
theorem joinL_len : ∀ (ws : List W8), (joinL ws).length ≤ (ws.map (fun w => w.length + 1)).sum
  | [] => by simp [joinL, Lib.join, List.intercalate, List.intersperse]
  | [x] => by simp [joinL, Lib.join, List.intercalate, List.intersperse]
  | x :: y :: r => by
    have h := joinL_len (y :: r)
    have e : joinL (x :: y :: r) = x ++ [32] ++ joinL (y :: r) := by simp [joinL, Lib.join, List.intercalate, List.intersperse]
    rw [e]
    simp only [List.length_append, List.length_singleton, List.map_cons, List.sum_cons] at h ⊢
    omega
theorem pw_len (b : Bool) : (pw b).length = 4 := by cases b <;> rfl
theorem plE_facts {p : Pl} (hp : p.wf) (h : plE p = 0) : (0 ≤ p.ou ∧ p.ou < 4294967296) ∧ (64 ≤ p.lt ∧ p.lt ≤ 65472) ∧ (64 ≤ p.st ∧ p.st ≤ 65472) ∧ (1 ≤ p.lf ∧ p.lf ≤ 1000000) ∧ (0 ≤ p.ra ∧ p.ra ≤ 1000000) ∧ (1 ≤ p.mo ∧ p.mo ≤ 1000000000) ∧ p.rs.length ≤ 64 ∧ (∀ r ∈ p.rs, rOk r = true ∧ r.wf) := by
  unfold plE at h
  split at h
  · rename_i hk
    unfold plOk pOk at hk
    simp only [Bool.and_eq_true, decide_eq_true_eq] at hk
    obtain ⟨h1, h2⟩ := rErr_ok h
    exact ⟨hp.1, ⟨hk.1.1, hk.1.2.1⟩, ⟨hk.2.1.1, hk.2.1.2.1⟩, hk.2.2.1, hk.2.2.2.1, hk.2.2.2.2, h1, fun r hr => ⟨h2 r hr, hp.2 r hr⟩⟩
  · cases h
structure RlF (r : Rl) : Prop where
  (fa : 0 ≤ r.fa ∧ r.fa < 4294967296) (fl : 0 ≤ r.fl ∧ r.fl ≤ 1000000000) (ta : 0 ≤ r.ta ∧ r.ta < 4294967296) (tl : 0 ≤ r.tl ∧ r.tl ≤ 1000000000) (pr : 0 ≤ r.pr ∧ r.pr ≤ 1000000000)
  (fp : 0 ≤ r.fp ∧ r.fp ≤ 1000000000) (fq : 0 ≤ r.fq ∧ r.fq ≤ 1000000000) (tp : 0 ≤ r.tp ∧ r.tp ≤ 1000000000) (tq : 0 ≤ r.tq ∧ r.tq ≤ 1000000000)
theorem rlF {r : Rl} (h : rOk r = true ∧ r.wf) : RlF r := by
  obtain ⟨⟨h1, h2⟩, h3, h4, h5⟩ := rOk_facts h.1
  have b1 := isNet_bd h1
  have b2 := isNet_bd h2
  exact ⟨h.2.1, by omega, h.2.2, by omega, by omega, by omega, by omega, by omega, by omega⟩
theorem rule_len {r : Rl} (h : RlF r) : (lineT (ruleWs r)).length ≤ 200 := by
  have l1 := showA_len r.fa.toNat
  have l2 := showA_len r.ta.toNat
  have l3 := dI_len _ h.fl
  have l4 := dI_len _ h.tl
  have l5 := dI_len _ h.pr
  have l6 := dI_len _ h.fp
  have l7 := dI_len _ h.fq
  have l8 := dI_len _ h.tp
  have l9 := dI_len _ h.tq
  have l0 := pw_len r.ps
  have := joinL_len (ruleWs r)
  unfold lineT
  unfold ruleWs netT bndT at this ⊢
  simp only [List.map_cons, List.map_nil, List.sum_cons, List.sum_nil, List.length_append, List.length_singleton] at this ⊢
  omega
theorem tx4_len {p : Pl} (hp : p.wf) (h : plE p = 0) : (tx1 p).length ≤ (tx4 p).length ∧ (tx2 p).length ≤ (tx4 p).length ∧ (tx3 p).length ≤ (tx4 p).length ∧ (tx4 p).length ≤ 500 := by
  obtain ⟨h1, h2, h3, h4, h5, h6, -⟩ := plE_facts hp h
  have l1 := showA_len p.ou.toNat
  have l2 := dI_len p.lt (by omega)
  have l3 := dI_len p.st (by omega)
  have l4 := dI_len p.lf (by omega)
  have l5 := dI_len p.ra (by omega)
  have l6 := dI_len p.mo (by omega)
  have j1 := joinL_len [wOut, showA p.ou.toNat]
  have j2 := joinL_len [wPorts, dI p.lt, dI p.st]
  have j3 := joinL_len [wLife, dI p.lf]
  have j4 := joinL_len [wRate, dI p.ra, dI p.mo]
  unfold tx4 tx3 tx2 tx1 lineT
  simp only [List.map_cons, List.map_nil, List.sum_cons, List.sum_nil, List.length_append, List.length_singleton, List.length_cons, List.length_nil] at j1 j2 j3 j4 ⊢
  omega
theorem txR_len {p : Pl} (hp : p.wf) (h : plE p = 0) (l : List Rl) (hl : ∀ r ∈ l, r ∈ p.rs) : (txR p l).length ≤ 500 + 200 * l.length := by
  have h4 := (tx4_len hp h).2.2.2
  have hr := (plE_facts hp h).2.2.2.2.2.2.2
  have : ∀ l : List Rl, (∀ r ∈ l, r ∈ p.rs) → ((l.map fun r => lineT (ruleWs r)).flatten).length ≤ 200 * l.length := fun l => by
    induction l with
    | nil => intro _; simp
    | cons r l ih =>
      intro hl
      have i := ih (fun x hx => hl x (by simp [hx]))
      have := rule_len (rlF (hr r (hl r (by simp))))
      simp only [List.map_cons, List.flatten_cons, List.length_append, List.length_cons]
      omega
  have := this l hl
  unfold txR
  rw [List.length_append]
  omega
set_option maxHeartbeats 4000000 in
theorem write_ok (p : Pl) (c : Bool) (hp : p.wf) (he : plE p = 0) : Spec Tryz.prog 4 [dPl p c] (.tup [.v (.string (mkS (planT p))), .v (.int .i64 0)]) := by
  obtain ⟨f1, f2, f3, f4, f5, f6, f7, f8⟩ := plE_facts hp he
  obtain ⟨k1, k2, k3, k4⟩ := tx4_len hp he
  have hchk := confCheck_spec p c hp (by unfold maxLen; omega)
  rw [he] at hchk
  have s1 := showI p.ou f1
  have s2 := itoaI p.lt (by omega)
  have s3 := itoaI p.st (by omega)
  have s4 := itoaI p.lf (by omega)
  have s5 := itoaI p.ra (by omega)
  have s6 := itoaI p.mo (by omega)
  have w1 := fun nb bn an => wline2 nb bn an 2 (a := .v (.pointer none)) (.inl rfl) (l := []) (t := tx1 p) wOut (showA p.ou.toNat) rfl (by omega)
  have w2 := fun nb bn an => wline3 nb bn an 3 (a := .tptr nb 2 tBld) (.inr rfl) (l := tx1 p) (t := tx2 p) wPorts (dI p.lt) (dI p.st) rfl (by omega)
  have w3 := fun nb bn an => wline2 nb bn an 4 (a := .tptr nb 2 tBld) (.inr rfl) (l := tx2 p) (t := tx3 p) wLife (dI p.lf) rfl (by omega)
  have w4 := fun nb bn an => wline3 nb bn an 5 (a := .tptr nb 2 tBld) (.inr rfl) (l := tx3 p) (t := tx4 p) wRate (dI p.ra) (dI p.mo) rfl (by omega)
  refine hspec_fn Tryz.func4 rfl ok_conf_Write okr_conf_Write rfl (by kernel_rfl) ?_
  intro Γ hW0 hN0 hL0
  have hW := hW0 rfl
  clear hW0 hN0 hL0
  unfold x_conf_Write r_conf_Write
  with_reducible refine auC ?_
  repeat' (first
    | (first | (refine go_le (le_bld 1 9 (by decide) rfl) ?_) | (refine go_le (le_place 10 9 rfl (fun _ => rfl)) ?_))
    | (with_reducible refine auS ?_)
    | (first | (with_reducible refine runR_call hchk ?_) | (with_reducible refine runR_call s1 ?_) | (with_reducible refine runR_call s2 ?_) | (with_reducible refine runR_call s3 ?_) | (with_reducible refine runR_call s4 ?_) | (with_reducible refine runR_call s5 ?_) | (with_reducible refine runR_call s6 ?_) | ((with_reducible refine atCall 11 ?_); first | (refine runR_callG [1, 9, 2] [10] [1, 9, 2, 10] rfl (by decide) rfl rfl (w1 _ _ _) ?_) | (refine runR_callG [1, 9, 3] [10] [1, 9, 3, 10] rfl (by decide) rfl rfl (w2 _ _ _) ?_) | (refine runR_callG [1, 9, 4] [10] [1, 9, 4, 10] rfl (by decide) rfl rfl (w3 _ _ _) ?_) | (refine runR_callG [1, 9, 5] [10] [1, 9, 5, 10] rfl (by decide) rfl rfl (w4 _ _ _) ?_)))
    | (with_reducible refine auD ?_)
    | ((with_reducible refine auB ?_ ?_); all_goals first | (intro h; first | exact auH | simp only [h, runR_t, runR_f] | skip) | skip)
    | fail)
  (all_goals first | exact auP | skip)
  have e0 : txR p (p.rs.take 0) = tx4 p := by simp [txR]
  rw [← e0]
  refine go_loopH (α := Nat × Nat × Nat) (fun x => [(⟨.d0, .d6, .d0⟩, .v (.int .i64 (x.1 : Nat)))]) (fun x => [(1, some (oB (Γ.g0 + 1) (.tptr (Γ.g0 + 1) 2 tBld) 1 x.2.1 (txR p (p.rs.take x.1)))), (6, none), (7, none), (9, some (oR x.2.1 (txR p (p.rs.take x.1)))), (10, none)]) (fun x => x.2.2) (fun x => p.rs.length - x.1) (fun x => x.1 ≤ p.rs.length) (0, Γ.g0 + 10, Γ.g0 + 11) (Nat.zero_le _) ?_ ?_
  · skip
    refine le_mk ?_ ?_ (Nat.le_refl _)
    all_goals first | with_reducible refine auE ?_ | exact auE0
    all_goals (repeat' (first | exact trivial | exact rfl | apply And.intro))
  rintro ⟨i, bn, gn⟩ hi
  dsimp only at hi ⊢
  with_reducible refine auL ?_
  by_cases hlt : i < p.rs.length
  · obtain ⟨r, hr⟩ : ∃ r, p.rs[i]? = some r := ⟨_, List.getElem?_eq_getElem hlt⟩
    have hmem := List.mem_of_getElem? hr
    have ex := xget_rl hr
    have F := rlF (f8 r hmem)
    have q1 := verdict_spec r.ps
    have q2 := net_specW r.fa r.fl F.fa F.fl
    have q3 := net_specW r.ta r.tl F.ta F.tl
    have q4 := itoaI r.pr F.pr
    have q5 := bounds_specW r.fp r.fq F.fp F.fq
    have q6 := bounds_specW r.tp r.tq F.tp F.tq
    have hsn := txR_snoc p (p.rs.take i) r
    rw [← take_snoc hr] at hsn
    have hln := txR_len hp he (p.rs.take (i + 1)) (fun x hx => List.mem_of_mem_take hx)
    rw [List.length_take] at hln
    have q7 := fun nb bn an => wline6 nb bn an 7 (a := .tptr nb 2 tBld) (.inr rfl) (l := txR p (p.rs.take i)) (t := txR p (p.rs.take (i + 1))) (pw r.ps) (netT r.fa r.fl) (netT r.ta r.tl) (dI r.pr) (bndT r.fp r.fq) (bndT r.tp r.tq) hsn (by omega)
    repeat' (first
      | (refine go_le (le_place 10 9 rfl (fun _ => rfl)) ?_)
      | (with_reducible refine auS ?_)
      | (first | (with_reducible refine runR_call q1 ?_) | (with_reducible refine runR_call q2 ?_) | (with_reducible refine runR_call q3 ?_) | (with_reducible refine runR_call q4 ?_) | (with_reducible refine runR_call q5 ?_) | (with_reducible refine runR_call q6 ?_) | ((with_reducible refine atCall 11 ?_); (refine runR_callG [1, 9, 7] [10] [1, 9, 7, 10] rfl (by decide) rfl rfl (q7 _ _ _) ?_)))
      | (with_reducible refine auD ?_)
      | ((with_reducible refine auB ?_ ?_); all_goals first | (intro h; first | exact auH | simp only [h, runR_t, runR_f] | skip) | skip)
      | (simp only [Int.toNat_natCast, ex, List.length_map]))
    (all_goals first | exact auP | skip)
    refine nx_loop ⟨(i + 1, gn + 1 + 1, gn + 3), hlt, Nat.sub_lt_sub_left hlt (Nat.lt_succ_self i), ?_⟩
    refine le_mk ?_ ?_ (Nat.le_refl _)
    all_goals first | with_reducible refine auE ?_ | exact auE0
    all_goals (repeat' (first | exact trivial | exact rfl | apply And.intro))
    all_goals exact dint ((IntWalk.i64_in _ (by omega)).trans (by omega))
  · obtain rfl : i = p.rs.length := by omega
    rw [List.take_length]
    have hln := txR_len hp he p.rs (fun x hx => hx)
    have hpw := pw_len p.el
    have hjl := joinL_len [wElse, pw p.el]
    have q1 := verdict_spec p.el
    have hpl : (planT p).length ≤ 1048576 := by
      unfold planT lineT
      simp only [List.map_cons, List.map_nil, List.sum_cons, List.sum_nil, List.length_append, List.length_singleton, List.length_cons, List.length_nil] at hjl ⊢
      omega
    have hne : planT p ≠ [] := by
      unfold planT lineT
      simp
    have q7 := fun nb bn an => wline2 nb bn an 8 (a := .tptr nb 2 tBld) (.inr rfl) (l := txR p p.rs) (t := planT p) wElse (pw p.el) rfl hpl
    have q8 := fun nb bn => strB nb bn (planT p) hne hpl
    simp only [strRows_mkS] at q8
    repeat' (first
      | (refine go_le (le_place 10 9 rfl (fun _ => rfl)) ?_)
      | (with_reducible refine auS ?_)
      | (first | (with_reducible refine runR_call q1 ?_) | ((with_reducible refine atCall 11 ?_); (refine runR_callG [1, 9, 8] [10] [1, 9, 8, 10] rfl (by decide) rfl rfl (q7 _ _ _) ?_)) | ((with_reducible refine atCall 19 ?_); (refine runR_callL [1, 9] (by decide) rfl rfl (q8 _ _) ?_)))
      | (with_reducible refine auD ?_)
      | ((with_reducible refine auB ?_ ?_); all_goals first | (intro h; first | exact auH | simp only [h, runR_t, runR_f] | skip) | skip)
      | (simp only [List.length_map]))
    (all_goals first | exact auP | skip)
    all_goals with_reducible refine auF ?_
    all_goals (try first | with_reducible refine auR ?_ | exact auR0)
    all_goals (try simp only [hsM] at *)
    all_goals rfl
theorem write_bad (p : Pl) (c : Bool) (hp : p.wf) (hl : p.rs.length ≤ maxLen) (he : ¬ plE p = 0) : Spec Tryz.prog 4 [dPl p c] (.tup [.v (.string (mkS [])), .v (.int .i64 (plE p))]) := by
  have hchk := confCheck_spec p c hp hl
  generalize plE p = E at *
  refine hspec_fn Tryz.func4 rfl ok_conf_Write okr_conf_Write rfl (by kernel_rfl) ?_
  intro Γ hW0 hN0 hL0
  have hW := hW0 rfl
  clear hW0 hN0 hL0
  unfold x_conf_Write r_conf_Write
  with_reducible refine auC ?_
  repeat' (first
    | (with_reducible refine auS ?_)
    | (first | (with_reducible refine runR_call hchk ?_))
    | (with_reducible refine auD ?_)
    | ((with_reducible refine auB ?_ ?_); all_goals first | (intro h; first | exact auH | simp only [h, runR_t, runR_f] | skip) | skip)
    | fail)
  (all_goals first | exact auP | skip)
  all_goals with_reducible refine auF ?_
  all_goals (try first | with_reducible refine auR ?_ | exact auR0)
  all_goals (try simp only [hsM] at *)
  all_goals rfl
end Go.Proofs.YtbcamncabckbnaaGreatDoor
