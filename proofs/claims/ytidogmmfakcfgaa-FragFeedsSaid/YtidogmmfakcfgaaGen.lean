/-
  Words for the library's functions over slices: the first place at which something holds.
-/
import Derived.Test.YtidogmmfakcfgaaFwB
import Derived.Test.YtidogmmfakcfgaaProg
import Derived.KernelRfl
import Derived.IntWalk
namespace Go.Proofs.Ytidogmmfakcfgaa
set_option linter.unusedVariables false
set_option linter.unusedSimpArgs false
theorem mixed_ok : Try.prog.follows .mixedOrders = true := by kernel_rfl
theorem hsM : (∀ (p : Prop) [Decidable p], (decide p = true) = p) ∧ (∀ (p : Prop) [Decidable p], (decide p = false) = ¬p) ∧ (∀ b : Bool, ((!b) = true) = (b = false)) ∧ (∀ b : Bool, ((!b) = false) = (b = true)) ∧
    (∀ a b : Bool, ((a && b) = true) = (a = true ∧ b = true)) ∧ (∀ a b : Bool, ((a || b) = true) = (a = true ∨ b = true)) ∧ (∀ a b : Bool, ((a && b) = false) = (a = false ∨ b = false)) ∧ (∀ a b : Bool, ((a || b) = false) = (a = false ∧ b = false)) :=
  ⟨fun _ _ => by simp, fun _ _ => by simp, fun b => by cases b <;> simp, fun b => by cases b <;> simp, fun a b => by cases a <;> simp, fun a b => by cases a <;> simp, fun a b => by cases a <;> simp, fun a b => by cases a <;> simp⟩
theorem hsL : ((∀ (p : Prop) [Decidable p], (decide p = true) = p) ∧ (∀ (p : Prop) [Decidable p], (decide p = false) = ¬p) ∧ (∀ b : Bool, ((!b) = true) = (b = false)) ∧ (∀ b : Bool, ((!b) = false) = (b = true)) ∧
    (∀ a b : Bool, ((a && b) = true) = (a = true ∧ b = true)) ∧ (∀ a b : Bool, ((a || b) = true) = (a = true ∨ b = true)) ∧ (∀ a b : Bool, ((a && b) = false) = (a = false ∨ b = false)) ∧ (∀ a b : Bool, ((a || b) = false) = (a = false ∧ b = false))) ∧
    (∀ a b : Int, (¬ a ≤ b) = (b < a)) ∧ (∀ a b : Int, (¬ a < b) = (b ≤ a)) ∧ (∀ (p : Prop) [Decidable p], (¬ ¬ p) = p) ∧ (∀ (α : Type) (a b : α), (a ≠ b) = ¬ a = b) ∧ ((¬ True) = False) ∧ ((¬ False) = True) ∧ (decide True = true) ∧ (decide False = false) ∧
    ((!true) = false) ∧ ((!false) = true) ∧ ((false = true) = False) ∧ (∀ (α β : Type) (l : List α) (f : α → β), (l.map f).length = l.length) ∧ (∀ a b : Bool, (a && true) = a ∧ (true && a) = a ∧ (false && a) = false ∧ (a && false) = false) :=
  ⟨hsM, fun _ _ => by simp, fun _ _ => by simp, fun _ _ => by simp [Decidable.not_not], fun _ _ _ => rfl, by simp, by simp, rfl, rfl, rfl, rfl, by simp, fun _ _ _ _ => by simp, fun a b => by simp⟩
theorem ret_spec2 {Γ : Gm} {xr : List XR} {D : DV} {st : St} (h : resOk st xr ∧ nfD Γ.g0 (resV (resDs st xr))) (h3 : resV (resDs st xr) = D) : RetQ Γ xr 0 (fun d H => d = D ∧ H = []) st := ret_spec h.1 h.2 h3
theorem auN {p : Prop} (h : p := by ((repeat' (first | exact trivial | exact rfl | apply And.intro)) <;> (first | exact rfl | (intro hq; cases hq; done) | decide | omega | exact keysOk_map (fun _ => rfl) _ | (simp only [List.length_map, List.length_append, List.length_cons, List.length_nil, List.length_replicate]; done) | (simp only [room, maxLen, allOnes, oneV, List.length_map, List.length_append, List.length_cons, List.length_nil, List.length_replicate] at *; omega) | (simp only [hsL, reduceCtorEq] at * <;> omega)))) : p := h
theorem auH {p : Prop} (h : False := by (simp only [hsL, reduceCtorEq] at * <;> omega)) : p := h.elim
theorem auP {p : Prop} (h : False := by ((try simp only [List.length_map] at *); first | omega | (simp only [hsL, reduceCtorEq] at * <;> omega))) : p := h.elim
theorem auD {p q : Prop} (h : q) (e : q → p := by intro hq; dsimp only [run, undef, zipO, runR_ok, runR_t, runR_f, gd, gd2, skipR, ex1, pickR, boxR, loadR, loadO, storeR, storeO, nilR, fieldAR, fieldR, partOf, binR, intBin, unR, boolR, kindEq, shiftOp, onlyIf, orB, convR, extR, lenR, indexSlR, indexArrR, gidxR, putE, updL, keysOf, lget, lset, evT, evs, Env.get, Env.set, N8.get, N8.set, env0, cellsD, oneD, oneV, andB, allOne, lenB, mapV, dget, ddrop, dtake, splice, xget, xset, partsD, partsOk, partsE, partsEOk, repl, elemsR, elemsS, elemsO, xdrop, xtake, allOnes, appN, appOwn, appNew, appY, appTR, appTO, cellEq_i, cellEq_b, cellEq_s, cellEq_n, cellEq_r, cellEq_p, consO, cmpAll, allB, negB, eqsO, eqsR, eqbR, minR, evO, bndO, keepB, snapCut, slCut, nilCut, sliceR, isS, isnilL, isnilX, isnilR, isnilIR, strBin, sbinR, slenR, strAtR, substrB, substrR, makeR, clearO, clearR, sliceW1, sliceW2, sliceW3, sliceWR, appWO, appWR, okByte, okBytes, b2sR, indexVR, isnilPR, chunk, sliceAR, s2bR, flat1, arrpR, exnR, mgetR, mgetK, mgetO, mputR, mputK, mputO, mlenR, mlenO, mgetLR, mgetLK, mgetLO, mgetLX, mentLR, mentLK, mentLO, mentLX, estLR, estLO, estLX, keyV, valL, s2bOR, appD, callvR, cond, condK_t, condK_f, argsE, slots0, List.length_cons, List.length_nil, Bool.true_or, Bool.false_or, Bool.or_true, Bool.or_false, bnf, bnt, Nat.add_zero, Nat.zero_add, Nat.reduceAdd, Nat.reduceMul, Int.reduceToNat, endS]; exact hq) : p := e h
theorem auS {p q : Prop} (h : q) (e : q → p := by intro hq; first | (with_reducible first | exact go_seq hq | exact go_region hq | exact go_regionD mixed_ok hq | exact go_cond hq | exact go_skip hq | exact go_block hq | exact nx_code hq | exact nx_block hq | exact go_ret hq | exact nx_nil hq | exact go_exit hq | exact ex_code hq | exact ex_loop hq | exact ex_here hq) | ((with_reducible refine ex_past ?_ hq); (with_unfolding_all decide)) | ((with_reducible refine endD_intro ?_ hq); (with_unfolding_all kernel_rfl)) | ((with_reducible refine runR_n ?_ hq); (with_unfolding_all exact auN))) : p := e h
theorem auB {p q r : Prop} (h1 : q) (h2 : r) (e : q → r → p := by intro h1 h2; with_reducible first | exact runR_b h1 h2 | exact condK_bl h1 h2 | exact condK_b h1 h2) : p := e h1 h2
theorem auR {p q : Prop} (h : q) (e : q → p := by intro hq; dsimp only [RetOK, resOk, resDs, resD, resV, cellV, cellO, cellP, cellOk, htake, nfD, nfL, nfLL, nfH, lget, partOf, xget, ddrop, dtake, dget, Env.get, N8.get, env0, List.length_cons, List.length_nil, Env.set, N8.set, lset, updL]; exact hq) : p := e h
theorem auL {p q : Prop} (h : q) (e : q → p := by intro hq; dsimp only [writesX, dstsX, appS, havE, setsE, Env.get, Env.set, N8.get, N8.set, updL, lget, lset, env0]; exact hq) : p := e h
theorem auE {p q : Prop} (h : q) (e : q → p := by intro hq; dsimp only [leE, leC, leR, leN, leD, leH, leO, writesX, dstsX, appS, havE, setsE, Env.get, Env.set, N8.get, N8.set, updL, lget, lset, env0]; exact hq) : p := e h
theorem auR0 {p : Prop} (h : p := by dsimp only [RetOK, resOk, resDs, resD, resV, cellV, cellO, cellP, cellOk, htake, nfD, nfL, nfLL, nfH, lget, partOf, xget, ddrop, dtake, dget, Env.get, N8.get, env0, List.length_cons, List.length_nil, Env.set, N8.set, lset, updL]) : p := h
theorem auE0 {p : Prop} (h : p := by dsimp only [leE, leC, leR, leN, leD, leH, leO, writesX, dstsX, appS, havE, setsE, Env.get, Env.set, N8.get, N8.set, updL, lget, lset, env0]) : p := h
theorem auF {p q : Prop} (h : q) (e : q → p := by intro hq; with_unfolding_all exact ret_spec2 (by (try dsimp only [RetOK, resOk, resDs, resD, resV, cellV, cellO, cellP, cellOk, htake, nfD, nfL, nfLL, nfH, lget, partOf, xget, ddrop, dtake, dget, Env.get, N8.get, env0, List.length_cons, List.length_nil, Env.set, N8.set, lset, updL]); (repeat' (first | exact trivial | exact rfl | exact nfLL_map (fun x => by simp [nfL, nfD]) | decide | apply And.intro))) hq) : p := e h
def firstI {α : Type} (p : α → Bool) : List α → Nat → Int
  | [], _ => -1
  | t :: r, k => if p t then k else firstI p r (k + 1)
theorem firstI_shift {α : Type} (p : α → Bool) : ∀ (l : List α) (k : Nat), (∀ y ∈ l, p y = false) → firstI p l k = -1
  | [], k, _ => rfl
  | y :: r, k, h => by
    simp only [firstI, h y (by simp)]
    exact firstI_shift p r (k + 1) (fun z hz => h z (by simp [hz]))
theorem firstI_here {α : Type} (p : α → Bool) (t : α) (ht : p t = true) (r : List α) : ∀ (l : List α) (k : Nat), (firstI p (l ++ t :: r) k = ((k + l.length : Nat) : Int)) ↔ l.all (fun y => !p y) = true
  | [], k => by simp [firstI, ht]
  | y :: s, k => by
    have ih := firstI_here p t ht r s (k + 1)
    simp only [List.cons_append, firstI, List.all_cons, List.length_cons]
    cases hy : p y with
    | true => simp; omega
    | false =>
      simp only [Bool.not_false, Bool.true_and, ← ih]
      simp only [Bool.false_eq_true, if_false]
      rw [show k + 1 + s.length = k + (s.length + 1) by omega]
theorem firstI_cases {α : Type} (p : α → Bool) : ∀ (l : List α) (k : Nat), (firstI p l k = -1 ∧ ∀ t ∈ l, p t = false) ∨ ∃ i t, l[i]? = some t ∧ p t = true ∧ (∀ y ∈ l.take i, p y = false) ∧ firstI p l k = ((k + i : Nat) : Int)
  | [], k => .inl ⟨rfl, fun t h => by simp at h⟩
  | y :: r, k => by
    cases hy : p y with
    | true => exact .inr ⟨0, y, rfl, hy, fun z hz => by simp at hz, by simp [firstI, hy]⟩
    | false =>
      rcases firstI_cases p r (k + 1) with ⟨h1, h2⟩ | ⟨i, t, h1, h2, h3, h4⟩
      · exact .inl ⟨by simp [firstI, hy, h1], fun t ht => by
          rcases List.mem_cons.1 ht with rfl | ht
          · exact hy
          · exact h2 t ht⟩
      · exact .inr ⟨i + 1, t, by simpa using h1, h2, fun z hz => by
          rw [List.take_succ_cons] at hz
          rcases List.mem_cons.1 hz with rfl | hz
          · exact hy
          · exact h3 z hz, by simp only [firstI, hy, Bool.false_eq_true, if_false, h4]; congr 1; omega⟩
def goodG {α : Type} (ok : List α → α → Bool) : List α → List α → Bool
  | _, [] => true
  | pre, t :: r => ok pre t && goodG ok (pre ++ [t]) r
theorem goodG_next {α : Type} {ok : List α → α → Bool} {l : List α} {k : Nat} {t : α} (ht : l[k]? = some t) (hg : goodG ok [] l = goodG ok (l.take k) (l.drop k)) (hok : ok (l.take k) t = true) : goodG ok [] l = goodG ok (l.take (k + 1)) (l.drop (k + 1)) := by
  have hk : k < l.length := (List.getElem?_eq_some_iff.1 ht).1
  rw [hg, List.drop_eq_getElem_cons hk, show l[k] = t from Option.some.inj ((List.getElem?_eq_getElem hk).symm.trans ht), goodG, hok, Bool.true_and, List.take_add_one, ht]
  rfl
theorem goodG_bad {α : Type} {ok : List α → α → Bool} {l : List α} {k : Nat} {t : α} (ht : l[k]? = some t) (hg : goodG ok [] l = goodG ok (l.take k) (l.drop k)) (hok : ok (l.take k) t = false) : goodG ok [] l = false := by
  have hk : k < l.length := (List.getElem?_eq_some_iff.1 ht).1
  rw [hg, List.drop_eq_getElem_cons hk, show l[k] = t from Option.some.inj ((List.getElem?_eq_getElem hk).symm.trans ht), goodG, hok, Bool.false_and]
theorem goodG_at {α : Type} {ok : List α → α → Bool} : ∀ {l pre : List α} {j : Nat} {z : α}, goodG ok pre l = true → l[j]? = some z → ok (pre ++ l.take j) z = true
  | [], _, _, _, _, h => by simp at h
  | y :: r, pre, 0, z, hg, h => by
    simp only [goodG, Bool.and_eq_true] at hg
    simp at h
    subst h
    simpa using hg.1
  | y :: r, pre, j + 1, z, hg, h => by
    simp only [goodG, Bool.and_eq_true] at hg
    have := goodG_at hg.2 (j := j) (z := z) (by simpa using h)
    simpa using this
theorem filter_none {α : Type} {p : α → Bool} {l : List α} (h : ∀ y ∈ l, p y = false) : l.filter (fun t => !p t) = l := by
  rw [List.filter_eq_self]
  intro y hy
  simp [h y hy]
theorem xget_app {α : Type} {f : α → List DV} {l : List α} {j : Nat} {t : α} (A G : List (List DV)) (hj : l[j]? = some t) (h : A.length + G.length = j) : xget (A ++ (G ++ (l.drop j).map f)) j = f t := by
  have hjl := (List.getElem?_eq_some_iff.1 hj).1
  rw [xget_get, ← List.append_assoc, List.getElem?_append_right (by simp; omega)]
  have e : j - (A ++ G).length = 0 := by simp; omega
  rw [e, List.getElem?_map, List.getElem?_drop, Nat.add_zero, hj]
  rfl
theorem xset_app (x y : List DV) (G B : List (List DV)) : ∀ (A : List (List DV)), xset (A ++ (x :: G ++ B)) A.length y = A ++ (y :: G ++ B)
  | [] => rfl
  | a :: r => by
    have := xset_app x y G B r
    simp only [List.cons_append, List.length_cons, xset] at this ⊢
    rw [this]
end Go.Proofs.Ytidogmmfakcfgaa
