/-
  What is shown is the same; what is read is the same.
-/
import Derived.Test.YtcbcmaahgldlfaaDoorMacV
import Derived.Test.YtcbcmaahgldlfaaDoorMacJ
namespace Go.Proofs.YtcbcmaahgldlfaaDoor
set_option linter.unusedVariables false
set_option linter.unusedSimpArgs false
theorem hx_byte (n : Int) : UInt8.ofNat (hxI n).toNat = hxB n := by
  unfold hxI hxB
  rw [mkS_at, Int.toNat_natCast]
  unfold bN
  rw [UInt8.ofNat_toNat, List.getD_eq_getElem?_getD]
theorem show_same (m : Nat → Int) : strOf (rowI (showI m)) = joinM m := by
  have h58 : UInt8.ofNat (58 : Int).toNat = 58 := rfl
  simp only [strOf, rowI, showI, List.map, byteOf, hx_byte, h58, joinM, pcs, Lib.join, mkS, List.intercalate, List.intersperse, List.flatten, List.append]
theorem hex_same : ∀ n : Fin 256, digOk (n.val : Int) = decide (0 ≤ ixN n.val) ∧ (digOk (n.val : Int) = true → digI (n.val : Int) = ixN n.val) := by decide +kernel
theorem hex_ok (n : Nat) (h : n < 256) : digOk (n : Int) = decide (0 ≤ ixN n) := (hex_same ⟨n, h⟩).1
theorem hex_v (n : Nat) (h : n < 256) (hk : digOk (n : Int) = true) : digI (n : Int) = ixN n := (hex_same ⟨n, h⟩).2 hk
theorem not_colon {x : UInt8} (h : 0 ≤ ixN x.toNat) : ¬ x = 58 := fun e => by
  subst e
  exact absurd h (by decide +kernel)
/-- Two digits. -/
def H2 (a b : UInt8) : Prop := 0 ≤ ixN a.toNat ∧ 0 ≤ ixN b.toNat
theorem piece_inv {p : List UInt8} (h : pieceOk p = true) : ∃ a b, p = [a, b] ∧ H2 a b := by
  unfold pieceOk at h
  have ⟨h1, h2, h3⟩ := of_decide_eq_true h
  match p, h1 with
  | [a, b], _ => exact ⟨a, b, rfl, h2, h3⟩
theorem piece_mk {a b : UInt8} (h : H2 a b) : pieceOk [a, b] = true := decide_eq_true ⟨rfl, h.1, h.2⟩
theorem piece_v (a b : UInt8) : pieceV [a, b] = 16 * ixN a.toNat + ixN b.toNat := rfl
theorem no58 {a b : UInt8} (h : H2 a b) : (58 : UInt8) ∉ [a, b] := by
  have h1 := not_colon h.1
  have h2 := not_colon h.2
  simp [Ne.symm h1, Ne.symm h2]
def L17 (a b c d e f g h i j k l : UInt8) : List UInt8 := [a, b, 58, c, d, 58, e, f, 58, g, h, 58, i, j, 58, k, l]
def Good (s : List UInt8) : Prop := ∃ a b c d e f g h i j k l, s = L17 a b c d e f g h i j k l ∧ H2 a b ∧ H2 c d ∧ H2 e f ∧ H2 g h ∧ H2 i j ∧ H2 k l
theorem spl17 {a b c d e f g h i j k l : UInt8} (h1 : H2 a b) (h2 : H2 c d) (h3 : H2 e f) (h4 : H2 g h) (h5 : H2 i j) (h6 : H2 k l) : spl 58 (L17 a b c d e f g h i j k l) = [[a, b], [c, d], [e, f], [g, h], [i, j], [k, l]] := by
  have e1 := spl_app (c := 58) (p := [a, b]) ([c, d] ++ 58 :: ([e, f] ++ 58 :: ([g, h] ++ 58 :: ([i, j] ++ 58 :: [k, l])))) (no58 h1)
  rw [spl_app _ (no58 h2), spl_app _ (no58 h3), spl_app _ (no58 h4), spl_app _ (no58 h5), spl_one (no58 h6)] at e1
  exact e1
theorem dk_iff (s : List UInt8) (k : Nat) : dk s k = true ↔ 0 ≤ ixN (bN s k) := by
  unfold dk
  rw [hex_ok _ (bN_lt s k), decide_eq_true_iff]
theorem good_parse {s : List UInt8} (h : parseOk s) : Good s := by
  obtain ⟨h17, hall⟩ := h
  match s, h17 with
  | [a, b, x, c, d, y, e, f, z, g, h, u, i, j, v, k, l], _ =>
    have q0 := hall 0 (by omega)
    have q1 := hall 1 (by omega)
    have q2 := hall 2 (by omega)
    have q3 := hall 3 (by omega)
    have q4 := hall 4 (by omega)
    have q5 := hall 5 (by omega)
    simp only [okAt, dk_iff] at q0 q1 q2 q3 q4 q5
    have t : ∀ w : UInt8, w.toNat = 58 → w = 58 := fun w hw => UInt8.toNat_inj.1 hw
    have e0 := t x (q0.2.2 (by omega))
    have e1 := t y (q1.2.2 (by omega))
    have e2 := t z (q2.2.2 (by omega))
    have e3 := t u (q3.2.2 (by omega))
    have e4 := t v (q4.2.2 (by omega))
    subst e0 e1 e2 e3 e4
    exact ⟨a, b, c, d, e, f, g, h, i, j, k, l, rfl, ⟨q0.1, q0.2.1⟩, ⟨q1.1, q1.2.1⟩, ⟨q2.1, q2.2.1⟩, ⟨q3.1, q3.2.1⟩, ⟨q4.1, q4.2.1⟩, ⟨q5.1, q5.2.1⟩⟩
theorem parse_good {s : List UInt8} (h : Good s) : parseOk s := by
  obtain ⟨a, b, c, d, e, f, g, h, i, j, k, l, rfl, h1, h2, h3, h4, h5, h6⟩ := h
  refine ⟨rfl, fun n hn => ?_⟩
  unfold okAt
  rw [dk_iff, dk_iff]
  match n, hn with
  | 0, _ => exact ⟨h1.1, h1.2, fun _ => rfl⟩
  | 1, _ => exact ⟨h2.1, h2.2, fun _ => rfl⟩
  | 2, _ => exact ⟨h3.1, h3.2, fun _ => rfl⟩
  | 3, _ => exact ⟨h4.1, h4.2, fun _ => rfl⟩
  | 4, _ => exact ⟨h5.1, h5.2, fun _ => rfl⟩
  | 5, _ => exact ⟨h6.1, h6.2, fun q => absurd q (by omega)⟩
theorem good_text {s : List UInt8} (h : (spl 58 s).length = 6 ∧ (spl 58 s).all pieceOk = true) : Good s := by
  obtain ⟨h6, hall⟩ := h
  rw [List.all_eq_true] at hall
  generalize hq : spl 58 s = ps at h6 hall
  match ps, h6 with
  | [p0, p1, p2, p3, p4, p5], _ =>
    obtain ⟨a, b, rfl, g0⟩ := piece_inv (hall p0 (by simp))
    obtain ⟨c, d, rfl, g1⟩ := piece_inv (hall p1 (by simp))
    obtain ⟨e, f, rfl, g2⟩ := piece_inv (hall p2 (by simp))
    obtain ⟨g, h, rfl, g3⟩ := piece_inv (hall p3 (by simp))
    obtain ⟨i, j, rfl, g4⟩ := piece_inv (hall p4 (by simp))
    obtain ⟨k, l, rfl, g5⟩ := piece_inv (hall p5 (by simp))
    obtain ⟨-, (⟨hh, -⟩ | ⟨r0, hr0, hq0⟩)⟩ := spl_inv hq
    · cases hh
    obtain ⟨-, (⟨hh, -⟩ | ⟨r1, hr1, hq1⟩)⟩ := spl_inv hq0
    · cases hh
    obtain ⟨-, (⟨hh, -⟩ | ⟨r2, hr2, hq2⟩)⟩ := spl_inv hq1
    · cases hh
    obtain ⟨-, (⟨hh, -⟩ | ⟨r3, hr3, hq3⟩)⟩ := spl_inv hq2
    · cases hh
    obtain ⟨-, (⟨hh, -⟩ | ⟨r4, hr4, hq4⟩)⟩ := spl_inv hq3
    · cases hh
    obtain ⟨-, (⟨-, h5⟩ | ⟨r, -, h5⟩)⟩ := spl_inv hq4
    · subst h5 hr4 hr3 hr2 hr1 hr0
      exact ⟨a, b, c, d, e, f, g, h, i, j, k, l, rfl, g0, g1, g2, g3, g4, g5⟩
    · exact absurd h5 (spl_ne _ _)
theorem text_good {s : List UInt8} (h : Good s) : (spl 58 s).length = 6 ∧ (spl 58 s).all pieceOk = true := by
  obtain ⟨a, b, c, d, e, f, g, h, i, j, k, l, rfl, h1, h2, h3, h4, h5, h6⟩ := h
  rw [spl17 h1 h2 h3 h4 h5 h6]
  refine ⟨rfl, ?_⟩
  simp [piece_mk, h1, h2, h3, h4, h5, h6]
theorem mac_same (s : List UInt8) : pmac s = tmac (spl 58 s) := by
  by_cases hg : Good s
  · have hp := parse_good hg
    rw [pmac_good hp, tmac_good (text_good hg)]
    obtain ⟨a, b, c, d, e, f, g, h, i, j, k, l, rfl, h1, h2, h3, h4, h5, h6⟩ := hg
    rw [spl17 h1 h2 h3 h4 h5 h6]
    have hv : ∀ (x : UInt8), 0 ≤ ixN x.toNat → digI (x.toNat : Nat) = ixN x.toNat := fun x hx => hex_v _ (UInt8.toNat_lt x) (by rw [hex_ok _ (UInt8.toNat_lt x)]; exact decide_eq_true hx)
    have e1 : pv (L17 a b c d e f g h i j k l) 0 = 16 * digI (a.toNat : Nat) + digI (b.toNat : Nat) := rfl
    have e2 : pv (L17 a b c d e f g h i j k l) 1 = 16 * digI (c.toNat : Nat) + digI (d.toNat : Nat) := rfl
    have e3 : pv (L17 a b c d e f g h i j k l) 2 = 16 * digI (e.toNat : Nat) + digI (f.toNat : Nat) := rfl
    have e4 : pv (L17 a b c d e f g h i j k l) 3 = 16 * digI (g.toNat : Nat) + digI (h.toNat : Nat) := rfl
    have e5 : pv (L17 a b c d e f g h i j k l) 4 = 16 * digI (i.toNat : Nat) + digI (j.toNat : Nat) := rfl
    have e6 : pv (L17 a b c d e f g h i j k l) 5 = 16 * digI (k.toNat : Nat) + digI (l.toNat : Nat) := rfl
    have ep : pvs (L17 a b c d e f g h i j k l) = [pv (L17 a b c d e f g h i j k l) 0, pv (L17 a b c d e f g h i j k l) 1, pv (L17 a b c d e f g h i j k l) 2, pv (L17 a b c d e f g h i j k l) 3, pv (L17 a b c d e f g h i j k l) 4, pv (L17 a b c d e f g h i j k l) 5] := rfl
    rw [ep, e1, e2, e3, e4, e5, e6, hv _ h1.1, hv _ h1.2, hv _ h2.1, hv _ h2.2, hv _ h3.1, hv _ h3.2, hv _ h4.1, hv _ h4.2, hv _ h5.1, hv _ h5.2, hv _ h6.1, hv _ h6.2]
    rfl
  · rw [pmac_bad fun q => hg (good_parse q), tmac_bad fun q => hg (good_text q)]
end Go.Proofs.YtcbcmaahgldlfaaDoor
