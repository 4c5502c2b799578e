/-
  The library's sorting of texts, dropping of repetitions and search.
-/
import Derived.Test.YtlfbjdafnappdaaShelf
import Derived.Test.YtlfbjdafnappdaaPutG
namespace Go.Proofs.Ytlfbjdafnappdaa
set_option linter.unusedVariables false
set_option linter.unusedSimpArgs false
theorem row_real {Γ : Gm} {K : Kr} {w : World} {n : Nat} {P : List B8} (hI : Inv Γ K (lget [some ⟨n, 1, stR P⟩]) w) (h0 : P ≠ []) : K.real n ∧ ∃ cs t fr, RowOk 1 cs.size fr ∧ w.heap[K.μ n]? = some (.cells cs t fr) ∧ P.length ≤ cs.size ∧ ∀ (i : Nat) (b : B8), P[i]? = some b → cs[i]? = some (.string (mkS b)) := by
  have ho : lget [some (⟨n, 1, stR P⟩ : AObj)] 0 = some ⟨n, 1, stR P⟩ := rfl
  rcases (hI.obj 0 _ ho).two (fun hm => by have := hm.2.1; simp only at this; omega) with ⟨-, u2⟩ | ⟨u1, cs, t, fr, u2, u3, u4, u5, u6⟩
  · exact absurd (List.map_eq_nil_iff.1 u2) h0
  · refine ⟨u1, cs, t, fr, u2, u3, by simpa using u4, fun i b hb => ?_⟩
    have hx : (stR P)[i]? = some [.v (.string (mkS b))] := by rw [List.getElem?_map, hb]; rfl
    obtain ⟨c, c1, c2⟩ := u6 i _ 0 _ hx rfl
    simp only [Nat.mul_one, Nat.add_zero] at c1
    cases c2
    exact c1
theorem row_holds {K : Kr} {w : World} {n : Nat} {P : List B8} {cs : Array Value} {t : TypeId} {fr : Nat × Nat} (h1 : RowOk 1 cs.size fr) (h2 : w.heap[K.μ n]? = some (.cells cs t fr)) (h3 : P.length ≤ cs.size) (h4 : ∀ (i : Nat) (b : B8), P[i]? = some b → cs[i]? = some (.string (mkS b))) : Sort.Holds encStr w (K.μ n) 0 P.toArray := fun j hj => by
  have hj : j < P.length := by simpa using hj
  refine ⟨?_, ?_⟩
  · unfold World.cell?
    dsimp only
    rw [h2]
    dsimp only
    rw [Nat.zero_add, h4 j P[j] (List.getElem?_eq_getElem hj), getB P j hj]
    rfl
  · unfold World.frozen?
    dsimp only
    rw [h2]
    obtain ⟨lo, hi⟩ := fr
    dsimp only
    have := h1.1
    unfold NF at this
    dsimp only at this
    simp
    omega
theorem compact_le (S : List B8) : (Lib.compact S).length ≤ S.length := by
  unfold Lib.compact Lib.compactUpTo
  rw [List.length_map]
  exact Nat.le_trans (List.length_filter_le _ _) (Nat.le_of_eq List.length_range)
theorem sl_inv {K : Kr} {w : World} {n len : Nat} {v : Value} (h : VRel K w (.sl 0 n 1 0 len false) v) (h0 : 0 < len) : ∃ cap, v = .slice (some ⟨K.μ n, 0, none⟩) len cap ∧ len ≤ cap ∧ ∃ cs t fr, w.heap[K.μ n]? = some (.cells cs t fr) ∧ cap = cs.size := by
  cases h with
  | sl hlc hf hh =>
    rename_i A cap
    rcases hh with hh | ⟨q1, rfl, cs, t, fr, q3, q4, q5⟩
    · omega
    · refine ⟨cap, by rw [Nat.zero_mul], hlc, cs, t, fr, q3, by have := q5 rfl; omega⟩
theorem sl_nil {K : Kr} {w : World} {n : Nat} {v : Value} (h : VRel K w (.sl 0 n 1 0 0 false) v) : ∃ A cap, v = .slice A 0 cap := by
  cases h with
  | sl hlc hf hh => exact ⟨_, _, rfl⟩
theorem sort_spec0 (P : List B8) (hP : P.length ≤ 20000) (n : Nat) : HSpec Try.prog 41 [.sl 0 n 1 0 P.length false] [some ⟨n, 1, stR P⟩] (fun d H => d = .tup [] ∧ H = [some ⟨n, 1, stR (sortB P)⟩]) := by
  refine ⟨by kernel_rfl, fun K w vs g0 hI hlt hargs => ?_⟩
  obtain ⟨v, rfl, hv⟩ := args1 hargs
  have ht : VRel (K.cut w) w (.tup []) (.tuple #[]) := .tup rfl (fun i d c h => by simp at h)
  by_cases h0 : P = []
  · subst h0
    obtain ⟨A, cap, rfl⟩ := sl_nil hv
    refine (Try.slices_Sort_string_none A cap w).mono ?_
    rintro e w' ⟨rfl, rfl⟩
    have e : sortB [] = [] := List.length_eq_zero_iff.1 (sortB_len [])
    exact ⟨_, .tup [], [some ⟨n, 1, stR []⟩], rfl, ⟨rfl, by rw [e]⟩, hI, ht⟩
  · obtain ⟨hr, cs, t, fr, r1, r2, r3, r4⟩ := row_real hI h0
    obtain ⟨cap, rfl, hcap, -⟩ := sl_inv hv (List.length_pos_iff.2 h0)
    refine (Try.slices_Sort_string _ 0 cap P w (row_holds r1 r2 r3 r4) (hI.lt n hr) (by omega)).mono ?_
    rintro e w' ⟨rfl, q, os, rfl⟩
    exact ⟨_, .tup [], [some ⟨n, 1, stR (sortB P)⟩], rfl, ⟨rfl, rfl⟩, (inv_rows (sortB P) (sortB P) hI hr (sortB_len P) (Nat.le_refl _) (fun i b h => h) q os).1, .tup rfl (fun i d c h => by simp at h)⟩
theorem comp_spec0 (S : List B8) (hS : S.length ≤ 20000) (n : Nat) : HSpec Try.prog 42 [.sl 0 n 1 0 S.length false] [some ⟨n, 1, stR S⟩] (fun d H => d = .sl 0 n 1 0 (Lib.compact S).length false ∧ H = [some ⟨n, 1, stR (Lib.compact S)⟩]) := by
  refine ⟨by kernel_rfl, fun K w vs g0 hI hlt hargs => ?_⟩
  obtain ⟨v, rfl, hv⟩ := args1 hargs
  by_cases h0 : S = []
  · subst h0
    obtain ⟨A, cap, rfl⟩ := sl_nil hv
    refine (Try.slices_Compact_string_empty A cap w).mono ?_
    rintro e w' ⟨rfl, rfl⟩
    exact ⟨_, _, _, rfl, ⟨rfl, rfl⟩, hI, hv⟩
  · obtain ⟨hr, cs, t, fr, r1, r2, r3, r4⟩ := row_real hI h0
    obtain ⟨cap, rfl, hcap, cs', t', fr', q1, q2⟩ := sl_inv hv (List.length_pos_iff.2 h0)
    refine (Try.slices_Compact_string _ 0 cap S w (row_holds r1 r2 r3 r4) (by omega) hcap).mono ?_
    rintro e w' ⟨rfl, q, rfl⟩
    have hle := compact_le S
    obtain ⟨k1, k2⟩ := inv_rows (Lib.compact S) (Lib.compact S ++ List.replicate (S.length - (Lib.compact S).length) []) hI hr (by simp; omega) (by simp) (fun i b h => by rw [List.getElem?_append_left (List.getElem?_eq_some_iff.1 h).1]; exact h) q #[]
    rw [Sort.grow_empty] at k1 k2
    obtain ⟨cs2, fr2, z1, z2⟩ := k2.ext.shape _ _ _ _ q1
    refine ⟨_, .sl 0 n 1 0 (Lib.compact S).length false, [some ⟨n, 1, stR (Lib.compact S)⟩], rfl, ⟨rfl, rfl⟩, k1, .sl (by omega) (fun h => by cases h) (.inr ⟨hr, by rw [Nat.zero_mul], cs2, t', fr2, z1, by omega, fun _ => by omega⟩)⟩
theorem bless (x y : B8) : Op.bytesLess (mkS x).toList (mkS y).toList = decide (x < y) := by
  rw [ByteArray.toList_eq, ByteArray.toList_eq]
  show Op.bytesLess (mkS x).data.toList (mkS y).data.toList = _
  have e : ∀ l : B8, (mkS l).data.toList = l := fun l => by simp [mkS]
  rw [e, e]
  exact bytesLess_eq x y
theorem cnan_spec (x : B8) : Spec Try.prog 62 [.v (.string (mkS x))] (.v (.bool false)) := by
  have e : decide (mkS x = mkS x) = true := decide_eq_true rfl
  refine hspec_fn Try.func62 rfl ok_cmp_isNaN_string okr_cmp_isNaN_string rfl (by kernel_rfl) ?_
  intro Γ hW0 hN0 hL0
  have hW := hW0 rfl
  clear hW0 hN0 hL0
  unfold x_cmp_isNaN_string r_cmp_isNaN_string
  with_reducible refine auC ?_
  repeat' (first
    | (with_reducible refine auS ?_)
    | (simp only [e])
    | (with_reducible refine auD ?_)
    | ((with_reducible refine auB ?_ ?_); all_goals first | (intro h; first | exact auH | simp only [h, runR_t, runR_f] | skip) | skip)
    | fail)
  (all_goals first | exact auP | skip)
  all_goals with_reducible refine auF ?_
  all_goals (try first | with_reducible refine auR ?_ | exact auR0)
  all_goals (try simp only [hsM] at *)
  all_goals (refine dbool ?_; simp)
theorem snan_spec (x : B8) : Spec Try.prog 50 [.v (.string (mkS x))] (.v (.bool false)) := by
  have e : decide (mkS x = mkS x) = true := decide_eq_true rfl
  refine hspec_fn Try.func50 rfl ok_slices_isNaN_string okr_slices_isNaN_string rfl (by kernel_rfl) ?_
  intro Γ hW0 hN0 hL0
  have hW := hW0 rfl
  clear hW0 hN0 hL0
  unfold x_slices_isNaN_string r_slices_isNaN_string
  with_reducible refine auC ?_
  repeat' (first
    | (with_reducible refine auS ?_)
    | (simp only [e])
    | (with_reducible refine auD ?_)
    | ((with_reducible refine auB ?_ ?_); all_goals first | (intro h; first | exact auH | simp only [h, runR_t, runR_f] | skip) | skip)
    | fail)
  (all_goals first | exact auP | skip)
  all_goals with_reducible refine auF ?_
  all_goals (try first | with_reducible refine auR ?_ | exact auR0)
  all_goals (try simp only [hsM] at *)
  all_goals (refine dbool ?_; simp)
theorem less_spec (x y : B8) : Spec Try.prog 49 [.v (.string (mkS x)), .v (.string (mkS y))] (.v (.bool (decide (x < y)))) := by
  have e := bless x y
  refine hspec_fn Try.func49 rfl ok_cmp_Less_string okr_cmp_Less_string rfl (by kernel_rfl) ?_
  intro Γ hW0 hN0 hL0
  have hW := hW0 rfl
  clear hW0 hN0 hL0
  unfold x_cmp_Less_string r_cmp_Less_string
  with_reducible refine auC ?_
  repeat' (first
    | (with_reducible refine auS ?_)
    | (first | (simp only [e]) | (with_reducible refine runR_call (cnan_spec _) ?_))
    | (with_reducible refine auD ?_)
    | ((with_reducible refine auB ?_ ?_); all_goals first | (intro h; first | exact auH | simp only [h, runR_t, runR_f] | skip) | skip)
    | fail)
  (all_goals first | exact auP | skip)
  all_goals with_reducible refine auF ?_
  all_goals (try first | with_reducible refine auR ?_ | exact auR0)
  all_goals (try simp only [hsM] at *)
set_option maxHeartbeats 2000000 in
theorem find_spec (A : List B8) (hA : A.Pairwise (· < ·)) (hl : A.length ≤ 20000) (p : B8) : ∃ k : Nat, Spec Try.prog 43 [.snap 1 (stR A) false, .v (.string (mkS p))] (.tup [.v (.int .i64 (k : Nat)), .v (.bool (decide (p ∈ A)))]) ∧ (p ∈ A → idxA A p = (k : Nat)) := by
  obtain ⟨k, k1, k2, k3, k4⟩ := split_at A hA p
  refine ⟨k, ?_, fun hm => idxA_at hA (k4.1 hm)⟩
  have hlA := stR_len A
  have hn := snan_spec p
  rw [decide_eq_decide.2 k4]
  generalize hB : decide (A[k]? = some p) = B
  refine hspec_fn Try.func43 rfl ok_slices_BinarySearch_string okr_slices_BinarySearch_string rfl (by kernel_rfl) ?_
  intro Γ hW0 hN0 hL0
  have hW := hW0 rfl
  clear hW0 hN0 hL0
  unfold x_slices_BinarySearch_string r_slices_BinarySearch_string
  with_reducible refine auC ?_
  repeat' (first
    | (with_reducible refine auS ?_)
    | (simp only [hlA])
    | (with_reducible refine auD ?_)
    | ((with_reducible refine auB ?_ ?_); all_goals first | (intro h; first | exact auH | simp only [h, runR_t, runR_f] | skip) | skip)
    | fail)
  refine go_loopH (α := Nat × Nat) (fun y => [(⟨.d0, .d0, .d7⟩, .v (.int .i64 (y.1 : Nat))), (⟨.d0, .d1, .d0⟩, .v (.int .i64 (y.2 : Nat)))]) (fun _ => []) (fun _ => Γ.g0) (fun y => y.2 - y.1) (fun y => y.1 ≤ k ∧ k ≤ y.2 ∧ y.2 ≤ A.length) (0, A.length) ⟨Nat.zero_le _, k1, Nat.le_refl _⟩ ?_ ?_
  · skip
    refine le_mk ?_ ?_ (Nat.le_refl _)
    all_goals first | with_reducible refine auE ?_ | exact auE0
    all_goals (repeat' (first | exact trivial | exact rfl | apply And.intro))
  rintro ⟨i, j⟩ ⟨hi, hj, hn'⟩
  dsimp only at hi hj hn' ⊢
  with_reducible refine auL ?_
  by_cases hij : i < j
  · have e1 : IntKind.i64.wrap ((i : Int) + (j : Int)) = ((i + j : Nat) : Int) := (IntWalk.i64_in _ (by omega)).trans (by omega)
    have e2 : IntKind.u64.wrap ((i + j : Nat) : Int) = ((i + j : Nat) : Int) := IntWalk.u64_in _ (by omega)
    have e3 : min 1 IntKind.u64.bits = 1 := rfl
    have e4 := shr_u32 (i + j) 1
    obtain ⟨m, hm⟩ : ∃ m, m = (i + j) / 2 ^ 1 := ⟨_, rfl⟩
    rw [← hm] at e4
    have e5 : IntKind.i64.wrap ((m : Nat) : Int) = ((m : Nat) : Int) := IntWalk.i64_in _ (by omega)
    have e6 : IntKind.i64.wrap (((m : Nat) : Int) + 1) = ((m + 1 : Nat) : Int) := (IntWalk.i64_in _ (by omega)).trans (by omega)
    obtain ⟨x, hx⟩ : ∃ x, A[m]? = some x := ⟨_, List.getElem?_eq_getElem (by omega)⟩
    have ex : xget (stR A) m = [.v (.string (mkS x))] := xget_map (fun b => [DV.v (.string (mkS b))]) A m x hx
    have hls := less_spec x p
    rcases Nat.lt_or_ge m k with hk | hk
    · rw [decide_eq_true (k2 m x hk hx)] at hls
      repeat' (first
        | (with_reducible refine auS ?_)
        | (first | (simp only [hlA, Int.toNat_natCast, e1, e2, e3, e4, e5, e6, ex]) | (with_reducible refine runR_call hls ?_))
        | (with_reducible refine auD ?_)
        | ((with_reducible refine auB ?_ ?_); all_goals first | (intro h; first | exact auH | simp only [h, runR_t, runR_f] | skip) | skip)
        | (first | ((with_reducible refine atN ?_); (refine runR_n ⟨by rw [hlA]; omega, by trivial⟩ ?_)) | fail))
      (all_goals first | exact auP | skip)
      refine nx_loop ⟨(m + 1, j), ⟨hk, hj, hn'⟩, (show j - (m + 1) < j - i by omega), ?_⟩
      refine le_mk ?_ ?_ (Nat.le_refl _)
      all_goals first | with_reducible refine auE ?_ | exact auE0
      all_goals (repeat' (first | exact trivial | exact rfl | apply And.intro))
    · rw [decide_eq_false (k3 m x hk hx)] at hls
      repeat' (first
        | (with_reducible refine auS ?_)
        | (first | (simp only [hlA, Int.toNat_natCast, e1, e2, e3, e4, e5, e6, ex]) | (with_reducible refine runR_call hls ?_))
        | (with_reducible refine auD ?_)
        | ((with_reducible refine auB ?_ ?_); all_goals first | (intro h; first | exact auH | simp only [h, runR_t, runR_f] | skip) | skip)
        | (first | ((with_reducible refine atN ?_); (refine runR_n ⟨by rw [hlA]; omega, by trivial⟩ ?_)) | fail))
      (all_goals first | exact auP | skip)
      refine nx_loop ⟨(i, m), ⟨hi, hk, (show m ≤ A.length by omega)⟩, (show m - i < j - i by omega), ?_⟩
      refine le_mk ?_ ?_ (Nat.le_refl _)
      all_goals first | with_reducible refine auE ?_ | exact auE0
      all_goals (repeat' (first | exact trivial | exact rfl | apply And.intro))
  · obtain rfl : i = k := by omega
    obtain rfl : j = i := by omega
    by_cases hlt : j < A.length
    · obtain ⟨x, hx⟩ : ∃ x, A[j]? = some x := ⟨_, List.getElem?_eq_getElem hlt⟩
      have ex : xget (stR A) j = [.v (.string (mkS x))] := xget_map (fun b => [DV.v (.string (mkS b))]) A j x hx
      have hnx := snan_spec x
      have e1 : decide (mkS x = mkS p) = B := by
        rw [← hB, hx]
        exact decide_eq_decide.2 ⟨fun q => by rw [mkS_inj.1 q], fun q => by rw [Option.some.inj q]⟩
      cases B
      all_goals
        repeat' (first
          | (with_reducible refine auS ?_)
          | (first | (simp only [hlA, Int.toNat_natCast, ex, e1]) | (with_reducible refine runR_call hn ?_) | (with_reducible refine runR_call hnx ?_))
          | (with_reducible refine auD ?_)
          | ((with_reducible refine auB ?_ ?_); all_goals first | (intro h; first | exact auH | simp only [h, runR_t, runR_f] | skip) | skip)
          | (first | ((with_reducible refine atN ?_); (refine runR_n ⟨by rw [hlA]; omega, by trivial⟩ ?_)) | fail))
        (all_goals first | exact auP | skip)
        all_goals with_reducible refine auF ?_
        all_goals (try first | with_reducible refine auR ?_ | exact auR0)
        all_goals (try simp only [hsM] at *)
    · have hx : A[j]? = none := List.getElem?_eq_none (by omega)
      obtain rfl : B = false := by rw [← hB, hx]; rfl
      repeat' (first
        | (with_reducible refine auS ?_)
        | (simp only [hlA])
        | (with_reducible refine auD ?_)
        | ((with_reducible refine auB ?_ ?_); all_goals first | (intro h; first | exact auH | simp only [h, runR_t, runR_f] | skip) | skip)
        | fail)
      (all_goals first | exact auP | skip)
      all_goals with_reducible refine auF ?_
      all_goals (try first | with_reducible refine auR ?_ | exact auR0)
      all_goals (try simp only [hsM] at *)
end Go.Proofs.Ytlfbjdafnappdaa
