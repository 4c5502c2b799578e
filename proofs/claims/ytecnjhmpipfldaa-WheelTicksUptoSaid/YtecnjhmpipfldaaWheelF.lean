/-
  The wheel of a time and of what is due: the reference's WheelOf.
-/
import Derived.Test.YtecnjhmpipfldaaWheelO
import Derived.Test.YtecnjhmpipfldaaWheelZ
namespace Go.Proofs.Ytecnjhmpipfldaa
set_option linter.unusedVariables false
set_option linter.unusedSimpArgs false
theorem mapV_app : ∀ a b : List Value, mapV (a ++ b) = mapV a ++ mapV b
  | [], b => rfl
  | x :: r, b => by
    show .v x :: mapV (r ++ b) = _
    rw [mapV_app r b]
    rfl
theorem mapV_rep (v : Value) : ∀ n, mapV (List.replicate n v) = List.replicate n (.v v)
  | 0 => rfl
  | n + 1 => by
    rw [List.replicate_succ, List.replicate_succ]
    show .v v :: mapV (List.replicate n v) = _
    rw [mapV_rep v n]
theorem zv_eq : mapV zv_api_Wheel = .v (.int .i64 0) :: List.replicate 96 nilD := by
  unfold zv_api_Wheel
  rw [mapV_app, mapV_rep]
  rfl
theorem zv_len : zv_api_Wheel.length = 97 := rfl
theorem splice_nil (X : List DV) (i : Nat) : splice X i [] = X := by cases X <;> rfl
theorem splice_len : ∀ (X Y : List DV), X.length = Y.length → splice X 0 Y = Y
  | [], [], _ => rfl
  | [], _ :: _, h => by simp at h
  | _ :: _, [], h => by simp at h
  | x :: r, y :: s, h => by
    show y :: splice r 0 s = _
    rw [splice_len r s (by simpa using h)]
theorem splice_one (z : DV) (X c : List DV) (i : Nat) : splice (z :: X) (1 + i) c = z :: splice X i c := by
  rw [Nat.add_comm]
  cases c with
  | nil => rw [splice_nil, splice_nil]
  | cons d r => rfl
theorem ddrop_one (z : DV) (X : List DV) (i : Nat) : ddrop (z :: X) (1 + i) = ddrop X i := by
  rw [Nat.add_comm]
  rfl
theorem rep_ones : ∀ n, allOne (List.replicate n nilD) = true
  | 0 => rfl
  | n + 1 => by rw [List.replicate_succ]; exact rep_ones n
theorem lenB_of {X : List DV} {n : Nat} (h : X.length = n) : lenB X n = true := h ▸ lenB_len X
theorem dtake_of {X : List DV} {n : Nat} (h : X.length = n) : dtake X n = X := h ▸ dtake_all X
theorem fil_snoc (now i : Int) (P : List Du) (d : Du) : fil now i (P ++ [d]) = fil now i P ++ fil now i [d] := by simp [fil]
theorem wof_more {now : Int} (P : List Du) (d : Du) {i : Nat} (hi : i < 96) (hd : listOf now d.t = (i : Nat)) : wof now (P ++ [d]) = (wof now P).set i (fil now i P ++ [d]) := by
  apply List.ext_getElem?
  intro j
  by_cases hlt : j < 96
  · rw [wof_get now _ hlt, List.getElem?_set, fil_snoc]
    by_cases hij : i = j
    · subst hij
      rw [if_pos rfl, if_pos (by rw [wof_len]; exact hlt)]
      simp [fil, hd]
    · rw [if_neg hij, wof_get now _ hlt]
      have : ¬ ((i : Int) = (j : Int)) := by omega
      simp [fil, hd, this]
  · rw [List.getElem?_eq_none (by rw [wof_len]; omega), List.getElem?_eq_none (by rw [List.length_set, wof_len]; omega)]
theorem fil_le (now i : Int) (l : List Du) : (fil now i l).length ≤ l.length := List.length_filter_le _ _
theorem wof_nil (now : Int) : wof now [] = List.replicate 96 [] := by
  apply List.ext_getElem?
  intro j
  by_cases hlt : j < 96
  · rw [wof_get now _ hlt, List.getElem?_replicate, if_pos hlt]
    rfl
  · rw [List.getElem?_eq_none (by rw [wof_len]; omega), List.getElem?_eq_none (by simp; omega)]
theorem snaps_nf (L : WL) (g : Nat) : nfL g (L.map snapD) := nfL_iff.2 fun d hd => by
  obtain ⟨l, -, rfl⟩ := List.mem_map.1 hd
  exact (nfLL_map (fun x => by simp [nfL, nfD]) : nfLL g (l.map Du.enc))
/-- All labels the same, at whatever place the cells lie. -/
theorem le_same0 {st : St} (j : Nat) {n : Nat} {c : DV} {lb nm : Nat → Nat} {L : WL} (lb' : Nat → Nat) (h : lget st.H j = some ⟨n, 97, [c :: rowc lb nm 0 L]⟩) : Le st ⟨st.tm, lset st.H j (some ⟨n, 97, [c :: rowc lb' nm 0 L]⟩), st.gen⟩ :=
  le_lab j h (by simp [rowc_len]) (fun i d e hd he => by
    match i, hd, he with
    | 0, hd, he =>
      simp at hd he
      exact .inl (he.symm.trans hd)
    | i + 1, hd, he =>
      have hi : i < L.length := by
        have := (List.getElem?_eq_some_iff.1 hd).1
        simpa [rowc_len] using this
      obtain ⟨l, hl⟩ : ∃ l, L[i]? = some l := ⟨_, List.getElem?_eq_getElem hi⟩
      have h1 := rowc_get (lb := lb) (nm := nm) L 0 i l hl
      have h2 := rowc_get (lb := lb') (nm := nm) L 0 i l hl
      simp at hd he
      rw [hd] at h1
      rw [he] at h2
      exact .inr ⟨_, _, _, _, _, _, _, Option.some.inj h1, Option.some.inj h2⟩)
set_option maxHeartbeats 4000000 in
theorem wheelOf_spec (n : Nat) (hn : n < 16777216) (l : List Du) (hl : l.length ≤ 135107904) (hr : ∀ d ∈ l, (n : Int) < d.t ∧ d.t ≤ 16777215) : Spec Try.prog 23 [.v (.int .i64 (n : Nat)), snapD l] (.agg (wcs n (wof n l))) := by
  have hdl : (l.map Du.enc).length = l.length := List.length_map _
  have hrep : (List.replicate 96 nilD).length = 96 := by simp
  have hra := rep_ones 96
  have hrb := lenB_of hrep
  have hzz := splice_len _ _ (Eq.refl (List.replicate 96 nilD).length)
  refine hspec_fn Try.func23 rfl ok_custref_WheelOf okr_custref_WheelOf rfl (by kernel_rfl) ?_
  intro Γ hW0 hN0 hL0
  have hW := hW0 rfl
  clear hW0 hN0 hL0
  unfold x_custref_WheelOf r_custref_WheelOf
  refine auC ?_
  have hfr : ∀ (st : St) (k : Nat) (o : AObj), lget st.H 0 = none → 1 ≤ k → lget st.H k = some o → ∀ N K a w, Rel Γ N st K a w → K.real o.n → ¬ Γ.W0 (K.μ o.n) := fun _ _ _ _ _ _ _ _ _ _ _ _ => hW _
  repeat' (first
    | (refine auS ?_)
    | (first | (simp only [zv_eq, zv_len, splice_nil, hzz, hdl]))
    | (refine auD ?_)
    | (with_reducible refine runR_b (fun h => ?_) (fun h => ?_) <;> first | exact auH | simp only [h, runR_t, runR_f])
    | (with_reducible refine condK_bl ?_ ?_)
    | (with_reducible refine condK_b (fun h => ?_) (fun h => ?_) <;> first | exact auH | skip)
    | (first | (refine runR_n ⟨rfl, by decide⟩ ?_) | (refine runR_n ⟨by decide, by decide, by simp only [hra, hrb, allOne, lenB, oneD, oneV, andB]⟩ ?_) | fail))
  (all_goals first | exact auP | skip)
  refine go_loopT (α := Nat × (Nat → Nat) × Nat) (fun x => [(⟨.d0, .d1, .d5⟩, .v (.int .i64 (x.1 : Nat)))]) (fun x => none :: some ⟨Γ.g0, 97, [.v (.int .i64 0) :: List.replicate 96 nilD]⟩ :: some ⟨Γ.g0 + 1, 97, [.v (.int .i64 n) :: rowc (fun _ => 5) x.2.1 0 (wof n (l.take x.1))]⟩ :: none :: none :: none :: rowh x.2.1 0 (wof n (l.take x.1))) (fun x => x.2.2) (fun x => l.length - x.1) (fun x => x.1 ≤ l.length) (0, (fun j => Γ.g0 + 2 + j), Γ.g0 + 2 + 96) (Nat.zero_le _) ?_ ?_
  · refine (le_rows6 _ _ _ _ _ _ 96 (Nat.le_refl _)).trans ?_
    simp only [Nat.sub_self, List.replicate_zero, List.append_nil]
    refine (le_same0 2 (fun _ => 5) rfl).trans ?_
    refine le_mk2 ?_ ?_ (Nat.le_refl _)
    · first | refine auE ?_ | exact auE0
      all_goals (repeat' (first | exact trivial | exact rfl | apply And.intro))
    · dsimp only
      rw [List.take_zero, wof_nil]
      exact hs_refl _
  rintro ⟨k, nm, gn⟩ hk
  dsimp only at hk ⊢
  refine auL ?_
  by_cases hlt : k < l.length
  · obtain ⟨d, hd⟩ : ∃ d, l[k]? = some d := ⟨_, List.getElem?_eq_getElem hlt⟩
    have hdr := hr d (List.mem_of_getElem? hd)
    have hcast : ((d.t.toNat : Nat) : Int) = d.t := by omega
    have hrng := lis_rng (n := n) (m := d.t.toNat) (by omega) (by omega)
    have hlst := listOf_spec n d.t.toNat hn (by omega)
    obtain ⟨i, hi⟩ : ∃ i : Nat, lisR n d.t.toNat 6 = i := ⟨(lisR n d.t.toNat 6).toNat, by omega⟩
    have hi96 : i < 96 := by omega
    rw [hi, hcast] at hlst
    have hlo : listOf (n : Int) d.t = (i : Nat) := hi
    have hLi := wof_get n (l.take k) hi96
    have hlen := wof_len n (l.take k)
    have hmore := wof_more (l.take k) d hi96 hlo
    rw [← take_snoc hd] at hmore
    have hfl := fil_le n i (l.take k)
    have hk2 : (l.take k).length = k := by simp; omega
    generalize wof n (l.take k) = L at *
    generalize fil n i (l.take k) = li at *
    have hX := dget_ddrop _ _ _ (rowc_get (lb := fun _ => 5) (nm := nm) L 0 i li hLi)
    have hXl := rowc_len (lb := fun _ => 5) (nm := nm) L 0
    have hset := rowc_set (lb := fun _ => 5) (nm := nm) (gn + 2) (li ++ [d]) L 0 i (by omega)
    have hrs := rowh_set (nm := nm) (gn + 2) (li ++ [d]) L 0 i (by omega)
    have hget := rowh_get (nm := nm) L 0 i li hLi
    rw [Nat.zero_add] at hX hset hrs hget
    apply go_le
    · exact le_focus6 i hget
    have hT : lget (lset (rowh nm 0 L) i none) i = none := by rw [lget_lset, if_pos rfl]
    generalize lset (rowh nm 0 L) i none = T at *
    generalize rowc (fun _ => 5) nm 0 L = X at *
    have w1 : IntKind.i64.wrap ((k : Int) + 1) = ((k + 1 : Nat) : Int) := by rw [IntWalk.i64_in _ (by omega)]; omega
    have hml : (li.map Du.enc).length = li.length := List.length_map _
    have hrm : room (li.length + 1) 16 := room_due (by omega)
    repeat' (first
      | (refine auS ?_)
      | (first | (simp only [hdl, Int.toNat_natCast, Nat.zero_add, xget_du hd, splice_one, ddrop_one, Nat.mul_one, hX, w1, hml]) | (with_reducible refine runR_call hlst ?_))
      | (refine auD ?_)
      | (with_reducible refine runR_b (fun h => ?_) (fun h => ?_) <;> first | exact auH | simp only [h, runR_t, runR_f])
      | (with_reducible refine condK_bl ?_ ?_)
      | (with_reducible refine condK_b (fun h => ?_) (fun h => ?_) <;> first | exact auH | skip)
      | (first | (refine runR_n ⟨rfl, rfl, rfl, rfl, hml.symm⟩ ?_) | (refine runR_n ⟨rfl, hrm⟩ ?_) | (refine runR_n ⟨by omega, by omega⟩ ?_) | (refine runR_n ⟨by omega, by omega, rfl⟩ ?_) | fail))
    (all_goals first | exact auP | skip)
    refine nx_loop ⟨(k + 1, upd nm i (gn + 2), gn + 3), hlt, Nat.sub_lt_sub_left hlt (Nat.lt_succ_self k), ?_⟩
    refine (le_unfocus6 i hT).trans ?_
    refine le_mk2 ?_ ?_ (Nat.le_refl _)
    · first | refine auE ?_ | exact auE0
      all_goals (repeat' (first | exact trivial | exact rfl | apply And.intro))
    · dsimp only
      rw [hmore, ← hset, ← hrs, show (li ++ [d]).length = li.length + 1 by simp, show (li ++ [d]).map Du.enc = li.map Du.enc ++ [[.v (.int .i64 d.id), .v (.int .i64 d.t)]] by simp]
      exact hs_refl _
  · obtain rfl : k = l.length := by omega
    rw [List.take_length]
    have hlen := wof_len n l
    generalize wof n l = L at *
    have hXl : (L.map snapD).length = 96 := by simpa using hlen
    have hsp := splice_len (List.replicate 96 nilD) (L.map snapD) (by rw [hXl, hrep])
    have hdt := dtake_of hXl
    obtain ⟨hA, hB, -, -, -⟩ := snaps hlen
    refine go_leG (leG_all6 hfr _ _ _ _ _ _ _ _) ?_
    unfold wcs
    have hnf := snaps_nf L Γ.g0
    generalize L.map snapD = X at *
    repeat' (first
      | (refine auS ?_)
      | (simp only [hdt, hsp])
      | (refine auD ?_)
      | (with_reducible refine runR_b (fun h => ?_) (fun h => ?_) <;> first | exact auH | simp only [h, runR_t, runR_f])
      | (with_reducible refine condK_bl ?_ ?_)
      | (with_reducible refine condK_b (fun h => ?_) (fun h => ?_) <;> first | exact auH | skip)
      | (first | (refine runR_n ⟨by decide, by decide, by simp only [hA, hB, allOne, lenB, oneD, oneV, andB]⟩ ?_) | fail))
    (all_goals first | exact auP | skip)
    have hnf2 : nfL Γ.g0 (dtake X 96) := by rw [hdt]; exact hnf
    all_goals with_reducible refine ret_spec2 (by (try first | refine auR ?_ | exact auR0); (repeat' (first | exact trivial | exact rfl | exact hnf2 | decide | apply And.intro))) ?_
    all_goals (try first | refine auR ?_ | exact auR0)
    rw [hdt]
set_option maxHeartbeats 4000000 in
theorem wheelOf_lent (k0 : Nat) (n : Nat) (hn : n < 16777216) (l : List Du) (hl : l.length ≤ 135107904) (hr : ∀ d ∈ l, (n : Int) < d.t ∧ d.t ≤ 16777215) (nl : Nat) : HSpec Try.prog 23 [.v (.int .i64 (n : Nat)), .sl k0 nl 2 0 l.length false] [some ⟨nl, 2, l.map Du.enc⟩] (fun d H => d = .agg (wcs n (wof n l)) ∧ H = [some ⟨nl, 2, l.map Du.enc⟩]) := by
  refine hspec_args (ds' := [.v (.int .i64 (n : Nat)), .sl 0 nl 2 0 l.length false]) ?_ (fun K w vs h => argsRel_mem h rfl (fun i d e hd he v hv => by
    match i, hd, he with
    | 0, hd, he =>
      obtain rfl := Option.some.inj hd
      obtain rfl := Option.some.inj he
      exact hv
    | 1, hd, he =>
      obtain rfl := Option.some.inj hd
      obtain rfl := Option.some.inj he
      exact sl_label hv
    | i + 2, hd, he => simp at hd))
  have hdl : (l.map Du.enc).length = l.length := List.length_map _
  have hrep : (List.replicate 96 nilD).length = 96 := by simp
  have hra := rep_ones 96
  have hrb := lenB_of hrep
  have hzz := splice_len _ _ (Eq.refl (List.replicate 96 nilD).length)
  refine hspec_fn Try.func23 rfl ok_custref_WheelOf okr_custref_WheelOf rfl (by kernel_rfl) ?_
  intro Γ hW0 hN0 hL0
  clear hW0
  unfold x_custref_WheelOf r_custref_WheelOf
  refine auC ?_
  have hnl : nl < Γ.g0 := hN0 0 _ rfl
  have hfr : ∀ (st : St) (k : Nat) (o : AObj), lget st.H 0 = some ⟨nl, 2, l.map Du.enc⟩ → 1 ≤ k → lget st.H k = some o → ∀ N K a w, Rel Γ N st K a w → K.real o.n → ¬ Γ.W0 (K.μ o.n) := fun st k o h0 hk ho => not_lent hL0 ho (fun q p hq => by
    match q, hq with
    | 0, hq =>
      obtain rfl := Option.some.inj hq
      exact ⟨0, _, by omega, h0, rfl⟩
    | q + 1, hq => simp [lget] at hq)
  repeat' (first
    | (refine auS ?_)
    | (first | (simp only [zv_eq, zv_len, splice_nil, hzz, hdl]))
    | (refine auD ?_)
    | (with_reducible refine runR_b (fun h => ?_) (fun h => ?_) <;> first | exact auH | simp only [h, runR_t, runR_f])
    | (with_reducible refine condK_bl ?_ ?_)
    | (with_reducible refine condK_b (fun h => ?_) (fun h => ?_) <;> first | exact auH | skip)
    | (first | (refine runR_n ⟨rfl, by decide⟩ ?_) | (refine runR_n ⟨by decide, by decide, by simp only [hra, hrb, allOne, lenB, oneD, oneV, andB]⟩ ?_) | fail))
  (all_goals first | exact auP | skip)
  refine go_loopT (α := Nat × (Nat → Nat) × Nat) (fun x => [(⟨.d0, .d1, .d5⟩, .v (.int .i64 (x.1 : Nat)))]) (fun x => (some ⟨nl, 2, l.map Du.enc⟩) :: some ⟨Γ.g0, 97, [.v (.int .i64 0) :: List.replicate 96 nilD]⟩ :: some ⟨Γ.g0 + 1, 97, [.v (.int .i64 n) :: rowc (fun _ => 5) x.2.1 0 (wof n (l.take x.1))]⟩ :: none :: none :: none :: rowh x.2.1 0 (wof n (l.take x.1))) (fun x => x.2.2) (fun x => l.length - x.1) (fun x => x.1 ≤ l.length) (0, (fun j => Γ.g0 + 2 + j), Γ.g0 + 2 + 96) (Nat.zero_le _) ?_ ?_
  · refine (le_rows6 _ _ _ _ _ _ 96 (Nat.le_refl _)).trans ?_
    simp only [Nat.sub_self, List.replicate_zero, List.append_nil]
    refine (le_same0 2 (fun _ => 5) rfl).trans ?_
    refine le_mk2 ?_ ?_ (Nat.le_refl _)
    · first | refine auE ?_ | exact auE0
      all_goals (repeat' (first | exact trivial | exact rfl | apply And.intro))
    · dsimp only
      rw [List.take_zero, wof_nil]
      exact hs_refl _
  rintro ⟨k, nm, gn⟩ hk
  dsimp only at hk ⊢
  refine auL ?_
  by_cases hlt : k < l.length
  · obtain ⟨d, hd⟩ : ∃ d, l[k]? = some d := ⟨_, List.getElem?_eq_getElem hlt⟩
    have hdr := hr d (List.mem_of_getElem? hd)
    have hcast : ((d.t.toNat : Nat) : Int) = d.t := by omega
    have hrng := lis_rng (n := n) (m := d.t.toNat) (by omega) (by omega)
    have hlst := listOf_spec n d.t.toNat hn (by omega)
    obtain ⟨i, hi⟩ : ∃ i : Nat, lisR n d.t.toNat 6 = i := ⟨(lisR n d.t.toNat 6).toNat, by omega⟩
    have hi96 : i < 96 := by omega
    rw [hi, hcast] at hlst
    have hlo : listOf (n : Int) d.t = (i : Nat) := hi
    have hLi := wof_get n (l.take k) hi96
    have hlen := wof_len n (l.take k)
    have hmore := wof_more (l.take k) d hi96 hlo
    rw [← take_snoc hd] at hmore
    have hfl := fil_le n i (l.take k)
    have hk2 : (l.take k).length = k := by simp; omega
    generalize wof n (l.take k) = L at *
    generalize fil n i (l.take k) = li at *
    have hX := dget_ddrop _ _ _ (rowc_get (lb := fun _ => 5) (nm := nm) L 0 i li hLi)
    have hXl := rowc_len (lb := fun _ => 5) (nm := nm) L 0
    have hset := rowc_set (lb := fun _ => 5) (nm := nm) (gn + 2) (li ++ [d]) L 0 i (by omega)
    have hrs := rowh_set (nm := nm) (gn + 2) (li ++ [d]) L 0 i (by omega)
    have hget := rowh_get (nm := nm) L 0 i li hLi
    rw [Nat.zero_add] at hX hset hrs hget
    apply go_le
    · exact le_focus6 i hget
    have hT : lget (lset (rowh nm 0 L) i none) i = none := by rw [lget_lset, if_pos rfl]
    generalize lset (rowh nm 0 L) i none = T at *
    generalize rowc (fun _ => 5) nm 0 L = X at *
    have w1 : IntKind.i64.wrap ((k : Int) + 1) = ((k + 1 : Nat) : Int) := by rw [IntWalk.i64_in _ (by omega)]; omega
    have hml : (li.map Du.enc).length = li.length := List.length_map _
    have hrm : room (li.length + 1) 16 := room_due (by omega)
    repeat' (first
      | (refine auS ?_)
      | (first | (simp only [hdl, Int.toNat_natCast, Nat.zero_add, xget_du hd, splice_one, ddrop_one, Nat.mul_one, hX, w1, hml]) | (with_reducible refine runR_call hlst ?_))
      | (refine auD ?_)
      | (with_reducible refine runR_b (fun h => ?_) (fun h => ?_) <;> first | exact auH | simp only [h, runR_t, runR_f])
      | (with_reducible refine condK_bl ?_ ?_)
      | (with_reducible refine condK_b (fun h => ?_) (fun h => ?_) <;> first | exact auH | skip)
      | (first | (refine runR_n ⟨rfl, rfl, rfl, rfl, hml.symm⟩ ?_) | (refine runR_n ⟨rfl, hrm⟩ ?_) | (refine runR_n ⟨by omega, by omega⟩ ?_) | (refine runR_n ⟨by omega, by omega, rfl⟩ ?_) | fail))
    (all_goals first | exact auP | skip)
    refine nx_loop ⟨(k + 1, upd nm i (gn + 2), gn + 3), hlt, Nat.sub_lt_sub_left hlt (Nat.lt_succ_self k), ?_⟩
    refine (le_unfocus6 i hT).trans ?_
    refine le_mk2 ?_ ?_ (Nat.le_refl _)
    · first | refine auE ?_ | exact auE0
      all_goals (repeat' (first | exact trivial | exact rfl | apply And.intro))
    · dsimp only
      rw [hmore, ← hset, ← hrs, show (li ++ [d]).length = li.length + 1 by simp, show (li ++ [d]).map Du.enc = li.map Du.enc ++ [[.v (.int .i64 d.id), .v (.int .i64 d.t)]] by simp]
      exact hs_refl _
  · obtain rfl : k = l.length := by omega
    rw [List.take_length]
    have hlen := wof_len n l
    generalize wof n l = L at *
    have hXl : (L.map snapD).length = 96 := by simpa using hlen
    have hsp := splice_len (List.replicate 96 nilD) (L.map snapD) (by rw [hXl, hrep])
    have hdt := dtake_of hXl
    obtain ⟨hA, hB, -, -, -⟩ := snaps hlen
    refine go_leG (leG_all6 hfr _ _ _ _ _ _ _ _) ?_
    unfold wcs
    have hnf := snaps_nf L Γ.g0
    generalize L.map snapD = X at *
    repeat' (first
      | (refine auS ?_)
      | (simp only [hdt, hsp])
      | (refine auD ?_)
      | (with_reducible refine runR_b (fun h => ?_) (fun h => ?_) <;> first | exact auH | simp only [h, runR_t, runR_f])
      | (with_reducible refine condK_bl ?_ ?_)
      | (with_reducible refine condK_b (fun h => ?_) (fun h => ?_) <;> first | exact auH | skip)
      | (first | (refine runR_n ⟨by decide, by decide, by simp only [hA, hB, allOne, lenB, oneD, oneV, andB]⟩ ?_) | fail))
    (all_goals first | exact auP | skip)
    have hnf2 : nfL Γ.g0 (dtake X 96) := by rw [hdt]; exact hnf
    refine ret_h1 ?_ ?_ ?_ rfl hnl (nfLL_map (fun x => by simp [nfL, nfD])) rfl
    · first | refine auR ?_ | exact auR0
      exact ⟨⟨rfl, rfl, by omega, by omega⟩, trivial⟩
    · first | refine auR ?_ | exact auR0
      exact ⟨trivial, hnf2⟩
    · first | refine auR ?_ | exact auR0
      rw [hdt]
end Go.Proofs.Ytecnjhmpipfldaa
