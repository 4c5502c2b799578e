/-
  What reads a pool that nobody writes reads one of the caller's own, too; a nil cell of one element as a row of the call's own.
-/
import Derived.Test.YtidogmmfakcfgaaFeedL
import Derived.Test.YtidogmmfakcfgaaFeedB
namespace Go.Proofs.Ytidogmmfakcfgaa
set_option linter.unusedVariables false
set_option linter.unusedSimpArgs false
def offH (K : Kr) (H0 : HL) : Kr := ⟨K.dom, K.real, K.μ, fun g => K.M g ∧ ¬ ∃ k o, lget H0 k = some o ∧ K.real o.n ∧ K.μ o.n = g⟩
theorem mono_offH (K : Kr) (H0 : HL) (w : World) : Mono K w (offH K H0) w := ⟨Ext.refl _ _, fun n h => ⟨h, rfl⟩, fun g _ h => h.1⟩
theorem give_row {Γ : Gm} {K : Kr} {w : World} {H0 : HL} (hI : Inv Γ K (lget H0) w) {i0 k n sz len : Nat} {full : Bool} {xs ys : List (List DV)} (h0 : lget H0 i0 = some ⟨n, sz, xs⟩) (hsz : 0 < sz) (hlen : xs.length = len) (hl : ys.length = xs.length)
    (hxy : ∀ (i : Nat) (x y : List DV), xs[i]? = some x → ys[i]? = some y → y.length = sz ∧ ∀ (j : Nat) (e : DV), y[j]? = some e → ∃ d, x[j]? = some d ∧ ∀ v, VRel K w d v → VRel (offH K H0) w e v) {v : Value} (hv : VRel K w (.sl k n sz 0 len full) v) : VRel (offH K H0) w (.snap sz ys false) v := by
  have hys : ∀ y ∈ ys, y.length = sz := fun y hy => by
    obtain ⟨i, hi⟩ := List.mem_iff_getElem?.1 hy
    have hil := (List.getElem?_eq_some_iff.1 hi).1
    exact (hxy i _ y (List.getElem?_eq_getElem (by omega)) hi).1
  cases hv with
  | sl hlc hf hh =>
    rename_i A cap
    by_cases hz : len = 0
    · subst hz
      have e1 : ys = [] := List.length_eq_zero_iff.1 (by omega)
      subst e1
      exact .snap (fun _ _ => undef) rfl (Nat.zero_le _) (fun q => by cases q) hys (fun q => by omega) (fun ad i x j d _ hx _ => by simp at hx) (fun i x j d hx _ => by simp at hx)
    · rcases hh with hh | ⟨hr, rfl, cs', t', fr', q3, q4, q5⟩
      · omega
      · rcases (hI.obj i0 _ h0).two (fun hm => by have := hm.2.1; simp only at this; omega) with ⟨u1, -⟩ | ⟨-, cs, t, fr, u2, u3, u4, u5, u6⟩
        · exact absurd hr u1
        · have hget : ∀ (i : Nat) (y : List DV) (j : Nat) (e : DV), ys[i]? = some y → y[j]? = some e → ∃ c, cs[i * sz + j]? = some c ∧ VRel (offH K H0) w e c := fun i y j e hy he => by
            have hil := (List.getElem?_eq_some_iff.1 hy).1
            obtain ⟨x, hx⟩ : ∃ x, xs[i]? = some x := ⟨_, List.getElem?_eq_getElem (by omega)⟩
            obtain ⟨d, hd, hde⟩ := (hxy i x y hx hy).2 j e he
            obtain ⟨c, c1, c2⟩ := u6 i x j d hx hd
            exact ⟨c, c1, hde c c2⟩
          refine .snap (fun i j => (cs[i * sz + j]?).getD undef) (by omega) hlc (fun q => by cases q) hys (fun _ => ⟨_, rfl, rfl, hI.lt _ hr, fun q => q.2 ⟨i0, _, h0, hr, rfl⟩⟩) (fun ad i y j e hA hy he => ?_) (fun i y j e hy he => ?_)
          · obtain rfl := Option.some.inj hA
            obtain ⟨c, c1, -⟩ := hget i y j e hy he
            rw [addr_add, Nat.zero_mul, Nat.zero_add, c1]
            unfold World.cell?
            dsimp only at u3 ⊢
            rw [u3]
            simpa using c1
          · obtain ⟨c, c1, c2⟩ := hget i y j e hy he
            simp only [c1, Option.getD_some]
            exact c2
theorem hspec_give {P : Program} {f : FuncId} {ds ds' : List DV} {H0 : HL} {D : DV} (hD : plainB D = true) (harg : ∀ (Γ : Gm) (K : Kr) (w : World) (vs : Array Value), Inv Γ K (lget H0) w → ArgsRel K w ds' vs → ArgsRel (offH K H0) w ds vs) (h : Spec P f ds D) : HSpec P f ds' H0 (fun d H => d = D ∧ H = H0) := by
  refine ⟨h.1, fun K w vs g0 hI hlt hargs => ?_⟩
  have hargs1 := harg _ _ _ _ hI hargs
  have hI1 : Inv (lend (offH (K.cut w) H0) w g0 []) ((offH (K.cut w) H0).cut w) (lget []) w :=
    ⟨Ext.refl _ _, ⟨fun m hm => .inl hm, fun m hm _ => hm, fun m hm => ⟨hm, rfl⟩, fun g _ => Iff.rfl⟩, fun k o h => by simp [lget] at h, fun k k' o o' h => by simp [lget] at h, fun m hm => hI.dr m hm, fun m hm => hI.lt m hm, fun k o h => by simp [lget] at h, fun k o h => by simp [lget] at h, fun g cs hg => ⟨fun ⟨_, _, q, _⟩ => by simp [lget] at q, fun q => (hI.glob hg).1 ⟨q.1.1.1, q.2⟩, (hI.glob hg).2⟩⟩
  refine (h.2 (offH (K.cut w) H0) w vs g0 hI1 hlt (argsRel_cut hargs1)).mono ?_
  rintro e w' ⟨v, d, H1, rfl, ⟨rfl, rfl⟩, hI', hv⟩
  have hext : Ext (fun _ => False) w w' := hI'.ext.weaken (fun g _ ⟨k, o, hk, _⟩ => by simp [lget] at hk)
  exact ⟨v, _, H0, rfl, ⟨rfl, rfl⟩, inv_ext hI hext, vrel_plain hv hD⟩
theorem give_args {K : Kr} {w : World} {H0 : HL} {d e : DV} {ds : List DV} {vs : Array Value} (h : ArgsRel K w (d :: ds) vs) (hd : ∀ v, VRel K w d v → VRel (offH K H0) w e v) : ArgsRel (offH K H0) w (e :: ds) vs :=
  ⟨by simpa using h.1, fun i x v hx hv => by
    match i, hx with
    | 0, hx =>
      obtain rfl := Option.some.inj hx
      exact hd v (h.2 0 d v rfl hv)
    | i + 1, hx => exact (h.2 (i + 1) x v (by simpa using hx) hv).mono (mono_offH K H0 w)⟩
theorem giveB {P : Program} {f : FuncId} {l : List Hp} {ds : List DV} {D : DV} (hD : plainB D = true) (h : Spec P f (dPool l :: ds) D) (k n : Nat) : HSpec P f (.sl k n 8 0 l.length false :: ds) [some ⟨n, 8, l.map Hp.enc⟩] (fun d H => d = D ∧ H = [some ⟨n, 8, l.map Hp.enc⟩]) :=
  hspec_give hD (fun Γ K w vs hI ha => give_args ha fun v hv => give_row (i0 := 0) hI rfl (by decide) (by simp) rfl (fun i x y hx hy => by
    obtain rfl : x = y := Option.some.inj (hx.symm.trans hy)
    refine ⟨?_, fun j e he => ⟨e, he, fun v hv => hv.mono (mono_offH K _ w)⟩⟩
    obtain ⟨z, -, rfl⟩ := List.mem_map.1 (List.mem_of_getElem? hx)
    rfl) hv) h
theorem rowsO_at {l : List Hp} {i : Nat} {u : Hp} (hi : l[i]? = some u) (d : DV) : ∀ (j : Nat) (x y : List DV), (rowsO l i u d l.length)[j]? = some x → (l.map Hp.enc)[j]? = some y → (x = y ∧ y.length = 8) ∨ (x = u.cells d ∧ y = u.enc) := fun j x y hx hy => by
  have hil := (List.getElem?_eq_some_iff.1 hi).1
  unfold rowsO at hx
  rw [List.getElem?_map] at hy
  cases hj : l[j]? with
  | none => rw [hj] at hy; cases hy
  | some z =>
    rw [hj] at hy
    obtain rfl := Option.some.inj hy
    have hjl := (List.getElem?_eq_some_iff.1 hj).1
    have htl : ((l.take i).map Hp.enc).length = i := by rw [List.length_map, List.length_take]; omega
    by_cases h1 : j < i
    · rw [List.getElem?_append_left (by omega), List.getElem?_map, List.getElem?_take_of_lt h1, hj] at hx
      exact .inl ⟨(Option.some.inj hx).symm, rfl⟩
    · rw [List.getElem?_append_right (by omega), htl] at hx
      by_cases h2 : j = i
      · subst h2
        rw [Nat.sub_self] at hx
        obtain rfl : z = u := Option.some.inj (hj.symm.trans hi)
        exact .inr ⟨(Option.some.inj hx).symm, rfl⟩
      · rw [show j - i = (j - i - 1) + 1 by omega, List.getElem?_cons_succ, List.getElem?_map, List.getElem?_take_of_lt (by omega), List.getElem?_drop, show i + 1 + (j - i - 1) = j by omega, hj] at hx
        exact .inl ⟨(Option.some.inj hx).symm, rfl⟩
theorem giveA {P : Program} {f : FuncId} {l : List Hp} {i : Nat} {u : Hp} (hi : l[i]? = some u) {ds : List DV} {D : DV} (hD : plainB D = true) (h : Spec P f (dPool l :: ds) D) (k lb n m : Nat) : HSpec P f (.sl k n 8 0 l.length false :: ds) [some ⟨n, 8, rowsO l i u (slP lb m u.ps) l.length⟩, some ⟨m, 3, u.ps.map Pt.enc⟩] (fun d H => d = D ∧ H = [some ⟨n, 8, rowsO l i u (slP lb m u.ps) l.length⟩, some ⟨m, 3, u.ps.map Pt.enc⟩]) :=
  hspec_give hD (fun Γ K w vs hI ha => give_args ha fun v hv => by
    have hil := (List.getElem?_eq_some_iff.1 hi).1
    have hrl := rowsO_len l i u (slP lb m u.ps) l.length hil (Nat.le_refl _)
    refine give_row (i0 := 0) hI rfl (by decide) hrl (by rw [hrl, List.length_map]) (fun j x y hx hy => ?_) hv
    rcases rowsO_at hi _ j x y hx hy with ⟨rfl, h8⟩ | ⟨rfl, rfl⟩
    · exact ⟨h8, fun q e he => ⟨e, he, fun v hv => hv.mono (mono_offH K _ w)⟩⟩
    · refine ⟨rfl, fun q e he => ?_⟩
      match q, he with
      | 0, he | 1, he | 2, he | 3, he | 4, he | 5, he | 6, he => exact ⟨e, he, fun v hv => hv.mono (mono_offH K _ w)⟩
      | 7, he =>
        obtain rfl := Option.some.inj he
        refine ⟨_, rfl, fun v hv => give_row (i0 := 1) hI rfl (by decide) (by simp) rfl (fun i x y hx hy => ?_) hv⟩
        obtain rfl : x = y := Option.some.inj (hx.symm.trans hy)
        refine ⟨?_, fun j e he => ⟨e, he, fun v hv => hv.mono (mono_offH K _ w)⟩⟩
        obtain ⟨z, -, rfl⟩ := List.mem_map.1 (List.mem_of_getElem? hx)
        rfl
      | q + 8, he => simp at he) h
theorem le_rowX {st : St} (j k sz s i : Nat) (hjk : j ≠ k) {n : Nat} {xs : List (List DV)} {x y : List DV} (hp : lget st.H j = some ⟨n, s, xs⟩) (hi : xs[i]? = some x) (f1 : x.length = y.length) (f2 : ∀ (t : Nat) (d d' : DV), x[t]? = some d → y[t]? = some d' → d' = d ∨ (d = .v (.slice none 0 0) ∧ ∃ k', d' = .sl k' st.gen sz 0 0 false)) (hpz : 0 < s) : Le st ⟨st.tm, lset (lset st.H j (some ⟨n, s, xset xs i y⟩)) k (some ⟨st.gen, sz, []⟩), st.gen + 1⟩ := by
  intro Γ N K a w hR
  have hg : ¬ K.dom st.gen := fun h => absurd (hR.fresh _ h) (Nat.lt_irrefl _)
  have h1 := inv_addv (k := k) (sz := sz) hR.inv hg hR.g0
  have hm := mono_addv K w st.gen
  have hil := (List.getElem?_eq_some_iff.1 hi).1
  have hp1 : (fun q => if q = k then some (⟨st.gen, sz, []⟩ : AObj) else lget st.H q) j = some ⟨n, s, xs⟩ := by
    show (if j = k then _ else _) = _
    rw [if_neg hjk]
    exact hp
  have hor : ORel (K.addv st.gen) w ⟨n, s, xset xs i y⟩ := by
    rcases (h1.obj j _ hp1).two (fun hm => by have := hm.2.1; simp only at this; omega) with ⟨u1, u2⟩ | ⟨u1, cs, t, frz, nfz, u2, u3, u4, u5⟩
    · have u2 : xs = [] := u2
      rw [u2] at hil
      simp at hil
    · refine .inr (.inl ⟨u1, cs, t, frz, nfz, u2, by rw [xset_length]; exact u3, fun q hq => ?_, fun i' q jj d hq hd => ?_⟩)
      · obtain ⟨i', hi'⟩ := List.mem_iff_getElem?.1 hq
        rw [xset_get] at hi'
        split at hi'
        · obtain rfl := Option.some.inj hi'
          rw [← f1]
          exact u4 x (List.mem_of_getElem? hi)
        · exact u4 q (List.mem_of_getElem? hi')
      · dsimp only at hq
        rw [xset_get] at hq
        split at hq
        · rename_i hie
          subst hie
          obtain rfl := Option.some.inj hq
          have hj' : jj < x.length := by rw [f1]; exact (List.getElem?_eq_some_iff.1 hd).1
          obtain ⟨c, c1, c2⟩ := u5 i' x jj _ hi (List.getElem?_eq_getElem hj')
          refine ⟨c, c1, ?_⟩
          rcases f2 jj _ d (List.getElem?_eq_getElem hj') hd with e | ⟨e1, T, e2⟩
          · rw [e]; exact c2
          · rw [e1] at c2
            rw [e2, vrel_v c2]
            exact .sl (Nat.le_refl _) (fun h => by cases h) (.inl rfl)
        · exact u5 i' q jj d hq hd
  have h2 := inv_obj h1 hp1 hor
  refine ⟨K.addv st.gen, ?_, fun m h => ?_, Nat.le_succ_of_le hR.g0, hR.size, hR.defers, fun q => (hR.tm q).mono hm⟩
  · have e : lget (lset (lset st.H j (some ⟨n, s, xset xs i y⟩)) k (some ⟨st.gen, sz, []⟩)) = fun q => if q = j then some (⟨n, s, xset xs i y⟩ : AObj) else (fun q => if q = k then some (⟨st.gen, sz, []⟩ : AObj) else lget st.H q) q := by
      funext q
      rw [lget_lset, lget_lset]
      by_cases e1 : q = k
      · rw [if_pos e1, if_neg (fun e2 => hjk (e2.symm.trans e1))]
        exact (if_pos e1).symm
      · rw [if_neg e1]
        by_cases e2 : q = j
        · rw [if_pos e2, if_pos e2]
        · rw [if_neg e2, if_neg e2]
          exact (if_neg e1).symm
    show Inv Γ _ (lget (lset (lset st.H j _) k _)) w
    rw [e]
    exact h2
  · rcases h with h | h
    · have := hR.fresh m h
      show m < st.gen + 1
      omega
    · show m < st.gen + 1
      omega
def refE (p : Pk) : Int := if 65515 < 8 * p.start + (p.data.length : Nat) then 2 else if p.data = [] ∨ (p.mo = true ∧ p.data.length % 8 ≠ 0) then 4 else 0
theorem frefused_spec (p : Pk) (he : pErr p = 0) : Spec Try.prog 11 [dP p] (.v (.int .i64 (refE p))) := by
  obtain ⟨⟨-, -, -, -, hst, ho40, ho4⟩, hform, hdl⟩ := pErr_ok he
  have w1 : IntKind.i64.wrap (8 * p.start) = 8 * p.start := IntWalk.i64_in _ (by omega)
  have w2 : IntKind.i64.wrap (8 * p.start + (p.data.length : Nat)) = 8 * p.start + (p.data.length : Nat) := IntWalk.i64_in _ (by omega)
  have hm2 := len_mod8 p.data.length
  refine hspec_fn Try.func11 rfl ok_frag_refused okr_frag_refused rfl (by kernel_rfl) ?_
  intro Γ hW0 hN0 hL0
  have hW := hW0 rfl
  clear hW0 hN0 hL0
  unfold x_frag_refused r_frag_refused
  with_reducible refine auC ?_
  repeat' (first
    | (with_reducible refine auS ?_)
    | (first | simp only [mkS_size] | simp only [w1] | simp only [w2] | simp only [hm2])
    | (with_reducible refine auD ?_)
    | ((with_reducible refine auB ?_ ?_); all_goals first | ((with_reducible intro h); first | exact auH | simp only [h, runR_t, runR_f] | skip) | skip)
    | fail)
  (all_goals first | exact auP | skip)
  all_goals with_reducible refine auF ?_
  all_goals (try first | with_reducible refine auR ?_ | exact auR0)
  all_goals (try simp only [hsM] at *)
  all_goals
    try simp only [mkS_nil] at *
    refine congrArg (fun q => DV.v (.int .i64 q)) ?_
    unfold refE
    first
      | (rw [if_pos (by omega)])
      | (rw [if_neg (by omega)]; simp [*]; done)
      | (rw [if_neg (by omega)]; simp [*]; omega)
end Go.Proofs.Ytidogmmfakcfgaa
