/-
  strings.Builder: bytes written.
-/
import Derived.Test.YtidogmmfakcfgaaBld
import Derived.Test.YtidogmmfakcfgaaCodeQ
namespace Go.Proofs.Ytidogmmfakcfgaa
set_option linter.unusedVariables false
set_option linter.unusedSimpArgs false
abbrev bR (l : List UInt8) : List (List DV) := l.map fun b => [.v (.int .u8 (b.toNat : Int))]
abbrev oB (nb : Nat) (a : DV) (k bn : Nat) (l : List UInt8) : AObj := ⟨nb, 2, [[a, .tsl k bn l.length 5]]⟩
abbrev oR (bn : Nat) (l : List UInt8) : AObj := ⟨bn, 1, bR l⟩
theorem strRows_mkS (l : List UInt8) : strRows (mkS l) = bR l := by simp [strRows, mkS, bR]
theorem bR_one : ∀ l : List UInt8, allOnes (bR l) = true
  | [] => rfl
  | b :: l => bR_one l
theorem bR_nf (g : Nat) (l : List UInt8) : nfLL g (bR l) := nfLL_map (fun x => by simp [nfL, nfD])
theorem bR_app (l t : List UInt8) : bR l ++ bR t = bR (l ++ t) := by simp [bR]
theorem bR_len (l : List UInt8) : (bR l).length = l.length := by simp [bR]
theorem le_tptrC {st : St} (s s' : Sl) (k : Nat) {n sz : Nat} {T : TypeId} (hs : st.tm.get s = .tptr n sz T) (h' : st.tm.get s' = .tup []) : Le st ⟨st.tm.set s (.ptr k n sz 0 0), st.H, st.gen⟩ := le_tptr s k hs
set_option maxHeartbeats 2000000 in
theorem writeG (nb bn : Nat) (a : DV) (l t : List UInt8) (hlen : l.length + t.length ≤ 1048576) (hcopy : HSpec Try.prog 55 [.tptr nb 2 tBld] [some (oB nb a 1 bn l)] (fun r H => r = .tup [] ∧ H = [some (oB nb (.tptr nb 2 tBld) 1 bn l)])) :
    MSpec Try.prog 40 [.tptr nb 2 tBld, .v (.string (mkS t))] [some (oB nb a 1 bn l), some (oR bn l)] 1 (fun m d H => d = .tup [.v (.int .i64 (t.length : Nat)), .v .nilIface] ∧ H = [some (oB nb (.tptr nb 2 tBld) 1 m (l ++ t)), none, some (oR m (l ++ t))]) := by
  refine mspec_fn Try.func40 rfl ok_strings_Builder_WriteString okr_strings_Builder_WriteString rfl (by kernel_rfl) ?_
  intro Γ hW0 hN0 hL0
  clear hW0
  unfold x_strings_Builder_WriteString r_strings_Builder_WriteString
  with_reducible refine auC ?_
  have hnb : nb < Γ.g0 := hN0 0 _ rfl
  have h1 := bR_one t
  have h2 := bR_app l t
  have h3 := bR_len l
  have h4 := bR_len t
  have h5 := bR_nf Γ.g0 (l ++ t)
  have h6 : l.length + t.length = (l ++ t).length := by simp
  unfold oB oR at *
  repeat' (first
    | (refine go_le (le_tptrC ⟨.d0, .d0, .d0⟩ ⟨.d0, .d0, .d7⟩ 0 rfl rfl) ?_)
    | (with_reducible refine auS ?_)
    | ((with_reducible refine runR_callH 0 ?_ hcopy (fun _ _ _ h => h) ?_); (exact rfl))
    | (with_reducible refine auD ?_)
    | ((with_reducible refine auB ?_ ?_); all_goals first | ((with_reducible intro h); first | exact auH | simp only [h, runR_t, runR_f] | skip) | skip)
    | (first | (simp only [mkS_size, strRows_mkS, h2, h3, h4, h6]) | (refine runR_n ⟨h1, by unfold room maxLen; omega⟩ ?_) | fail))
  (all_goals first | exact auP | skip)
  generalize bR (l ++ t) = X at *
  generalize (l ++ t).length = L at *
  refine ret_m [0, 1, 2] [Γ.g0] ?_ (by decide) rfl (fun a ha => ?_) (fun m => ?_) (fun m => ?_)
  · first | with_reducible refine auR ?_ | exact auR0
    repeat' (first | exact trivial | exact rfl | apply And.intro)
  · simp at ha
    subst ha
    exact ⟨2, _, rfl, rfl⟩
  · first | with_reducible refine auR ?_ | exact auR0
    simp only [renM, renML]
    repeat' (first | exact trivial | exact rfl | apply And.intro)
  · refine ⟨⟨.inr ⟨hnb, rfl⟩, rfl, ?_⟩, ⟨.inl ⟨0, rfl, rfl⟩, rfl, renMLL_nf _ h5⟩, rfl⟩
    refine ⟨?_, rfl⟩
    simp only [renML, renM]
    exact ⟨⟨_, .inr ⟨hnb, rfl⟩, rfl⟩, ⟨_, _, .inl ⟨0, rfl, rfl⟩, rfl⟩, trivial⟩
def cellB (nb : Nat) (a : DV) : Prop := a = .v (.pointer none) ∨ a = .tptr nb 2 tBld
theorem write_spec (nb bn : Nat) (a : DV) (ha : cellB nb a) (l t : List UInt8) (hlen : l.length + t.length ≤ 1048576) :
    MSpec Try.prog 40 [.tptr nb 2 tBld, .v (.string (mkS t))] [some (oB nb a 1 bn l), some (oR bn l)] 1 (fun m d H => d = .tup [.v (.int .i64 (t.length : Nat)), .v .nilIface] ∧ H = [some (oB nb (.tptr nb 2 tBld) 1 m (l ++ t)), none, some (oR m (l ++ t))]) := by
  rcases ha with rfl | rfl
  · exact writeG nb bn _ l t hlen (copy0 nb _)
  · exact writeG nb bn _ l t hlen (copy1 nb _)
theorem le_bldG {st : St} (j k sz s : Nat) (hjk : j ≠ k) {n : Nat} {x y : List DV} (hp : lget st.H j = some ⟨n, s, [x]⟩) (f1 : x.length = y.length) (f2 : ∀ (i : Nat) (d d' : DV), x[i]? = some d → y[i]? = some d' → d' = d ∨ (d = .v (.slice none 0 0) ∧ ∃ T, d' = .tsl 1 st.gen 0 T)) (hpz : 0 < s) : Le st ⟨st.tm, lset (lset st.H j (some ⟨n, s, [y]⟩)) k (some ⟨st.gen, sz, []⟩), st.gen + 1⟩ := by
  intro Γ N K a w hR
  have hg : ¬ K.dom st.gen := fun h => absurd (hR.fresh _ h) (Nat.lt_irrefl _)
  have h1 := inv_addv (k := k) (sz := sz) hR.inv hg hR.g0
  have hm := mono_addv K w st.gen
  have hp1 : (fun q => if q = k then some (⟨st.gen, sz, []⟩ : AObj) else lget st.H q) j = some ⟨n, s, [x]⟩ := by
    show (if j = k then _ else _) = _
    rw [if_neg hjk]
    exact hp
  have hor : ORel (K.addv st.gen) w ⟨n, s, [y]⟩ := by
    rcases (h1.obj j _ hp1).two (fun hm => by have := hm.2.1; simp only at this; omega) with ⟨u1, u2⟩ | ⟨u1, cs, t, frz, nfz, u2, u3, u4, u5⟩
    · cases u2
    · refine .inr (.inl ⟨u1, cs, t, frz, nfz, u2, u3, fun q hq => ?_, fun i q jj d hq hd => ?_⟩)
      · simp at hq
        rw [hq, ← f1]
        exact u4 x (by simp)
      · cases i with
        | succ i => simp at hq
        | zero =>
          simp at hq
          subst hq
          have hj' : jj < x.length := by rw [f1]; exact (List.getElem?_eq_some_iff.1 hd).1
          obtain ⟨c, c1, c2⟩ := u5 0 x jj _ rfl (List.getElem?_eq_getElem hj')
          refine ⟨c, c1, ?_⟩
          rcases f2 jj _ d (List.getElem?_eq_getElem hj') hd with e | ⟨e1, T, e2⟩
          · rw [e]; exact c2
          · rw [e1] at c2
            rw [e2, vrel_v c2]
            exact .tsl (Nat.le_refl _) (.inl rfl)
  have h2 := inv_obj h1 hp1 hor
  refine ⟨K.addv st.gen, ?_, fun m h => ?_, Nat.le_succ_of_le hR.g0, hR.size, hR.defers, fun q => (hR.tm q).mono hm⟩
  · have e : lget (lset (lset st.H j (some ⟨n, s, [y]⟩)) k (some ⟨st.gen, sz, []⟩)) = fun q => if q = j then some (⟨n, s, [y]⟩ : AObj) else (fun q => if q = k then some (⟨st.gen, sz, []⟩ : AObj) else lget st.H q) q := by
      funext q
      rw [lget_lset, lget_lset]
      by_cases e1 : q = k
      · rw [if_pos e1, if_neg (fun e2 => hjk (e2.symm.trans e1))]
        exact (if_pos e1).symm
      · rw [if_neg e1]
        by_cases e2 : q = j
        · rw [if_pos e2, if_pos e2]
        · rw [if_neg e2, if_neg e2]
          exact (if_neg e1).symm
    show Inv Γ _ (lget (lset (lset st.H j _) k _)) w
    rw [e]
    exact h2
  · rcases h with h | h
    · have := hR.fresh m h
      show m < st.gen + 1
      omega
    · show m < st.gen + 1
      omega
theorem le_bld (j k : Nat) (hjk : j ≠ k) {st : St} {nb : Nat} {a : DV} (hj : lget st.H j = some ⟨nb, 2, [[a, .v (.slice none 0 0)]]⟩) : Le st ⟨st.tm, lset (lset st.H j (some (oB nb a 1 st.gen []))) k (some (oR st.gen [])), st.gen + 1⟩ :=
  le_bldG j k 1 2 hjk hj rfl (fun i d d' h1 h2 => by
    match i, h1, h2 with
    | 0, h1, h2 => exact .inl (by rw [← Option.some.inj h1, ← Option.some.inj h2])
    | 1, h1, h2 => exact .inr ⟨(Option.some.inj h1).symm, _, (Option.some.inj h2).symm⟩
    | i + 2, h1, h2 => simp at h1) (by decide)
end Go.Proofs.Ytidogmmfakcfgaa
