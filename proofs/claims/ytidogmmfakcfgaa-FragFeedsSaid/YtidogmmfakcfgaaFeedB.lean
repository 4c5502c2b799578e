/-
  A whole heap: all of its data, if it is all there.
-/
import Derived.Test.YtidogmmfakcfgaaFeedK
import Derived.Test.YtidogmmfakcfgaaBldW
import Derived.Test.YtidogmmfakcfgaaBldS
namespace Go.Proofs.Ytidogmmfakcfgaa
set_option linter.unusedVariables false
set_option linter.unusedSimpArgs false
theorem blen_spec (nb bn : Nat) (a : DV) (ha : cellB nb a) (l : List UInt8) (hl : l.length ≤ 1048576) : MSpec Try.prog 39 [.tptr nb 2 tBld] [some (oB nb a 1 bn l), some (oR bn l)] 0 (fun m d H => d = .v (.int .i64 (l.length : Nat)) ∧ H = [some (oB nb a 1 bn l), some (oR bn l)]) := by
  refine mspec_fn Try.func39 rfl ok_strings_Builder_Len okr_strings_Builder_Len rfl (by kernel_rfl) ?_
  intro Γ hW0 hN0 hL0
  clear hW0
  unfold x_strings_Builder_Len r_strings_Builder_Len
  with_reducible refine auC ?_
  have hnb : nb < Γ.g0 := hN0 0 _ rfl
  have hbn : bn < Γ.g0 := hN0 1 _ rfl
  refine go_le (le_tptr ⟨.d0, .d0, .d0⟩ 0 rfl) ?_
  repeat' (first
    | (with_reducible refine auS ?_)
    | fail
    | (with_reducible refine auD ?_)
    | ((with_reducible refine auB ?_ ?_); all_goals first | ((with_reducible intro h); first | exact auH | simp only [h, runR_t, runR_f] | skip) | skip)
    | fail)
  (all_goals first | exact auP | skip)
  refine ret_m [0, 1] [] trivial (by decide) rfl (fun a ha => by simp at ha) (fun m => ⟨rfl, trivial⟩) (fun m => ⟨⟨.inr ⟨hnb, rfl⟩, rfl, ⟨?_, rfl⟩⟩, ⟨.inr ⟨hbn, rfl⟩, rfl, renMLL_nf _ (bR_nf _ _)⟩, rfl⟩)
  rcases ha with rfl | rfl
  · exact ⟨⟨rfl, trivial⟩, ⟨1, bn, .inr ⟨hbn, rfl⟩, rfl⟩, rfl⟩
  · exact ⟨⟨nb, .inr ⟨hnb, rfl⟩, rfl⟩, ⟨1, bn, .inr ⟨hbn, rfl⟩, rfl⟩, rfl⟩
theorem lastP_get : ∀ (l : List Pt), l ≠ [] → l[l.length - 1]? = some (lastP l)
  | [], h => absurd rfl h
  | [p], _ => rfl
  | p :: q :: r, _ => by
    have := lastP_get (q :: r) (by simp)
    simp only [lastP]
    simpa using this
abbrev wholeR (l : List Pt) : B8 × Bool := match cont l [] with
  | some d => (d, (lastP l).last)
  | none => ([], false)
set_option maxHeartbeats 2000000 in
theorem whole_spec (u : Hp) (hl : u.ps.length ≤ 65) (hch : chR u.ps 0 = true) (hne : u.ps ≠ []) : Spec Try.prog 17 [dH u] (.tup [.v (.string (mkS (wholeR u.ps).1)), .v (.bool (wholeR u.ps).2)]) := by
  obtain ⟨fr, to, pr, id, tos, life, opt, ps⟩ := u
  dsimp only at *
  unfold wholeR
  have hlast := lastP_get ps hne
  have hlen : 0 < ps.length := List.length_pos_iff.2 hne
  refine hspec_fn Try.func17 rfl ok_frag_whole okr_frag_whole rfl (by kernel_rfl) ?_
  intro Γ hW0 hN0 hL0
  have hW := hW0 rfl
  clear hW0 hN0 hL0
  unfold x_frag_whole r_frag_whole
  with_reducible refine auC ?_
  repeat' (first
    | ((with_reducible refine atGo ?_); (refine go_le (le_bld 1 3 (by decide) rfl) ?_))
    | (with_reducible refine auS ?_)
    | fail
    | (with_reducible refine auD ?_)
    | ((with_reducible refine auB ?_ ?_); all_goals first | ((with_reducible intro h); first | exact auH | simp only [h, runR_t, runR_f] | skip) | skip)
    | fail)
  refine go_loopH (α := Nat × B8 × DV × Nat × Nat) (fun a => [(⟨.d0, .d1, .d2⟩, .v (.int .i64 (a.1 : Nat)))]) (fun a => [(0, some ⟨Γ.g0, 8, [Hp.enc ⟨fr, to, pr, id, tos, life, opt, ps⟩]⟩), (1, some (oB (Γ.g0 + 1) a.2.2.1 1 a.2.2.2.1 a.2.1)), (2, none), (3, some (oR a.2.2.2.1 a.2.1))]) (fun a => a.2.2.2.2) (fun a => ps.length - a.1)
    (fun a => a.1 ≤ ps.length ∧ cont ps [] = cont (ps.drop a.1) a.2.1 ∧ a.2.1.length ≤ 65515 ∧ (0 < a.1 → a.2.1 ≠ [] ∧ a.2.2.1 = .tptr (Γ.g0 + 1) 2 tBld) ∧ cellB (Γ.g0 + 1) a.2.2.1) (0, [], .v (.pointer none), Γ.g0 + 2, Γ.g0 + 3) ⟨Nat.zero_le _, rfl, Nat.zero_le _, fun q => absurd q (Nat.lt_irrefl _), .inl rfl⟩ ?_ ?_
  · skip
    refine le_mk ?_ ?_ (Nat.le_refl _)
    all_goals first | with_reducible refine auE ?_ | exact auE0
    all_goals (repeat' (first | exact trivial | exact rfl | apply And.intro))
  rintro ⟨k, acc, a, bn, g⟩ ⟨hk, hp, hacc, hnil, hcell⟩
  dsimp only at hk hp hacc hnil hcell ⊢
  with_reducible refine auL ?_
  by_cases hlt : k < ps.length
  · obtain ⟨⟨ta, td, tl⟩, ht⟩ : ∃ t, ps[k]? = some t := ⟨_, List.getElem?_eq_getElem hlt⟩
    have ex := xget_map Pt.enc ps k ⟨ta, td, tl⟩ ht
    have hto := ptOk_fact (chR_ge hch _ (List.mem_of_getElem? ht)).2
    have hfin := hto.2.2.2.2.1
    unfold Pt.fin at hfin
    dsimp only at hfin hto
    have hbl := blen_spec (Γ.g0 + 1) bn a hcell acc (by omega)
    rw [List.drop_eq_getElem_cons hlt, show ps[k] = ⟨ta, td, tl⟩ from Option.some.inj ((List.getElem?_eq_getElem hlt).symm.trans ht)] at hp
    simp only [cont] at hp
    by_cases he : ta = (acc.length : Nat)
    · rw [if_pos he] at hp
      have hw := write_spec (Γ.g0 + 1) bn a hcell acc td (by omega)
      repeat' (first
        | (with_reducible refine auS ?_)
        | (first | ((with_reducible refine atCall 39 ?_); (refine runR_callG [1, 3] [] [1, 3] rfl (by decide) rfl rfl hbl ?_)) | ((with_reducible refine atCall 40 ?_); (refine runR_callG [1, 3] [4] [1, 3, 4] rfl (by decide) rfl rfl hw ?_)))
        | (with_reducible refine auD ?_)
        | ((with_reducible refine auB ?_ ?_); all_goals first | ((with_reducible intro h); first | exact auH | simp only [h, runR_t, runR_f] | skip) | skip)
        | (simp only [Int.toNat_natCast, ex]))
      (all_goals first | exact auP | skip)
      refine nx_loop ⟨(k + 1, acc ++ td, .tptr (Γ.g0 + 1) 2 tBld, g + 1, g + 2), ⟨hlt, hp, by dsimp only; rw [List.length_append]; omega, fun _ => ⟨fun q => hto.1 (List.append_eq_nil_iff.1 q).2, rfl⟩, .inr rfl⟩, by dsimp only; omega, ?_⟩
      refine (le_place 4 3 rfl (fun _ => rfl)).trans ?_
      refine le_mk ?_ ?_ (Nat.le_refl _)
      all_goals first | with_reducible refine auE ?_ | exact auE0
      all_goals (repeat' (first | exact trivial | exact rfl | apply And.intro))
      all_goals first
        | exact dint ((IntWalk.i64_in _ (by omega)).trans (by omega))
        | rfl
    · rw [if_neg he] at hp
      rw [hp]
      repeat' (first
        | (with_reducible refine auS ?_)
        | (first | ((with_reducible refine atCall 39 ?_); (refine runR_callG [1, 3] [] [1, 3] rfl (by decide) rfl rfl hbl ?_)))
        | (with_reducible refine auD ?_)
        | ((with_reducible refine auB ?_ ?_); all_goals first | ((with_reducible intro h); first | exact auH | simp only [h, runR_t, runR_f] | skip) | skip)
        | (simp only [Int.toNat_natCast, ex]))
      (all_goals first | exact auP | skip)
      all_goals with_reducible refine auF ?_
      all_goals (try first | with_reducible refine auR ?_ | exact auR0)
      all_goals (try simp only [hsM] at *)
      all_goals rfl
  · obtain rfl : k = ps.length := by omega
    rw [List.drop_length] at hp
    rw [hp]
    simp only [cont]
    obtain ⟨hacc0, rfl⟩ := hnil hlen
    have hstr := strB (Γ.g0 + 1) bn acc hacc0 (by omega)
    rw [strRows_mkS] at hstr
    have exl := xget_map Pt.enc ps (ps.length - 1) (lastP ps) hlast
    have e1 : IntKind.i64.wrap ((ps.length : Int) - 1) = ((ps.length - 1 : Nat) : Int) := by rw [IntWalk.i64_in _ (by omega)]; omega
    have hll : ps.length - 1 < ps.length := by omega
    repeat' (first
      | (with_reducible refine auS ?_)
      | (first | ((with_reducible refine atCall 41 ?_); (refine runR_callL [1, 3] (by decide) rfl rfl hstr ?_)) | simp only [List.length_map, e1])
      | (with_reducible refine auD ?_)
      | ((with_reducible refine auB ?_ ?_); all_goals first | ((with_reducible intro h); first | exact auH | simp only [h, runR_t, runR_f] | skip) | skip)
      | (simp only [Int.toNat_natCast, exl]))
    (all_goals first | exact auP | skip)
    all_goals first | (exfalso; simp at h; done) | skip
    all_goals with_reducible refine auF ?_
    all_goals (try first | with_reducible refine auR ?_ | exact auR0)
    all_goals (try simp only [hsM] at *)
    all_goals rfl
end Go.Proofs.Ytidogmmfakcfgaa
