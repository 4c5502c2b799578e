/-
  A plan written: its parts, in the program.
-/
import Derived.Test.YtbcamncabckbnaaGreatDoorBldW
import Derived.Test.YtbcamncabckbnaaGreatDoorBldS
import Derived.Test.YtbcamncabckbnaaGreatDoorCallG
import Derived.Test.YtbcamncabckbnaaGreatDoorRulC
import Derived.Test.YtbcamncabckbnaaGreatDoorAdrY
namespace Go.Proofs.YtbcamncabckbnaaGreatDoor
set_option linter.unusedVariables false
set_option linter.unusedSimpArgs false
/-- Words with a blank between. -/
def joinL (ws : List W8) : W8 := Lib.join ws [32]
theorem joinW_spec (ws : List W8) (c : Bool) (h0 : 0 < ws.length) (hN : ws.length ≤ 1048576) (hlen : (joinL ws).length ≤ 1048576) : Spec Tryz.prog 13 [.snap 1 (rowS (ws.map mkS)) c, .v (.string ⟨#[32]⟩)] (.v (.string (mkS (joinL ws)))) := by
  have e : (ws.map mkS).map (·.data.toList) = ws := by
    rw [List.map_map]
    conv => rhs; rw [← List.map_id ws]
    exact List.map_congr_left (fun x _ => by simp [mkS])
  have h := join_spec (ws.map mkS) ⟨#[32]⟩ c (by simpa using h0) (by rw [List.length_map]; omega) (by rw [e]; exact Nat.le_trans hlen (by decide))
  rw [e] at h
  exact h
set_option maxHeartbeats 2000000 in
theorem wline_spec (nb bn an k : Nat) (a : DV) (ha : cellB nb a) (l : W8) (ws : List W8) (h0 : 0 < ws.length) (hN : ws.length ≤ 1048576) (hlen : l.length + (joinL ws).length + 1 ≤ 1048576) :
    MSpec Tryz.prog 11 [.sl k an 1 0 ws.length true, .tptr nb 2 tBld] [some (oB nb a 1 bn l), some (oR bn l), some ⟨an, 1, rowS (ws.map mkS)⟩] 1
      (fun m d H => d = .tup [] ∧ H = [some (oB nb (.tptr nb 2 tBld) 1 m (l ++ (joinL ws ++ [10]))), none, some ⟨an, 1, rowS (ws.map mkS)⟩, some (oR m (l ++ (joinL ws ++ [10])))]) := by
  have hj := joinW_spec ws false h0 hN (by omega)
  have hw := write_spec nb bn a ha l (joinL ws ++ [10]) (by simp; omega)
  have e10 : (ByteArray.mk #[10] : ByteArray) = mkS [10] := rfl
  have hl1 : (joinL ws).length ≤ 1048576 := by omega
  have hrl : (rowS (ws.map mkS)).length = ws.length := by simp [rowS]
  refine mspec_fn Tryz.func11 rfl ok_conf_Write_1 okr_conf_Write_1 rfl (by kernel_rfl) ?_
  intro Γ hW0 hN0 hL0
  clear hW0
  unfold x_conf_Write_1 r_conf_Write_1
  with_reducible refine auC ?_
  have hnb : nb < Γ.g0 := hN0 0 _ rfl
  have han : an < Γ.g0 := hN0 2 _ rfl
  have hnf : nfLL Γ.g0 (rowS (ws.map mkS)) := nfLL_map (fun x => by simp [nfL, nfD])
  have hnf2 := bR_nf Γ.g0 (l ++ (joinL ws ++ [10]))
  have hf : frz2L ⟨an, 1, rowS (ws.map mkS)⟩ [.sl k an 1 0 ws.length true, .v (.string ⟨#[32]⟩)] [.snap 1 (rowS (ws.map mkS)) false, .v (.string ⟨#[32]⟩)] := by
    refine ⟨?_, rfl, rfl⟩
    simp only [frz2]
    exact .inl ⟨trivial, trivial, by omega, by rw [xall (l := rowS (ws.map mkS)) (by rw [hrl])]⟩
  repeat' (first
    | (with_reducible refine auS ?_)
    | (first | (simp only [e10, mkS_app]) | ((with_reducible refine runR_callF 2 ?_ hj hf ?_ ?_); (exact rfl); (exact rfl)) | ((with_reducible refine runR_callG [0, 1] [3] [0, 1, 3] ?_ ?_ ?_ ?_ hw ?_); (exact rfl); (exact by decide); (exact rfl); (exact rfl)))
    | (with_reducible refine auD ?_)
    | ((with_reducible refine auB ?_ ?_); all_goals first | (intro h; first | exact auH | simp only [h, runR_t, runR_f] | skip) | skip)
    | (first | (refine runR_n (by simp only [mkS_size]; simp; omega) ?_) | fail))
  (all_goals first | exact auP | skip)
  generalize bR (l ++ (joinL ws ++ [10])) = X at *
  generalize (l ++ (joinL ws ++ [10])).length = L at *
  generalize rowS (ws.map mkS) = Y at *
  refine ret_m [0, 1, 2, 3] [Γ.g0] ?_ (by decide) rfl (fun a ha => ?_) (fun m => ?_) (fun m => ?_)
  · first | with_reducible refine auR ?_ | exact auR0
    repeat' (first | exact trivial | exact rfl | apply And.intro)
  · simp at ha
    subst ha
    exact ⟨3, _, rfl, rfl⟩
  · first | with_reducible refine auR ?_ | exact auR0
    simp only [renM, renML]
    repeat' (first | exact trivial | exact rfl | apply And.intro)
  · refine ⟨⟨.inr ⟨hnb, rfl⟩, rfl, ?_⟩, ⟨.inr ⟨han, rfl⟩, rfl, renMLL_nf _ hnf⟩, ⟨.inl ⟨0, rfl, rfl⟩, rfl, renMLL_nf _ (bR_nf Γ.g0 _)⟩, rfl⟩
    refine ⟨?_, rfl⟩
    simp only [renML, renM]
    exact ⟨⟨_, .inr ⟨hnb, rfl⟩, rfl⟩, ⟨_, _, .inl ⟨0, rfl, rfl⟩, rfl⟩, trivial⟩
theorem wline2 (nb bn an k : Nat) {a : DV} (ha : cellB nb a) {l t : W8} (x y : W8) (ht : t = l ++ (joinL [x, y] ++ [10])) (hlen : t.length ≤ 1048576) :
    MSpec Tryz.prog 11 [.sl k an 1 0 2 true, .tptr nb 2 tBld] [some (oB nb a 1 bn l), some (oR bn l), some ⟨an, 1, rowS ([x, y].map mkS)⟩] 1
      (fun m d H => d = .tup [] ∧ H = [some (oB nb (.tptr nb 2 tBld) 1 m t), none, some ⟨an, 1, rowS ([x, y].map mkS)⟩, some (oR m t)]) := by
  subst ht
  exact wline_spec nb bn an k a ha l [x, y] (by show 0 < 2; decide) (by show 2 ≤ 1048576; decide) (by simp at hlen; omega)
theorem wline3 (nb bn an k : Nat) {a : DV} (ha : cellB nb a) {l t : W8} (x y z : W8) (ht : t = l ++ (joinL [x, y, z] ++ [10])) (hlen : t.length ≤ 1048576) :
    MSpec Tryz.prog 11 [.sl k an 1 0 3 true, .tptr nb 2 tBld] [some (oB nb a 1 bn l), some (oR bn l), some ⟨an, 1, rowS ([x, y, z].map mkS)⟩] 1
      (fun m d H => d = .tup [] ∧ H = [some (oB nb (.tptr nb 2 tBld) 1 m t), none, some ⟨an, 1, rowS ([x, y, z].map mkS)⟩, some (oR m t)]) := by
  subst ht
  exact wline_spec nb bn an k a ha l [x, y, z] (by show 0 < 3; decide) (by show 3 ≤ 1048576; decide) (by simp at hlen; omega)
theorem wline6 (nb bn an k : Nat) {a : DV} (ha : cellB nb a) {l t : W8} (x y z u v s : W8) (ht : t = l ++ (joinL [x, y, z, u, v, s] ++ [10])) (hlen : t.length ≤ 1048576) :
    MSpec Tryz.prog 11 [.sl k an 1 0 6 true, .tptr nb 2 tBld] [some (oB nb a 1 bn l), some (oR bn l), some ⟨an, 1, rowS ([x, y, z, u, v, s].map mkS)⟩] 1
      (fun m d H => d = .tup [] ∧ H = [some (oB nb (.tptr nb 2 tBld) 1 m t), none, some ⟨an, 1, rowS ([x, y, z, u, v, s].map mkS)⟩, some (oR m t)]) := by
  subst ht
  exact wline_spec nb bn an k a ha l [x, y, z, u, v, s] (by show 0 < 6; decide) (by show 6 ≤ 1048576; decide) (by simp at hlen; omega)
/-- The parts of a plan's text. -/
def pw (b : Bool) : W8 := if b = true then wPass else wDrop
def dI (n : Int) : W8 := Lib.decDigits n.toNat
def netT (a l : Int) : W8 := showA a.toNat ++ ([47] ++ dI l)
def bndT (a b : Int) : W8 := dI a ++ ([45] ++ dI b)
theorem dec_le : ∀ (k n : Nat), n < 10 ^ (k + 1) → (Lib.decDigits n).length ≤ k + 1
  | 0, n, h => by
    rw [Lib.decDigits, dif_pos (by omega)]
    simp
  | k + 1, n, h => by
    rw [Lib.decDigits]
    split
    · simp
    · have := dec_le k (n / 10) (by rw [Nat.pow_succ] at h; omega)
      simp
      omega
theorem itoaI (n : Int) (h : 0 ≤ n ∧ n ≤ 1000000000) : Spec Tryz.prog 15 [.v (.int .i64 n)] (.v (.string (mkS (dI n)))) := by
  have := itoa_spec n.toNat (by omega)
  rw [Int.toNat_of_nonneg h.1] at this
  exact this
theorem showI (n : Int) (h : 0 ≤ n ∧ n < 4294967296) : Spec Tryz.prog 14 [.v (.int .u32 n)] (.v (.string (mkS (showA n.toNat)))) := by
  have := show_spec n.toNat (by omega)
  rw [Int.toNat_of_nonneg h.1] at this
  exact this
theorem dI_len (n : Int) (h : 0 ≤ n ∧ n ≤ 1000000000) : (dI n).length ≤ 10 := dec_le 9 _ (by omega)
theorem showA_len (a : Nat) : (showA a).length ≤ 15 := by
  have h : ∀ n, (dS (n % 256)).length ≤ 3 := fun n => by
    have : ∀ n : Fin 256, (dS n.val).length ≤ 3 := by decide +kernel
    exact this ⟨n % 256, Nat.mod_lt _ (by decide)⟩
  have h0 := h (a / 16777216)
  have h1 := h (a / 65536)
  have h2 := h (a / 256)
  have h3 := h a
  rw [showA_eq]
  simp
  omega
theorem verdict_spec (b : Bool) : Spec Tryz.prog 16 [.v (.bool b)] (.v (.string (mkS (pw b)))) := by
  cases b
  · skip
    refine hspec_fn Tryz.func16 rfl ok_conf_verdict okr_conf_verdict rfl (by kernel_rfl) ?_
    intro Γ hW0 hN0 hL0
    have hW := hW0 rfl
    clear hW0 hN0 hL0
    unfold x_conf_verdict r_conf_verdict
    with_reducible refine auC ?_
    repeat' (first
      | (with_reducible refine auS ?_)
      | fail
      | (with_reducible refine auD ?_)
      | ((with_reducible refine auB ?_ ?_); all_goals first | (intro h; first | exact auH | simp only [h, runR_t, runR_f] | skip) | skip)
      | fail)
    (all_goals first | exact auP | skip)
    all_goals with_reducible refine auF ?_
    all_goals (try first | with_reducible refine auR ?_ | exact auR0)
    all_goals (try simp only [hsM] at *)
    all_goals rfl
  · skip
    refine hspec_fn Tryz.func16 rfl ok_conf_verdict okr_conf_verdict rfl (by kernel_rfl) ?_
    intro Γ hW0 hN0 hL0
    have hW := hW0 rfl
    clear hW0 hN0 hL0
    unfold x_conf_verdict r_conf_verdict
    with_reducible refine auC ?_
    repeat' (first
      | (with_reducible refine auS ?_)
      | fail
      | (with_reducible refine auD ?_)
      | ((with_reducible refine auB ?_ ?_); all_goals first | (intro h; first | exact auH | simp only [h, runR_t, runR_f] | skip) | skip)
      | fail)
    (all_goals first | exact auP | skip)
    all_goals with_reducible refine auF ?_
    all_goals (try first | with_reducible refine auR ?_ | exact auR0)
    all_goals (try simp only [hsM] at *)
    all_goals rfl
theorem net_specW (a l : Int) (ha : 0 ≤ a ∧ a < 4294967296) (hl : 0 ≤ l ∧ l ≤ 1000000000) : Spec Tryz.prog 17 [dNt a l] (.v (.string (mkS (netT a l)))) := by
  have h1 := showI a ha
  have h2 := itoaI l hl
  have l1 := showA_len a.toNat
  have l2 := dI_len l hl
  have e : (ByteArray.mk #[47] : ByteArray) = mkS [47] := rfl
  have e2 : netT a l = showA a.toNat ++ [47] ++ dI l := by unfold netT; simp
  rw [e2]
  generalize showA a.toNat = A at *
  generalize dI l = B at *
  refine hspec_fn Tryz.func17 rfl ok_conf_net okr_conf_net rfl (by kernel_rfl) ?_
  intro Γ hW0 hN0 hL0
  have hW := hW0 rfl
  clear hW0 hN0 hL0
  unfold x_conf_net r_conf_net
  with_reducible refine auC ?_
  repeat' (first
    | (with_reducible refine auS ?_)
    | (first | (simp only [e, mkS_app]) | (with_reducible refine runR_call h1 ?_) | (with_reducible refine runR_call h2 ?_))
    | (with_reducible refine auD ?_)
    | ((with_reducible refine auB ?_ ?_); all_goals first | (intro h; first | exact auH | simp only [h, runR_t, runR_f] | skip) | skip)
    | (first | (refine runR_n (by simp only [mkS_size]; simp; omega) ?_) | fail))
  (all_goals first | exact auP | skip)
  all_goals with_reducible refine auF ?_
  all_goals (try first | with_reducible refine auR ?_ | exact auR0)
  all_goals (try simp only [hsM] at *)
theorem bounds_specW (a b : Int) (ha : 0 ≤ a ∧ a ≤ 1000000000) (hb : 0 ≤ b ∧ b ≤ 1000000000) : Spec Tryz.prog 18 [.v (.int .i64 a), .v (.int .i64 b)] (.v (.string (mkS (bndT a b)))) := by
  have h1 := itoaI a ha
  have h2 := itoaI b hb
  have l1 := dI_len a ha
  have l2 := dI_len b hb
  have e : (ByteArray.mk #[45] : ByteArray) = mkS [45] := rfl
  have e2 : bndT a b = dI a ++ [45] ++ dI b := by unfold bndT; simp
  rw [e2]
  generalize dI a = A at *
  generalize dI b = B at *
  refine hspec_fn Tryz.func18 rfl ok_conf_bounds okr_conf_bounds rfl (by kernel_rfl) ?_
  intro Γ hW0 hN0 hL0
  have hW := hW0 rfl
  clear hW0 hN0 hL0
  unfold x_conf_bounds r_conf_bounds
  with_reducible refine auC ?_
  repeat' (first
    | (with_reducible refine auS ?_)
    | (first | (simp only [e, mkS_app]) | (with_reducible refine runR_call h1 ?_) | (with_reducible refine runR_call h2 ?_))
    | (with_reducible refine auD ?_)
    | ((with_reducible refine auB ?_ ?_); all_goals first | (intro h; first | exact auH | simp only [h, runR_t, runR_f] | skip) | skip)
    | (first | (refine runR_n (by simp only [mkS_size]; simp; omega) ?_) | fail))
  (all_goals first | exact auP | skip)
  all_goals with_reducible refine auF ?_
  all_goals (try first | with_reducible refine auR ?_ | exact auR0)
  all_goals (try simp only [hsM] at *)
end Go.Proofs.YtbcamncabckbnaaGreatDoor
