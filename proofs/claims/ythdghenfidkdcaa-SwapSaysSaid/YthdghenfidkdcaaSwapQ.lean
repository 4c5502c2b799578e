/-
  What a packet whose ends can be told looks like; the reference's new packet in pieces: no program in sight.
-/
import Derived.Test.YthdghenfidkdcaaSwapY
namespace Go.Proofs.Ythdghenfidkdcaa
set_option linter.unusedVariables false
set_option linter.unusedSimpArgs false
theorem word_take (l : List UInt8) (n i : Nat) (h : i + 1 < n) : wordAtI (l.take n) i = wordAtI l i := by
  unfold wordAtI
  rw [List.getElem?_take, List.getElem?_take, if_pos (by omega), if_pos (by omega)]
/-- Where a packet ends. -/
def pL (s : List UInt8) : Nat := (wordAtI s 2).toNat
theorem ed_ok {s : List UInt8} (he : (edR s).2 = 0) : (20 ≤ hN s ∧ hN s ≤ 60) ∧ pL s ≤ s.length ∧ ((bN s 9 : Nat) : Int) = (edR s).1.proto ∧ (((bN s 9 : Nat) : Int) = 6 ∨ ((bN s 9 : Nat) : Int) = 17) ∧ hN s + ckI (bN s 9 : Nat) + 2 ≤ pL s ∧ (edR s).1 = ⟨lgAt s 12, lgAt s 16, (bN s 9 : Nat), wordAtI s (hN s), wordAtI s (hN s + 2)⟩ ∧ hN s = 4 * (bN s 0 % 16) := by
  have h0 : rpErr s = 0 := by
    refine Decidable.byContradiction fun h => ?_
    unfold edR at he
    rw [if_neg h] at he
    exact h he
  have he' : (edP (rdP s)).2 = 0 := by
    unfold edR at he
    rwa [if_pos h0] at he
  have e2 : edR s = edP (rdP s) := by unfold edR; rw [if_pos h0]
  rw [e2]
  clear he e2
  unfold rpErr at h0
  split at h0
  · cases h0
  rename_i h1
  split at h0
  · cases h0
  rename_i h2
  clear h0
  have b2 := wordAtI_bd s 2
  have hL : pL s = (wordAtI s 2).toNat := rfl
  have hNe : hN s = 4 * (bN s 0 % 16) := rfl
  have hd : (rdP s).data = (s.drop (hN s)).take (pL s - hN s) := rfl
  have hdl : (rdP s).data.length = pL s - hN s := by rw [hd]; simp; omega
  have hp : (rdP s).proto = (bN s 9 : Nat) := rfl
  have hf : (rdP s).fr = lgAt s 12 := rfl
  have ht : (rdP s).to = lgAt s 16 := rfl
  have hw : 4 ≤ pL s - hN s → wordAtI (rdP s).data 0 = wordAtI s (hN s) ∧ wordAtI (rdP s).data 2 = wordAtI s (hN s + 2) := fun q => by
    rw [hd, word_take _ _ _ (by omega), word_take _ _ _ (by omega), wordAtI_drop, wordAtI_drop]
    exact ⟨rfl, rfl⟩
  generalize rdP s = p at *
  obtain ⟨tos, id, wh, mo, start, life, proto, fr, to, opt, data⟩ := p
  dsimp only at hd hdl hp hf ht hw
  subst hp hf ht
  unfold edP at he' ⊢
  dsimp only at he' ⊢
  split at he'
  · cases he'
  rename_i h3
  rw [if_neg h3]
  split at he'
  · cases he'
  rename_i h4
  rw [if_neg h4]
  have h3' := Decidable.not_not.1 h3
  split at he'
  · rename_i h5
    rw [if_pos h5]
    split at he'
    · rename_i h6
      rw [if_pos h6]
      have q := (rdS_ok h6).2.2
      obtain ⟨q1, q2⟩ := hw (by omega)
      dsimp only
      rw [h5, q1, q2]
      exact ⟨by omega, by omega, rfl, .inl rfl, by unfold ckI; rw [if_neg (by decide)]; omega, rfl, hNe⟩
    · rename_i h6
      exact (h6 he').elim
  · rename_i h5
    have h7 : ((bN s 9 : Nat) : Int) = 17 := h3'.resolve_left h5
    rw [if_neg h5]
    split at he'
    · rename_i h6
      rw [if_pos h6]
      have q := (rdL_ok h6).2.2
      obtain ⟨q1, q2⟩ := hw (by omega)
      dsimp only
      rw [h7, q1, q2]
      exact ⟨by omega, by omega, rfl, .inr rfl, by unfold ckI; rw [if_pos rfl]; omega, rfl, hNe⟩
    · rename_i h6
      exact (h6 he').elim
theorem putW_app1 (A B : List UInt8) (i : Nat) (n : Int) (h : i + 1 < A.length) : putW (A ++ B) i n = putW A i n ++ B := by
  unfold putW
  rw [List.set_append_left _ _ (by omega), List.set_append_left _ _ (by simp; omega)]
theorem putW_app2 (A B : List UInt8) (i j : Nat) (n : Int) (h : j = A.length + i) : putW (A ++ B) j n = A ++ putW B i n := by
  subst h
  unfold putW
  rw [List.set_append_right _ _ (by omega), Nat.add_assoc, List.set_append_right _ _ (by omega)]
  simp
theorem put_at (P Q : List UInt8) (i : Nat) (n : Int) (h : P.length = i) (hq : 2 ≤ Q.length) : putW (P ++ Q) i n = P ++ wd n ++ Q.drop 2 := by
  rw [putW_app2 P Q 0 i n (by omega), ← putW_cat Q 0 n (by omega)]
  simp
theorem head12 (A : List UInt8) (c a : Int) (h : 20 ≤ A.length) : A.take 10 ++ wd c ++ lg a ++ A.drop 16 = putW (putW (putW A 10 c) 12 (a / 65536)) 14 (a % 65536) := by
  rw [← putW_cat A 10 c (by omega), put_at (A.take 10 ++ wd c) (A.drop (10 + 2)) 12 _ (by simp [wd_len]; omega) (by simp; omega), put_at (A.take 10 ++ wd c ++ wd (a / 65536)) ((A.drop (10 + 2)).drop 2) 14 _ (by simp [wd_len]; omega) (by simp; omega), wd_mod, List.drop_drop, List.drop_drop]
  unfold lg
  simp only [List.append_assoc]
theorem head16 (A : List UInt8) (c a : Int) (h : 20 ≤ A.length) : A.take 10 ++ wd c ++ (A.drop 12).take 4 ++ lg a ++ A.drop 20 = putW (putW (putW A 10 c) 16 (a / 65536)) 18 (a % 65536) := by
  have e : A.drop (10 + 2) = (A.drop 12).take 4 ++ A.drop 16 := by
    conv => lhs; rw [← List.take_append_drop 4 (A.drop (10 + 2)), List.drop_drop]
  conv => rhs; rw [← putW_cat A 10 c (by omega), e, ← List.append_assoc, put_at (A.take 10 ++ wd c ++ (A.drop 12).take 4) (A.drop 16) 16 _ (by simp [wd_len]; omega) (by simp; omega), put_at (A.take 10 ++ wd c ++ (A.drop 12).take 4 ++ wd (a / 65536)) ((A.drop 16).drop 2) 18 _ (by simp [wd_len]; omega) (by simp; omega), wd_mod, List.drop_drop, List.drop_drop]
  unfold lg
  simp only [List.append_assoc]
/-- The reference's packet in pieces is the one with words put in. -/
theorem ren_eq (s : List UInt8) (h ck : Nat) (p a port : Int) (at' off L : Nat) (hd bd : List UInt8) (hhd : hd = s.take h) (hbd : bd = (s.drop h).take (L - h)) (hck : ck = ckI p) (hh : 20 ≤ h) (hl : h + ckI p + 2 ≤ L) (hL : L ≤ s.length) (hao : (at' = 12 ∧ off = 0) ∨ (at' = 16 ∧ off = 2)) :
    putW (putW (putW hd 10 (rnT s a at')) at' (a / 65536)) (at' + 2) (a % 65536) ++ putW (putW bd off port) ck (rnC s h p a port at' off) = (rnW s h p a port at' off).take L := by
  have hc : 6 ≤ ckI p := by unfold ckI; split <;> omega
  have ld : hd.length = h := by rw [hhd]; simp; omega
  have es : s.take L = hd ++ bd := by
    rw [hhd, hbd]
    conv => lhs; rw [show L = h + (L - h) by omega, List.take_add]
  unfold rnW
  simp only [putW_take]
  rw [es, putW_app1 hd bd 10 _ (by omega), putW_app1 _ bd at' _ (by simp only [putW_len]; omega), putW_app1 _ bd (at' + 2) _ (by simp only [putW_len]; omega), putW_app2 _ bd off _ _ (by simp only [putW_len]; omega), putW_app2 _ _ (ckI p) _ _ (by simp only [putW_len]; omega), hck]
end Go.Proofs.Ythdghenfidkdcaa
