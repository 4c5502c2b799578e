/-
  strings.Builder: its bytes as a string.
-/
import Derived.Test.YtidogmmfakcfgaaBld
import Derived.Lib.UnsafeStr
import Derived.Shelf.Strings.Builder1
import Derived.BigCall
import Derived.BigGuard
import Derived.Sort.Grow
namespace Go.Proofs.Ytidogmmfakcfgaa
open Go.RowKit Go.Sort Go.Lib
set_option linter.unusedVariables false
set_option linter.unusedSimpArgs false
set_option maxHeartbeats 1000000 in
set_option maxRecDepth 100000 in
theorem strW (b g cap : Nat) (cur : Array Value) (fr : Nat × Nat) (l : List UInt8) (w : World) (hbk : w.cell? ⟨b, 1, none⟩ = some (.slice (some ⟨g, 0, none⟩) l.length cap)) (hg : w.heap[g]? = some (.cells cur 5 fr)) (hsz : cap = cur.size) (hc : l.length ≤ cap)
    (hcells : ∀ j x, l[j]? = some x → w.cell? ⟨g, j, none⟩ = some (.int .u8 x.toNat)) (h0 : l ≠ []) (hsm : l.length ≤ 1048576) :
    Calls Try.prog 41 #[.pointer (some ⟨b, 0, none⟩)] w fun e w' => e = .returned (.string ⟨l.toArray⟩) ∧ w' = w.drew.freeze ⟨g, 0, none⟩ l.length := by
  subst hsz
  have hl0 : l.length ≠ 0 := by simpa using h0
  have c1 : w.drew.cell? ⟨b, 1, none⟩ = some (.slice (some ⟨g, 0, none⟩) l.length cur.size) := hbk
  have hSD : (Builtin.unsafeSliceData_ #[58] 85 #[.slice (some ⟨g, 0, none⟩) l.length cur.size]).run Try.prog w.drew = .ok (.pointer (some ⟨g, 0, none⟩)) w.drew :=
    Lib.run_unsafeSliceData_row _ _ _ _ _ _ (by omega)
  have hUS : (Builtin.unsafeString_ #[85, 3] 9 #[.pointer (some ⟨g, 0, none⟩), .int .i64 l.length]).run Try.prog w.drew = .ok (.string ⟨l.toArray⟩) (w.drew.freeze ⟨g, 0, none⟩ l.length) := by
    refine Lib.run_unsafeString_row w.drew 85 3 9 5 Try.underlying85 (by kernel_rfl) g cur.size (by have hg' : w.drew.heap[g]? = some (.cells cur 5 fr) := hg; simp [World.shape?, hg']) l h0 (by omega) (by omega) ?_
    intro j x hx
    have := hcells j x hx
    rw [add_none, Nat.zero_add]
    exact this
  go_enter Try.func41, Try.ntmps41
  go_wp2
  have mixed := mixed_ok
  go_region_o
  all_goals (go_wp2; go_ret; exact ⟨rfl, rfl⟩)
theorem freeze_ext {w : World} {g n : Nat} (W : Nat → Prop) (hW : W g) : Ext W w (w.drew.freeze ⟨g, 0, none⟩ n) := by
  have hd : Ext W w w.drew := Ext.heap_eq rfl rfl rfl rfl
  refine hd.trans ?_
  unfold World.freeze
  split
  · exact Ext.refl _ _
  · refine ⟨rfl, rfl, rfl, by simp, fun k _ hk => ?_, fun k cs t fr h => ?_, fun k es ck h => ?_⟩
    · simp only [Array.getElem?_modify]
      rw [if_neg (fun (e : g = k) => hk (e ▸ hW))]
    · simp only [Array.getElem?_modify, h]
      by_cases e : g = k
      · rw [if_pos e]
        exact ⟨cs, _, rfl, rfl⟩
      · rw [if_neg e]
        exact ⟨cs, fr, rfl, rfl⟩
    · refine ⟨es, ck, ?_, fun i e h => ⟨e, h, rfl⟩⟩
      simp only [Array.getElem?_modify, h]
      by_cases e : g = k
      · rw [if_pos e]
        rfl
      · rw [if_neg e]
theorem strB (nb bn : Nat) (l : List UInt8) (h0 : l ≠ []) (hsm : l.length ≤ 1048576) : HSpec Try.prog 41 [.tptr nb 2 tBld] [some ⟨nb, 2, [[.tptr nb 2 tBld, .tsl 1 bn l.length 5]]⟩, some ⟨bn, 1, strRows (mkS l)⟩] (fun d H => d = .v (.string (mkS l)) ∧ H = [none, none]) := by
  refine ⟨by kernel_rfl, fun K w vs g0 hI hlt hargs => ?_⟩
  have hl0 : 0 < l.length := List.length_pos_iff.2 h0
  obtain ⟨v, rfl, hv⟩ := args1 hargs
  cases hv with
  | tptr hr hc =>
    rcases (hI.obj 0 _ rfl).two (fun q => by have := q.2.1; cases this) with ⟨q1, q2⟩ | ⟨q1, cs', t', fr', q2, q3, q4, q5, q6⟩
    · exact absurd hr q1
    · dsimp only at q2 q3 q4 q6
      obtain ⟨c1, hc1, hv1⟩ := q6 0 _ 1 _ rfl rfl
      cases hv1 with
      | tsl hlc hcap =>
        rename_i A cap
        rcases hcap with hcap | ⟨hrn, rfl, cur, fr, hg, hsz⟩
        · omega
        · rcases (hI.obj 1 _ rfl).two (fun q => by have := q.2.1; cases this) with ⟨u1, u2⟩ | ⟨u1, cs2, t2, fr2, u2, u3, u4, u5, u6⟩
          · exact absurd hrn u1
          · dsimp only at u2 u3 u4 u6
            have hcell : w.cell? ⟨(K.cut w).μ nb, 1, none⟩ = some (.slice (some ⟨(K.cut w).μ bn, 0, none⟩) l.length cap) := by
              simp only [World.cell?, q3]
              simpa using hc1
            have hcells : ∀ j x, l[j]? = some x → w.cell? ⟨(K.cut w).μ bn, j, none⟩ = some (.int .u8 x.toNat) := fun j x hx => by
              obtain ⟨c, e1, e2⟩ := u6 j [.v (.int .u8 x.toNat)] 0 _ (by
                show (strRows (mkS l))[j]? = _
                unfold strRows
                rw [List.getElem?_map]
                simp [mkS, hx]) rfl
              cases e2
              simp only [World.cell?, u3]
              simpa using e1
            refine (strW _ _ cap cur fr l w hcell hg hsz hlc hcells h0 hsm).mono ?_
            rintro e w' ⟨rfl, rfl⟩
            have hx := freeze_ext (w := w) (n := l.length) (lend K w g0 [some ⟨nb, 2, [[.tptr nb 2 tBld, .tsl 1 bn l.length 5]]⟩, some ⟨bn, 1, strRows (mkS l)⟩]).W0 ⟨1, _, rfl, hrn, rfl⟩
            refine ⟨_, _, _, rfl, ⟨rfl, rfl⟩, ⟨hI.ext.trans hx, hI.base, fun k o h => ?_, fun k k' o o' h => ?_, hI.dr, fun n h => Nat.lt_of_lt_of_le (hI.lt n h) hx.size, fun k o h => ?_, fun k o h => ?_, hI.gl⟩, .v _⟩
            all_goals
              rcases k with _ | _ | k
              · cases h
              · cases h
              · cases h
end Go.Proofs.Ytidogmmfakcfgaa
