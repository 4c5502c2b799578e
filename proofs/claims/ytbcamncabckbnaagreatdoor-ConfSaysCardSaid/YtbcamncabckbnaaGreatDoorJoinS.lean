/-
  strings.Join: the kit's contract, as one of the walk.
-/
import Derived.Test.YtbcamncabckbnaaGreatDoorShB
import Derived.Test.YtbcamncabckbnaaGreatDoorShelf
namespace Go.Proofs.YtbcamncabckbnaaGreatDoor
set_option linter.unusedVariables false
set_option linter.unusedSimpArgs false
theorem join_spec (xs : List ByteArray) (sep : ByteArray) (c : Bool) (h0 : 0 < xs.length) (hN : xs.length ≤ 140737488355328) (hlen : (Lib.join (xs.map (·.data.toList)) sep.data.toList).length ≤ 140737488355328) :
    Spec Tryz.prog 13 [.snap 1 (xs.map fun x => [.v (.string x)]) c, .v (.string sep)] (.v (.string ⟨(Lib.join (xs.map (·.data.toList)) sep.data.toList).toArray⟩)) :=
  spec_of_calls (by kernel_rfl) fun K w vs g0 hI ⟨hs, ha⟩ => by
    have hsz : vs.size = 2 := hs
    obtain ⟨v1, v2, rfl⟩ : ∃ a b, vs = #[a, b] := by
      obtain ⟨l⟩ := vs
      match l, hsz with
      | [a, b], _ => exact ⟨a, b, rfl⟩
    have r1 := ha 0 _ v1 rfl rfl
    have r2 := ha 1 _ v2 rfl rfl
    cases r2
    obtain ⟨A, cap, rfl, hc, hcells⟩ := snap_inv r1
    obtain ⟨bk, o, rfl, hbk, hx⟩ := hcells h0
    exact (Tryz.strings_Join bk o cap xs sep w hx hbk hN hc hlen).mono fun e w' ⟨he, hb⟩ => ⟨_, he, ext_below hb, .v _⟩
end Go.Proofs.YtbcamncabckbnaaGreatDoor
