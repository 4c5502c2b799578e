/-
  Tries in the program: trees that are a call's own; how nodes grow into one.
-/
import Derived.Test.YtlfbjdafnappdaaCodeY
import Derived.Test.YtlfbjdafnappdaaGen
import Derived.Test.YtlfbjdafnappdaaCallG
import Derived.Test.YtlfbjdafnappdaaNamN
import Derived.Test.YtlfbjdafnappdaaPutP
namespace Go.Proofs.Ytlfbjdafnappdaa
set_option linter.unusedVariables false
set_option linter.unusedSimpArgs false
abbrev Nd.enc (x : Nd) : List DV := [.v (.int .i64 x.a), .v (.int .i64 x.b), .v (.bool x.s), .v (.int .i64 x.v)]
def dTr : Tr → DV
  | .nil => .v (.pointer none)
  | .node l r s v => .rptr [dTr l, dTr r, .v (.bool s), .v (.int .i64 v)]
theorem dTr_nf : ∀ (T : Tr) (g : Nat), nfD g (dTr T)
  | .nil, g => by simp [dTr, nfD]
  | .node l r s v, g => by simp [dTr, nfD, nfL, dTr_nf l g, dTr_nf r g]
/-- A tree of objects, each node one, named from m on, ahead of what lies below it. -/
def spD : Tr → Nat → DV
  | .nil, _ => .v (.pointer none)
  | .node _ _ _ _, m => .ptr 0 m 4 0 0
abbrev spC (l r : Tr) (s : Bool) (v : Int) (m : Nat) : List DV := [spD l (m + 1), spD r (m + 1 + l.size), .v (.bool s), .v (.int .i64 v)]
def spH : Tr → Nat → HL
  | .nil, _ => []
  | .node l r s v, m => some ⟨m, 4, [spC l r s v m]⟩ :: (spH l (m + 1) ++ spH r (m + 1 + l.size))
theorem spH_len : ∀ (T : Tr) (m : Nat), (spH T m).length = T.size
  | .nil, _ => rfl
  | .node l r s v, m => by
    have h1 := spH_len l (m + 1)
    have h2 := spH_len r (m + 1 + l.size)
    simp only [spH, Tr.size, List.length_cons, List.length_append, h1, h2]
    omega
theorem renH_app {g n : Nat} {ns : List Nat} : ∀ {x y u v : HL}, renH g ns n x y → renH g ns n u v → renH g ns n (x ++ u) (y ++ v)
  | [], y, u, v, h1, h2 => by
    simp only [renH] at h1
    subst h1
    exact h2
  | none :: x, [], u, v, h1, h2 => by simp [renH] at h1
  | none :: x, none :: y, u, v, h1, h2 => by
    simp only [renH] at h1
    simp only [List.cons_append, renH]
    exact renH_app h1 h2
  | none :: x, some _ :: y, u, v, h1, h2 => by simp [renH] at h1
  | some o :: x, [], u, v, h1, h2 => by simp [renH] at h1
  | some o :: x, none :: y, u, v, h1, h2 => by simp [renH] at h1
  | some o :: x, some p :: y, u, v, h1, h2 => by
    simp only [renH] at h1
    simp only [List.cons_append, renH]
    exact ⟨h1.1, renH_app h1.2 h2⟩
/-- The names that the maker of a tree gave, told as its caller's. -/
theorem ren_tr : ∀ (T : Tr) (g0 : Nat) (ns : List Nat) (n a b : Nat), (∀ k, k < T.size → renN g0 ns n (a + k) (b + k)) → renM g0 ns n (spD T a) (spD T b) ∧ renH g0 ns n (spH T a) (spH T b)
  | .nil, g0, ns, n, a, b, _ => ⟨⟨rfl, trivial⟩, rfl⟩
  | .node l r s v, g0, ns, n, a, b, h => by
    simp only [Tr.size] at h
    have h0 := h 0 (by omega)
    rw [Nat.add_zero, Nat.add_zero] at h0
    obtain ⟨l1, l2⟩ := ren_tr l g0 ns n (a + 1) (b + 1) (fun k hk => by
      have := h (1 + k) (by omega)
      rwa [show b + (1 + k) = b + 1 + k by omega, show a + (1 + k) = a + 1 + k by omega] at this)
    obtain ⟨r1, r2⟩ := ren_tr r g0 ns n (a + 1 + l.size) (b + 1 + l.size) (fun k hk => by
      have := h (1 + l.size + k) (by omega)
      rwa [show b + (1 + l.size + k) = b + 1 + l.size + k by omega, show a + (1 + l.size + k) = a + 1 + l.size + k by omega] at this)
    exact ⟨⟨0, b, h0, rfl⟩, ⟨h0, rfl, ⟨⟨l1, r1, ⟨rfl, trivial⟩, ⟨rfl, trivial⟩, rfl⟩, rfl⟩⟩, renH_app l2 r2⟩
theorem ren_sp (T : Tr) (g0 : Nat) (ns : List Nat) (n a o : Nat) (h : ∀ k, k < T.size → ns[o + k]? = some (a + k)) : renM g0 ns n (spD T a) (spD T (n + o)) ∧ renH g0 ns n (spH T a) (spH T (n + o)) :=
  ren_tr T g0 ns n a (n + o) (fun k hk => .inl ⟨o + k, h k hk, by omega⟩)
theorem ren_old (T : Tr) (g0 : Nat) (ns : List Nat) (n a : Nat) (h : ∀ k, k < T.size → a + k < g0) : renM g0 ns n (spD T a) (spD T a) ∧ renH g0 ns n (spH T a) (spH T a) :=
  ren_tr T g0 ns n a a (fun k hk => .inr ⟨h k hk, rfl⟩)
end Go.Proofs.Ytlfbjdafnappdaa
