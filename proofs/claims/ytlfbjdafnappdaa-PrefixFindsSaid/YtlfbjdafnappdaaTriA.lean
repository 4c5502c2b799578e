/-
  Tries in the program: the walk of All.
-/
import Derived.Test.YtlfbjdafnappdaaTriW
import Derived.Test.YtlfbjdafnappdaaCallG
import Derived.Test.YtlfbjdafnappdaaNamN
namespace Go.Proofs.Ytlfbjdafnappdaa
set_option linter.unusedVariables false
set_option linter.unusedSimpArgs false
/-- Nets of rows; values of rows. -/
abbrev ntR (X : List Rw) : List (List DV) := X.map fun r => ntC (netA r.1) r.1.length
abbrev vlR (X : List Rw) : List (List DV) := X.map fun r => [.v (.int .i64 r.2)]
abbrev cN (n m k : Nat) : AObj := ⟨n, 1, [[.sl 6 m 2 0 k false]]⟩
abbrev cV (n m k : Nat) : AObj := ⟨n, 1, [[.sl 8 m 1 0 k false]]⟩
abbrev cW (nN nV n : Nat) : AObj := ⟨n, 1, [[.fn (.func 24) [] [.ptr 1 nN 1 0 0, .ptr 2 nV 1 0 0, .ptr 3 n 1 0 0]]]⟩
abbrev hAll (nN nV nW rN rV : Nat) (X : List Rw) : HL := [none, some (cN nN rN X.length), some (cV nV rV X.length), some (cW nN nV nW), none, none, some ⟨rN, 2, ntR X⟩, none, some ⟨rV, 1, vlR X⟩]
abbrev AllS (T : Tr) (b : B8) (nN nV nW rN rV : Nat) (X : List Rw) : Prop := MSpec Try.prog 24 [dTr T, dNt (netA b) b.length, .ptr 1 nN 1 0 0, .ptr 2 nV 1 0 0, .ptr 3 nW 1 0 0] (hAll nN nV nW rN rV X) 2 (fun m d H => d = .tup [] ∧ H = hAll nN nV nW m (m + 1) (X ++ rowsT T b))
theorem ntR_len (X : List Rw) : (ntR X).length = X.length := List.length_map _
theorem vlR_len (X : List Rw) : (vlR X).length = X.length := List.length_map _
theorem ntR_nf (X : List Rw) (g : Nat) : nfLL g (ntR X) := nfLL_map (fun x => by simp [nfL, nfD])
theorem vlR_nf (X : List Rw) (g : Nat) : nfLL g (vlR X) := nfLL_map (fun x => by simp [nfL, nfD])
theorem ntR_one (X : List Rw) : allOnes (ntR X) = true := allOnes_map (f := fun r : Rw => ntC (netA r.1) r.1.length) (fun x => rfl) X
theorem vlR_one (X : List Rw) : allOnes (vlR X) = true := allOnes_map (f := fun r : Rw => [DV.v (.int .i64 r.2)]) (fun x => rfl) X
theorem ntR_snoc (X : List Rw) (b : B8) (v : Int) : ntR X ++ [ntC (netA b) b.length] = ntR (X ++ [(b, v)]) := by simp [ntR]
theorem vlR_snoc (X : List Rw) (b : B8) (v : Int) : vlR X ++ [[.v (.int .i64 v)]] = vlR (X ++ [(b, v)]) := by simp [vlR]
/-- The rows under new names. -/
theorem le_all {tm : Env} {g nN nV rN rV l1 l2 : Nat} {o0 o3 o4 o5 o7 : Option AObj} {R1 R2 : List (List DV)} {T : HL} : Le ⟨tm, o0 :: some (cN nN rN l1) :: some (cV nV rV l2) :: o3 :: o4 :: o5 :: some ⟨rN, 2, R1⟩ :: o7 :: some ⟨rV, 1, R2⟩ :: T, g⟩ ⟨tm, o0 :: some (cN nN g l1) :: some (cV nV (g + 1) l2) :: o3 :: o4 :: o5 :: some ⟨g, 2, R1⟩ :: o7 :: some ⟨g + 1, 1, R2⟩ :: T, g + 2⟩ := by
  refine le_names (st := ⟨tm, o0 :: some (cN nN rN l1) :: some (cV nV rV l2) :: o3 :: o4 :: o5 :: some ⟨rN, 2, R1⟩ :: o7 :: some ⟨rV, 1, R2⟩ :: T, g⟩) (fun j => if j = 0 then rN else rV) 2 (fun i p hp => ?_)
  match i, hp with
  | 0, hp => exact ⟨p, hp, .inl rfl⟩
  | 1, hp =>
    refine ⟨_, rfl, .inr ?_⟩
    obtain rfl := Option.some.inj hp
    refine ⟨.inl rfl, by show 0 < 1; omega, rfl, rfl, fun i y hy => ?_⟩
    match i, hy with
    | 0, hy =>
      obtain rfl := Option.some.inj hy
      refine ⟨_, rfl, rfl, fun t e he => ?_⟩
      match t, he with
      | 0, he =>
        obtain rfl := Option.some.inj he
        exact ⟨_, rfl, .inr ⟨0, _, _, _, _, _, _, by omega, rfl, rfl⟩⟩
      | t + 1, he => simp at he
    | i + 1, hy => simp at hy
  | 2, hp =>
    refine ⟨_, rfl, .inr ?_⟩
    obtain rfl := Option.some.inj hp
    refine ⟨.inl rfl, by show 0 < 1; omega, rfl, rfl, fun i y hy => ?_⟩
    match i, hy with
    | 0, hy =>
      obtain rfl := Option.some.inj hy
      refine ⟨_, rfl, rfl, fun t e he => ?_⟩
      match t, he with
      | 0, he =>
        obtain rfl := Option.some.inj he
        exact ⟨_, rfl, .inr ⟨1, _, _, _, _, _, _, by omega, rfl, rfl⟩⟩
      | t + 1, he => simp at he
    | i + 1, hy => simp at hy
  | 3, hp => exact ⟨p, hp, .inl rfl⟩
  | 4, hp => exact ⟨p, hp, .inl rfl⟩
  | 5, hp => exact ⟨p, hp, .inl rfl⟩
  | 6, hp =>
    refine ⟨_, rfl, .inr ?_⟩
    obtain rfl := Option.some.inj hp
    exact ⟨.inr ⟨0, by omega, rfl, rfl⟩, by show 0 < 2; omega, rfl, rfl, fun i y hy => ⟨y, hy, rfl, fun t e he => ⟨e, he, .inl rfl⟩⟩⟩
  | 7, hp => exact ⟨p, hp, .inl rfl⟩
  | 8, hp =>
    refine ⟨_, rfl, .inr ?_⟩
    obtain rfl := Option.some.inj hp
    exact ⟨.inr ⟨1, by omega, rfl, rfl⟩, by show 0 < 1; omega, rfl, rfl, fun i y hy => ⟨y, hy, rfl, fun t e he => ⟨e, he, .inl rfl⟩⟩⟩
  | i + 9, hp => exact ⟨p, hp, .inl rfl⟩
theorem all_nil (b : B8) (nN nV nW rN rV : Nat) (X : List Rw) : AllS .nil b nN nV nW rN rV X := by
  show MSpec Try.prog 24 [dTr .nil, dNt (netA b) b.length, .ptr 1 nN 1 0 0, .ptr 2 nV 1 0 0, .ptr 3 nW 1 0 0] (hAll nN nV nW rN rV X) 2 (fun m d H => d = .tup [] ∧ H = hAll nN nV nW m (m + 1) (X ++ []))
  rw [List.append_nil]
  simp only [dTr]
  refine mspec_fn Try.func24 rfl ok_prefix_All_1 okr_prefix_All_1 rfl (by kernel_rfl) ?_
  intro Γ hW0 hN0 hL0
  clear hW0
  unfold x_prefix_All_1 r_prefix_All_1
  with_reducible refine auC ?_
  have hnN : nN < Γ.g0 := hN0 1 _ rfl
  have hnV : nV < Γ.g0 := hN0 2 _ rfl
  have hnW : nW < Γ.g0 := hN0 3 _ rfl
  repeat' (first
    | (with_reducible refine auS ?_)
    | fail
    | (with_reducible refine auD ?_)
    | ((with_reducible refine auB ?_ ?_); all_goals first | (intro h; first | exact auH | simp only [h, runR_t, runR_f] | skip) | skip)
    | fail)
  (all_goals first | exact auP | skip)
  refine retqm_le (le_leG le_all) ?_
  refine ret_m [9, 1, 2, 3, 10, 11, 6, 12, 8] [Γ.g0 + 1, Γ.g0 + 2] ?_ (by decide) rfl (fun a ha => ?_) (fun m => ?_) (fun m => ?_)
  · exact trivial
  · simp at ha
    rcases ha with rfl | rfl
    · exact ⟨6, _, rfl, rfl⟩
    · exact ⟨8, _, rfl, rfl⟩
  · exact rfl
  · refine ⟨⟨.inr ⟨hnN, rfl⟩, rfl, ?_⟩, ⟨.inr ⟨hnV, rfl⟩, rfl, ?_⟩, ⟨.inr ⟨hnW, rfl⟩, rfl, ?_⟩, ⟨.inl ⟨0, rfl, rfl⟩, rfl, renMLL_nf _ (ntR_nf _ _)⟩, ⟨.inl ⟨1, rfl, rfl⟩, rfl, renMLL_nf _ (vlR_nf _ _)⟩, rfl⟩
    · refine ⟨⟨⟨6, m, .inl ⟨0, rfl, rfl⟩, rfl⟩, rfl⟩, rfl⟩
    · refine ⟨⟨⟨8, m + 1, .inl ⟨1, rfl, rfl⟩, rfl⟩, rfl⟩, rfl⟩
    · refine ⟨⟨⟨rfl, ?_⟩, rfl⟩, rfl⟩
      exact ⟨trivial, hnN, hnV, hnW, trivial⟩
theorem rowsT_len : ∀ (T : Tr) (b : B8), (rowsT T b).length ≤ T.size
  | .nil, _ => Nat.le_refl _
  | .node l r s v, b => by
    have h1 := rowsT_len l (b ++ [48])
    have h2 := rowsT_len r (b ++ [49])
    cases s <;> simp [rowsT, Tr.size] <;> omega
theorem or_net (b : B8) (hb : b.length ≤ 31) : bits .or .u32 ((netA b : Nat) : Int) ((2 ^ (31 - b.length) : Nat) : Int) = ((netA (b ++ [49]) : Nat) : Int) := by
  have h1 := netA_lt b
  have h2 : 2 ^ (31 - b.length) < 2 ^ 32 := Nat.pow_lt_pow_right (by decide) (by omega)
  rw [Go.u32_or_nat _ _ h1 h2, netA_1 b hb, netA_mul b (by omega)]
  have h3 : 2 ^ (31 - b.length) < 2 ^ (32 - b.length) := Nat.pow_lt_pow_right (by decide) (by omega)
  rw [Nat.mul_comm, Nat.two_pow_add_eq_or_of_lt h3]
set_option maxHeartbeats 4000000 in
theorem all_node (l r : Tr) (s : Bool) (v : Int) (b : B8) (nN nV nW rN rV : Nat) (X : List Rw) (hd : b.length + (Tr.node l r s v).deep ≤ 33) (hX : X.length + (Tr.node l r s v).size ≤ 1000)
    (ihl : ∀ (b : B8) (rN rV : Nat) (X : List Rw), b.length + l.deep ≤ 33 → X.length + l.size ≤ 1000 → AllS l b nN nV nW rN rV X)
    (ihr : ∀ (b : B8) (rN rV : Nat) (X : List Rw), b.length + r.deep ≤ 33 → X.length + r.size ≤ 1000 → AllS r b nN nV nW rN rV X) : AllS (.node l r s v) b nN nV nW rN rV X := by
  simp only [Tr.deep] at hd
  simp only [Tr.size] at hX
  have hl1 : (b ++ [48]).length = b.length + 1 := by simp
  have hl2 : (b ++ [49]).length = b.length + 1 := by simp
  have hrl := rowsT_len l (b ++ [48])
  have e1 : IntKind.i64.wrap ((b.length : Int) + 1) = ((b.length + 1 : Nat) : Int) := (IntWalk.i64_in _ (by omega)).trans (by omega)
  have hsA := ntR_snoc X b v
  have hsB := vlR_snoc X b v
  have hlA := ntR_len X
  have hlB := vlR_len X
  have hoA := ntR_one X
  have hoB := vlR_one X
  have hrm : X.length < 1000 := by omega
  obtain ⟨X1, hX1⟩ : ∃ X1, X1 = X ++ if s = true then [(b, v)] else [] := ⟨_, rfl⟩
  have hXl : X1.length ≤ X.length + 1 := by rw [hX1]; cases s <;> simp
  have c1 := fun rN rV => ihl (b ++ [48]) rN rV X1 (by omega) (by omega)
  simp only [AllS, netA_0, hl1] at c1
  have hout : X ++ rowsT (.node l r s v) b = X1 ++ rowsT l (b ++ [48]) ++ rowsT r (b ++ [49]) := by rw [hX1]; simp [rowsT]
  unfold AllS
  rw [hout]
  cases r with
  | nil =>
    simp only [dTr, rowsT, List.append_nil]
    have c2 := c1
    cases s
    · obtain rfl : X1 = X := hX1.trans (List.append_nil _)
      refine mspec_fn Try.func24 rfl ok_prefix_All_1 okr_prefix_All_1 rfl (by kernel_rfl) ?_
      intro Γ hW0 hN0 hL0
      clear hW0
      unfold x_prefix_All_1 r_prefix_All_1
      with_reducible refine auC ?_
      have hnN : nN < Γ.g0 := hN0 1 _ rfl
      have hnV : nV < Γ.g0 := hN0 2 _ rfl
      have hnW : nW < Γ.g0 := hN0 3 _ rfl
      repeat' (first
        | (with_reducible refine auS ?_)
        | (first | (simp only [e1, hlA, hlB, e1]) | ((with_reducible refine atCall 24 ?_); first | (refine runR_callG [9, 1, 2, 3, 10, 11, 6, 12, 8] [] [9, 1, 2, 3, 10, 11, 6, 12, 8] rfl (by decide) rfl rfl (c1 _ _) ?_) | (refine runR_callG [9, 1, 2, 3, 10, 11, 6, 12, 8] [] [9, 1, 2, 3, 10, 11, 6, 12, 8] rfl (by decide) rfl rfl (c2 _ _) ?_)))
        | (with_reducible refine auD ?_)
        | ((with_reducible refine auB ?_ ?_); all_goals first | (intro h; first | exact auH | simp only [h, runR_t, runR_f] | skip) | skip)
        | (first | ((with_reducible refine atN ?_); first | (refine runR_n ⟨by trivial, by trivial, by trivial, by trivial, hlA.symm⟩ ?_) | (refine runR_n ⟨by trivial, by trivial, by trivial, by trivial, hlB.symm⟩ ?_) | (refine runR_n ⟨by trivial, by (try rw [hlA]); (try rw [hlB]); unfold room maxLen; simp only [List.length_cons, List.length_nil]; omega⟩ ?_)) | fail))
      (all_goals first | exact auP | skip)
      refine ret_m [9, 1, 2, 3, 10, 11, 6, 12, 8] [Γ.g0 + 1, Γ.g0 + 1 + 1] ?_ (by decide) rfl (fun a ha => ?_) (fun m => ?_) (fun m => ?_)
      · exact trivial
      · simp at ha
        rcases ha with rfl | rfl
        · exact ⟨6, _, rfl, rfl⟩
        · exact ⟨8, _, rfl, rfl⟩
      · exact rfl
      · refine ⟨⟨.inr ⟨hnN, rfl⟩, rfl, ?_⟩, ⟨.inr ⟨hnV, rfl⟩, rfl, ?_⟩, ⟨.inr ⟨hnW, rfl⟩, rfl, ?_⟩, ⟨.inl ⟨0, rfl, rfl⟩, rfl, renMLL_nf _ (ntR_nf _ _)⟩, ⟨.inl ⟨1, rfl, rfl⟩, rfl, renMLL_nf _ (vlR_nf _ _)⟩, rfl⟩
        · refine ⟨⟨⟨6, m, .inl ⟨0, rfl, rfl⟩, rfl⟩, rfl⟩, rfl⟩
        · refine ⟨⟨⟨8, m + 1, .inl ⟨1, rfl, rfl⟩, rfl⟩, rfl⟩, rfl⟩
        · refine ⟨⟨⟨rfl, ?_⟩, rfl⟩, rfl⟩
          exact ⟨trivial, hnN, hnV, hnW, trivial⟩
    · have hX1 : X1 = X ++ [(b, v)] := hX1
      have hlen : X.length + 1 = X1.length := by rw [hX1]; simp
      rw [← hX1] at hsA hsB
      refine mspec_fn Try.func24 rfl ok_prefix_All_1 okr_prefix_All_1 rfl (by kernel_rfl) ?_
      intro Γ hW0 hN0 hL0
      clear hW0
      unfold x_prefix_All_1 r_prefix_All_1
      with_reducible refine auC ?_
      have hnN : nN < Γ.g0 := hN0 1 _ rfl
      have hnV : nV < Γ.g0 := hN0 2 _ rfl
      have hnW : nW < Γ.g0 := hN0 3 _ rfl
      repeat' (first
        | (with_reducible refine auS ?_)
        | (first | (simp only [e1, hlA, hlB, hsA, hsB, hlen]) | ((with_reducible refine atCall 24 ?_); first | (refine runR_callG [9, 1, 2, 3, 10, 11, 6, 12, 8] [] [9, 1, 2, 3, 10, 11, 6, 12, 8] rfl (by decide) rfl rfl (c1 _ _) ?_) | (refine runR_callG [9, 1, 2, 3, 10, 11, 6, 12, 8] [] [9, 1, 2, 3, 10, 11, 6, 12, 8] rfl (by decide) rfl rfl (c2 _ _) ?_)))
        | (with_reducible refine auD ?_)
        | ((with_reducible refine auB ?_ ?_); all_goals first | (intro h; first | exact auH | simp only [h, runR_t, runR_f] | skip) | skip)
        | (first | ((with_reducible refine atN ?_); first | (refine runR_n ⟨by trivial, by trivial, by trivial, by trivial, hlA.symm⟩ ?_) | (refine runR_n ⟨by trivial, by trivial, by trivial, by trivial, hlB.symm⟩ ?_) | (refine runR_n ⟨by trivial, by (try rw [hlA]); (try rw [hlB]); unfold room maxLen; simp only [List.length_cons, List.length_nil]; omega⟩ ?_)) | fail))
      (all_goals first | exact auP | skip)
      refine ret_m [9, 1, 2, 3, 10, 11, 6, 12, 8] [Γ.g0 + 5, Γ.g0 + 5 + 1] ?_ (by decide) rfl (fun a ha => ?_) (fun m => ?_) (fun m => ?_)
      · exact trivial
      · simp at ha
        rcases ha with rfl | rfl
        · exact ⟨6, _, rfl, rfl⟩
        · exact ⟨8, _, rfl, rfl⟩
      · exact rfl
      · refine ⟨⟨.inr ⟨hnN, rfl⟩, rfl, ?_⟩, ⟨.inr ⟨hnV, rfl⟩, rfl, ?_⟩, ⟨.inr ⟨hnW, rfl⟩, rfl, ?_⟩, ⟨.inl ⟨0, rfl, rfl⟩, rfl, renMLL_nf _ (ntR_nf _ _)⟩, ⟨.inl ⟨1, rfl, rfl⟩, rfl, renMLL_nf _ (vlR_nf _ _)⟩, rfl⟩
        · refine ⟨⟨⟨6, m, .inl ⟨0, rfl, rfl⟩, rfl⟩, rfl⟩, rfl⟩
        · refine ⟨⟨⟨8, m + 1, .inl ⟨1, rfl, rfl⟩, rfl⟩, rfl⟩, rfl⟩
        · refine ⟨⟨⟨rfl, ?_⟩, rfl⟩, rfl⟩
          exact ⟨trivial, hnN, hnV, hnW, trivial⟩
  | node rl rr rs rv =>
    simp only [Tr.deep] at hd
    have c2 := fun rN rV => ihr (b ++ [49]) rN rV (X1 ++ rowsT l (b ++ [48])) (by simp only [Tr.deep]; omega) (by simp only [List.length_append]; omega)
    simp only [AllS, hl2, dTr] at c2
    have e2 : IntKind.i64.wrap (32 - ((b.length + 1 : Nat) : Int)) = ((31 - b.length : Nat) : Int) := by rw [IntWalk.i64_in _ (by omega)]; omega
    have e3 := min_u32 (show 31 - b.length ≤ 32 by omega)
    have hp : 2 ^ (31 - b.length) < 2 ^ 32 := Nat.pow_lt_pow_right (by decide) (by omega)
    have hp0 := Nat.two_pow_pos (31 - b.length)
    have e4 : IntKind.u32.wrap (1 * 2 ^ (31 - b.length)) = ((2 ^ (31 - b.length) : Nat) : Int) := by rw [Int.one_mul, pow_int]; exact IntWalk.u32_in _ (by omega)
    have e5 := or_net b (by omega)
    simp only [dTr]
    cases s
    · obtain rfl : X1 = X := hX1.trans (List.append_nil _)
      refine mspec_fn Try.func24 rfl ok_prefix_All_1 okr_prefix_All_1 rfl (by kernel_rfl) ?_
      intro Γ hW0 hN0 hL0
      clear hW0
      unfold x_prefix_All_1 r_prefix_All_1
      with_reducible refine auC ?_
      have hnN : nN < Γ.g0 := hN0 1 _ rfl
      have hnV : nV < Γ.g0 := hN0 2 _ rfl
      have hnW : nW < Γ.g0 := hN0 3 _ rfl
      repeat' (first
        | (with_reducible refine auS ?_)
        | (first | (simp only [e1, hlA, hlB, e2, e3, e4, e5, Int.toNat_natCast]) | ((with_reducible refine atCall 24 ?_); first | (refine runR_callG [9, 1, 2, 3, 10, 11, 6, 12, 8] [] [9, 1, 2, 3, 10, 11, 6, 12, 8] rfl (by decide) rfl rfl (c1 _ _) ?_) | (refine runR_callG [9, 1, 2, 3, 10, 11, 6, 12, 8] [] [9, 1, 2, 3, 10, 11, 6, 12, 8] rfl (by decide) rfl rfl (c2 _ _) ?_)))
        | (with_reducible refine auD ?_)
        | ((with_reducible refine auB ?_ ?_); all_goals first | (intro h; first | exact auH | simp only [h, runR_t, runR_f] | skip) | skip)
        | (first | ((with_reducible refine atN ?_); first | (refine runR_n ⟨by trivial, by trivial, by trivial, by trivial, hlA.symm⟩ ?_) | (refine runR_n ⟨by trivial, by trivial, by trivial, by trivial, hlB.symm⟩ ?_) | (refine runR_n ⟨by trivial, by (try rw [hlA]); (try rw [hlB]); unfold room maxLen; simp only [List.length_cons, List.length_nil]; omega⟩ ?_)) | fail))
      (all_goals first | exact auP | skip)
      refine ret_m [9, 1, 2, 3, 10, 11, 6, 12, 8] [Γ.g0 + 3, Γ.g0 + 3 + 1] ?_ (by decide) rfl (fun a ha => ?_) (fun m => ?_) (fun m => ?_)
      · exact trivial
      · simp at ha
        rcases ha with rfl | rfl
        · exact ⟨6, _, rfl, rfl⟩
        · exact ⟨8, _, rfl, rfl⟩
      · exact rfl
      · refine ⟨⟨.inr ⟨hnN, rfl⟩, rfl, ?_⟩, ⟨.inr ⟨hnV, rfl⟩, rfl, ?_⟩, ⟨.inr ⟨hnW, rfl⟩, rfl, ?_⟩, ⟨.inl ⟨0, rfl, rfl⟩, rfl, renMLL_nf _ (ntR_nf _ _)⟩, ⟨.inl ⟨1, rfl, rfl⟩, rfl, renMLL_nf _ (vlR_nf _ _)⟩, rfl⟩
        · refine ⟨⟨⟨6, m, .inl ⟨0, rfl, rfl⟩, rfl⟩, rfl⟩, rfl⟩
        · refine ⟨⟨⟨8, m + 1, .inl ⟨1, rfl, rfl⟩, rfl⟩, rfl⟩, rfl⟩
        · refine ⟨⟨⟨rfl, ?_⟩, rfl⟩, rfl⟩
          exact ⟨trivial, hnN, hnV, hnW, trivial⟩
    · have hX1 : X1 = X ++ [(b, v)] := hX1
      have hlen : X.length + 1 = X1.length := by rw [hX1]; simp
      rw [← hX1] at hsA hsB
      refine mspec_fn Try.func24 rfl ok_prefix_All_1 okr_prefix_All_1 rfl (by kernel_rfl) ?_
      intro Γ hW0 hN0 hL0
      clear hW0
      unfold x_prefix_All_1 r_prefix_All_1
      with_reducible refine auC ?_
      have hnN : nN < Γ.g0 := hN0 1 _ rfl
      have hnV : nV < Γ.g0 := hN0 2 _ rfl
      have hnW : nW < Γ.g0 := hN0 3 _ rfl
      repeat' (first
        | (with_reducible refine auS ?_)
        | (first | (simp only [e1, hlA, hlB, hsA, hsB, hlen, e2, e3, e4, e5, Int.toNat_natCast]) | ((with_reducible refine atCall 24 ?_); first | (refine runR_callG [9, 1, 2, 3, 10, 11, 6, 12, 8] [] [9, 1, 2, 3, 10, 11, 6, 12, 8] rfl (by decide) rfl rfl (c1 _ _) ?_) | (refine runR_callG [9, 1, 2, 3, 10, 11, 6, 12, 8] [] [9, 1, 2, 3, 10, 11, 6, 12, 8] rfl (by decide) rfl rfl (c2 _ _) ?_)))
        | (with_reducible refine auD ?_)
        | ((with_reducible refine auB ?_ ?_); all_goals first | (intro h; first | exact auH | simp only [h, runR_t, runR_f] | skip) | skip)
        | (first | ((with_reducible refine atN ?_); first | (refine runR_n ⟨by trivial, by trivial, by trivial, by trivial, hlA.symm⟩ ?_) | (refine runR_n ⟨by trivial, by trivial, by trivial, by trivial, hlB.symm⟩ ?_) | (refine runR_n ⟨by trivial, by (try rw [hlA]); (try rw [hlB]); unfold room maxLen; simp only [List.length_cons, List.length_nil]; omega⟩ ?_)) | fail))
      (all_goals first | exact auP | skip)
      refine ret_m [9, 1, 2, 3, 10, 11, 6, 12, 8] [Γ.g0 + 7, Γ.g0 + 7 + 1] ?_ (by decide) rfl (fun a ha => ?_) (fun m => ?_) (fun m => ?_)
      · exact trivial
      · simp at ha
        rcases ha with rfl | rfl
        · exact ⟨6, _, rfl, rfl⟩
        · exact ⟨8, _, rfl, rfl⟩
      · exact rfl
      · refine ⟨⟨.inr ⟨hnN, rfl⟩, rfl, ?_⟩, ⟨.inr ⟨hnV, rfl⟩, rfl, ?_⟩, ⟨.inr ⟨hnW, rfl⟩, rfl, ?_⟩, ⟨.inl ⟨0, rfl, rfl⟩, rfl, renMLL_nf _ (ntR_nf _ _)⟩, ⟨.inl ⟨1, rfl, rfl⟩, rfl, renMLL_nf _ (vlR_nf _ _)⟩, rfl⟩
        · refine ⟨⟨⟨6, m, .inl ⟨0, rfl, rfl⟩, rfl⟩, rfl⟩, rfl⟩
        · refine ⟨⟨⟨8, m + 1, .inl ⟨1, rfl, rfl⟩, rfl⟩, rfl⟩, rfl⟩
        · refine ⟨⟨⟨rfl, ?_⟩, rfl⟩, rfl⟩
          exact ⟨trivial, hnN, hnV, hnW, trivial⟩
theorem all_any : ∀ (T : Tr) (b : B8) (nN nV nW rN rV : Nat) (X : List Rw), b.length + T.deep ≤ 33 → X.length + T.size ≤ 1000 → AllS T b nN nV nW rN rV X
  | .nil, b, nN, nV, nW, rN, rV, X, _, _ => all_nil b nN nV nW rN rV X
  | .node l r s v, b, nN, nV, nW, rN, rV, X, hd, hX => all_node l r s v b nN nV nW rN rV X hd hX (fun b rN rV X => all_any l b nN nV nW rN rV X) (fun b rN rV X => all_any r b nN nV nW rN rV X)
end Go.Proofs.Ytlfbjdafnappdaa
