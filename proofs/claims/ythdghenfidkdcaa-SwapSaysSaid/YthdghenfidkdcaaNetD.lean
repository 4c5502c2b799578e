/-
  The datagrams' own word at a place.
-/
import Derived.Test.YthdghenfidkdcaaNetX
namespace Go.Proofs.Ythdghenfidkdcaa
set_option linter.unusedVariables false
set_option linter.unusedSimpArgs false
theorem dwordAt_spec (l : List UInt8) (i : Nat) (hi : i + 1 < l.length) (hl : l.length ≤ 9223372036854775806) (ii : Int) (hii : ii = (i : Nat)) : Spec Try.prog 29 [.v (.string (mkS l)), .v (.int .i64 ii)] (.v (.int .i64 (wordAtI l i))) := by
  subst hii
  have hb := bN_lt l i
  have hb2 := bN_lt l (i + 1)
  have e1 : IntKind.i64.wrap (bN l i : Nat) = (bN l i : Nat) := IntWalk.i64_in _ (by omega)
  have e2 : IntKind.i64.wrap (bN l (i + 1) : Nat) = (bN l (i + 1) : Nat) := IntWalk.i64_in _ (by omega)
  have e3 : IntKind.i64.wrap ((i : Int) + 1) = ((i + 1 : Nat) : Int) := by rw [IntWalk.i64_in _ (by omega)]; omega
  have e5 : bits .or .i64 (IntKind.i64.wrap ((bN l i : Nat) * 2 ^ 8)) (bN l (i + 1) : Nat) = wordAtI l i := word_i64 _ _ (by omega) (by omega) (by omega) (by omega)
  refine hspec_fn Try.func29 rfl ok_dgram_wordAt okr_dgram_wordAt rfl (by kernel_rfl) ?_
  intro Γ hW0 hN0 hL0
  have hW := hW0 rfl
  clear hW0 hN0 hL0
  unfold x_dgram_wordAt r_dgram_wordAt
  repeat' (first
    | (with_reducible first | refine go_seq ?_ | refine go_region ?_ | refine go_regionD mixed_ok ?_ | refine go_cond ?_ | refine go_skip ?_ | refine go_block ?_ | refine nx_code ?_ | refine nx_block ?_ | refine go_ret ?_ | refine nx_nil ?_ | refine go_exit ?_ | refine ex_code ?_ | refine ex_loop ?_ | refine ex_here ?_)
    | ((with_reducible refine ex_past ?_ ?_); (exact by decide))
    | ((with_reducible refine endD_intro ?_ ?_); (exact by kernel_rfl))
    | ((with_reducible refine runR_n ?_ ?_); exact auN)
    | (simp only [mkS_size, mkS_at, min8, e1, e2, e3, e5, Int.toNat_natCast])
    | (refine auD ?_)
    | (with_reducible refine runR_b (fun h => ?_) (fun h => ?_) <;> first | exact auH | simp only [h, runR_t, runR_f])
    | (with_reducible refine condK_bl ?_ ?_)
    | (with_reducible refine condK_b (fun h => ?_) (fun h => ?_) <;> first | exact auH | skip)
    | fail)
  (all_goals first | exact auP | skip)
  all_goals with_reducible refine ret_spec2 (by (try dsimp only [RetOK, resOk, resDs, resD, resV, cellV, cellO, cellP, cellOk, htake, nfD, nfL, nfLL, nfH, lget, partOf, xget, ddrop, dtake, dget, Env.get, N8.get, env0, List.length_cons, List.length_nil, Env.set, N8.set, lset, updL]); (repeat' (first | exact trivial | exact rfl | exact nfLL_map (fun x => by simp [nfL, nfD, nfD]) | decide | apply And.intro))) ?_
  all_goals (try dsimp only [RetOK, resOk, resDs, resD, resV, cellV, cellO, cellP, cellOk, htake, nfD, nfL, nfLL, nfH, lget, partOf, xget, ddrop, dtake, dget, Env.get, N8.get, env0, List.length_cons, List.length_nil, Env.set, N8.set, lset, updL])
  all_goals (try simp only [hsM] at *)
end Go.Proofs.Ythdghenfidkdcaa
