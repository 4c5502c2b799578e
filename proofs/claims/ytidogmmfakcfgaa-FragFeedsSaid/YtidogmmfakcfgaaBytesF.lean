/-
  The reference's Bytes and Word: numbers as a text of bytes.
-/
import Derived.Test.YtidogmmfakcfgaaCodeQ
import Derived.Test.YtidogmmfakcfgaaStr
namespace Go.Proofs.Ytidogmmfakcfgaa
set_option linter.unusedVariables false
set_option linter.unusedSimpArgs false
def u8 (a : Int) : UInt8 := UInt8.ofNat (a % 256).toNat
theorem u8_wrap (a : Int) : UInt8.ofNat (IntKind.u8.wrap a).toNat = u8 a := by rw [IntKind.wrap_u8]; rfl
theorem u8_nat (a : Int) : ((u8 a).toNat : Int) = a % 256 := by
  unfold u8
  have h : (a % 256).toNat < 256 := by omega
  rw [UInt8.toNat_ofNat', Nat.mod_eq_of_lt h]
  omega
theorem xset_repl (z y : List DV) (m : Nat) : ∀ A : List (List DV), xset (A ++ repl z (m + 1)) A.length y = (A ++ [y]) ++ repl z m
  | [] => rfl
  | a :: r => by
    have := xset_repl z y m r
    simp only [List.cons_append, List.length_cons, xset] at this ⊢
    rw [this]
abbrev encI (x : Int) : List DV := [.v (.int .i64 x)]
abbrev encU (x : Int) : List DV := [.v (.int .u8 (IntKind.u8.wrap x))]
theorem okBytes_encU : ∀ xs : List Int, okBytes (xs.map encU) = true
  | [] => rfl
  | a :: r => by
    have := okBytes_encU r
    simp only [List.map_cons, okBytes] at this ⊢
    first
      | exact this
      | (rw [this]; rfl)
set_option maxHeartbeats 1000000 in
theorem bytes0 (xs : List Int) (hl : xs.length ≤ 1000) (fu : Bool) (n : Nat) : HSpec Try.prog 43 [.sl 0 n 1 0 xs.length fu] [some ⟨n, 1, xs.map encI⟩] (fun d H => d = .v (.string (mkS (xs.map u8))) ∧ H = [some ⟨n, 1, xs.map encI⟩]) := by
  refine hspec_fn Try.func43 rfl ok_custref_Bytes okr_custref_Bytes rfl (by kernel_rfl) ?_
  intro Γ hW0 hN0 hL0
  clear hW0
  unfold x_custref_Bytes r_custref_Bytes
  with_reducible refine auC ?_
  have hn : n < Γ.g0 := hN0 0 _ rfl
  repeat' (first
    | (with_reducible refine auS ?_)
    | fail
    | (with_reducible refine auD ?_)
    | ((with_reducible refine auB ?_ ?_); all_goals first | ((with_reducible intro h); first | exact auH | simp only [h, runR_t, runR_f] | skip) | skip)
    | (refine runR_n ⟨Int.natCast_nonneg _, Int.le_refl _, by (unfold room maxLen; simp only [Int.toNat_natCast]; omega)⟩ ?_))
  refine go_loopH (α := Nat) (fun k => [(⟨.d0, .d1, .d3⟩, .v (.int .i64 (k : Nat)))]) (fun k => [(1, some ⟨Γ.g0, 1, (xs.take k).map encU ++ repl [.v (.int .u8 0)] (xs.length - k)⟩)]) (fun _ => Γ.g0 + 1) (fun k => xs.length - k) (fun k => k ≤ xs.length) 0 (Nat.zero_le _) ?_ ?_
  · skip
    refine le_mk ?_ ?_ (Nat.le_refl _)
    all_goals first | with_reducible refine auE ?_ | exact auE0
    all_goals (repeat' (first | exact trivial | exact rfl | apply And.intro))
  intro k hk
  dsimp only at hk ⊢
  with_reducible refine auL ?_
  by_cases hlt : k < xs.length
  · obtain ⟨x, hx⟩ : ∃ x, xs[k]? = some x := ⟨_, List.getElem?_eq_getElem hlt⟩
    have ex := xget_map encI xs k x hx
    have hA : ((xs.take k).map encU).length = k := by simp; omega
    have hobl : ((xs.take k).map encU ++ repl [.v (.int .u8 0)] (xs.length - k)).length = xs.length := by rw [List.length_append, hA, repl_length]; omega
    have hxs : xset ((xs.take k).map encU ++ repl [.v (.int .u8 0)] (xs.length - k)) k (encU x) = (xs.take (k + 1)).map encU ++ repl [.v (.int .u8 0)] (xs.length - (k + 1)) := by
      have := xset_repl [.v (.int .u8 0)] (encU x) (xs.length - (k + 1)) ((xs.take k).map encU)
      rw [hA, show xs.length - (k + 1) + 1 = xs.length - k by omega] at this
      rw [this, List.take_add_one, hx]
      simp
    have hxg : xget ((xs.take k).map encU ++ repl [.v (.int .u8 0)] (xs.length - k)) k = [.v (.int .u8 0)] := by
      rw [xget_get, List.getElem?_append_right (by omega), hA, Nat.sub_self, repl_get, if_pos (by omega)]
      rfl
    repeat' (first
      | (with_reducible refine auS ?_)
      | fail
      | (with_reducible refine auD ?_)
      | ((with_reducible refine auB ?_ ?_); all_goals first | ((with_reducible intro h); first | exact auH | simp only [h, runR_t, runR_f] | skip) | skip)
      | (first | (simp only [Int.toNat_natCast, ex, Nat.zero_add, hxg]) | (refine runR_n ⟨by simpa using hlt, by trivial⟩ ?_) | (refine runR_n ⟨by rw [hobl]; exact hlt, by trivial⟩ ?_) | (refine runR_n ⟨by rw [hobl]; exact hlt, by trivial, by trivial⟩ ?_)))
    (all_goals first | exact auP | skip)
    refine nx_loop ⟨k + 1, Nat.succ_le_of_lt hlt, Nat.sub_lt_sub_left hlt (Nat.lt_succ_self k), ?_⟩
    refine le_mk ?_ ?_ (Nat.le_refl _)
    all_goals first | with_reducible refine auE ?_ | exact auE0
    all_goals (repeat' (first | exact trivial | exact rfl | apply And.intro))
    all_goals first
      | exact dint ((IntWalk.i64_in _ (by omega)).trans (by omega))
      | exact congrArg some (congrArg (AObj.mk Γ.g0 1) hxs)
  · obtain rfl : k = xs.length := by omega
    have he : (xs.take xs.length).map encU ++ repl [.v (.int .u8 0)] (xs.length - xs.length) = xs.map encU := by rw [List.take_length, Nat.sub_self]; simp [repl]
    have hlen : (xs.map encU).length = xs.length := List.length_map _
    have hall := okBytes_encU xs
    have hso : strOf (xs.map encU) = mkS (xs.map u8) := by
      rw [strOf_mk, List.map_map]
      refine congrArg mkS (List.map_congr_left fun a _ => ?_)
      exact u8_wrap a
    rw [he]
    repeat' (first
      | (with_reducible refine auS ?_)
      | fail
      | (with_reducible refine auD ?_)
      | ((with_reducible refine auB ?_ ?_); all_goals first | ((with_reducible intro h); first | exact auH | simp only [h, runR_t, runR_f] | skip) | skip)
      | (first | (simp only [Int.toNat_natCast, Nat.zero_add, xall hlen.symm, hso])  | (refine runR_n ⟨⟨by trivial, by trivial, by trivial, by omega⟩, by simpa using hall⟩ ?_)))
    (all_goals first | exact auP | skip)
    refine ret_h1 trivial trivial ?_ rfl hn (nfLL_map (fun x => by simp [nfL, nfD])) rfl
    rfl
theorem bytes_spec (xs : List Int) (hl : xs.length ≤ 1000) (fu : Bool) (k n : Nat) : HSpec Try.prog 43 [.sl k n 1 0 xs.length fu] [some ⟨n, 1, xs.map encI⟩] (fun d H => d = .v (.string (mkS (xs.map u8))) ∧ H = [some ⟨n, 1, xs.map encI⟩]) :=
  hspec_sl k (bytes0 xs hl fu n)
theorem bytes1 (a : Int) (fu : Bool) (k n : Nat) : HSpec Try.prog 43 [.sl k n 1 0 1 fu] [some ⟨n, 1, [[.v (.int .i64 a)]]⟩] (fun d H => d = .v (.string (mkS [u8 a])) ∧ H = [some ⟨n, 1, [[.v (.int .i64 a)]]⟩]) := bytes_spec [a] (show 1 ≤ 1000 by decide) fu k n
theorem bytes2 (a b : Int) (fu : Bool) (k n : Nat) : HSpec Try.prog 43 [.sl k n 1 0 2 fu] [some ⟨n, 1, [[.v (.int .i64 a)], [.v (.int .i64 b)]]⟩] (fun d H => d = .v (.string (mkS [u8 a, u8 b])) ∧ H = [some ⟨n, 1, [[.v (.int .i64 a)], [.v (.int .i64 b)]]⟩]) := bytes_spec [a, b] (show 2 ≤ 1000 by decide) fu k n
theorem bytes4 (a b c d : Int) (fu : Bool) (k n : Nat) : HSpec Try.prog 43 [.sl k n 1 0 4 fu] [some ⟨n, 1, [[.v (.int .i64 a)], [.v (.int .i64 b)], [.v (.int .i64 c)], [.v (.int .i64 d)]]⟩] (fun r H => r = .v (.string (mkS [u8 a, u8 b, u8 c, u8 d])) ∧ H = [some ⟨n, 1, [[.v (.int .i64 a)], [.v (.int .i64 b)], [.v (.int .i64 c)], [.v (.int .i64 d)]]⟩]) := bytes_spec [a, b, c, d] (show 4 ≤ 1000 by decide) fu k n
end Go.Proofs.Ytidogmmfakcfgaa
