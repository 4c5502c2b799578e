import Derived.Test.YtaiileiodjicpaaGreatDoorTt04
set_option linter.unusedVariables false
set_option linter.unusedSimpArgs false
namespace Go.Proofs.YtaiileiodjicpaaGreatDoor.T
attribute [local irreducible] zF Go
set_option maxRecDepth 100000
abbrev dR (a b c d:Int):DV:=.agg [.v (.int .u32 a),.v (.int .u32 b),.v (.int .i64 c),.v (.int .i64 d)]
abbrev cT (a b c d s o x:Int):List DV:=[.v (.int .u32 a),.v (.int .u32 b),.v (.int .i64 c),.v (.int .i64 d),.v (.int .i64 s),.v (.int .i64 o),.v (.int .i64 x)]
abbrev dT (a b c d s o x:Int):DV:=.agg (cT a b c d s o x)
theorem vg (n:Int):zi Tryz.prog 159 [.v (.int .i64 n)] (.v (.bool (decide (0≤n∧n≤65535)))):=by
 refine z7 {} 0 Tryz.func159 fun Γ hW=>auC ?_
 repeat' first|refine auS ?_|fail|refine auD ?_|(refine auW ?_ ?_<;>intro h<;>try exact auH)|fail
 all_goals refine auV ?_
 all_goals try exact zc
 all_goals try simp only [hsM] at *
 ·exact xP (by simp [h])
 ·exact xP (by simp [h])
theorem oN (a b c d:Int):zi Tryz.prog 129 [dR a b c d] (dR b a d c):=by
 refine z7 {} 0 Tryz.func129 fun Γ hW=>auC ?_
 repeat' first|refine auS ?_|fail|refine auD ?_|(refine auW ?_ ?_<;>intro h<;>try exact auH)|fail
 all_goals refine auV ?_
 all_goals try exact zc
 all_goals try simp only [hsM] at *
def pl (a b c d a' b' c' d':Int):Bool:=decide ((a=a'∧b=b'∧c=c'∧d=d')∨(a=b'∧b=a'∧c=d'∧d=c'))
theorem oO (a b c d s o x a' b' c' d':Int):zi Tryz.prog 128 [dT a b c d s o x,.rptr [.v (.int .u32 a'),.v (.int .u32 b'),.v (.int .i64 c'),.v (.int .i64 d')]] (.v (.bool (pl a b c d a' b' c' d'))):=by
 refine z7 {} 0 Tryz.func128 fun Γ hW=>auC ?_
 repeat' first|refine auS ?_|(with_reducible refine z6 (oN _ _ _ _) ?_)|refine auD ?_|(refine auW ?_ ?_<;>intro h<;>try exact auH)|fail
 all_goals refine auV ?_
 all_goals try exact zc
 all_goals try simp only [hsM] at *
 ·exact xP (by unfold pl;rw [decide_eq_true (Or.inl (by omega))])
 ·exact xP (by unfold pl;rw [Bool.eq_iff_iff];simp only [Bool.and_eq_true,decide_eq_true_eq];omega)
def mE (a b c d:Int):Bool:=decide ((0≤c∧c≤65535)∧(0≤d∧d≤65535)∧¬(a=b∧c=d))
theorem r9 (a b c d:Int):zi Tryz.prog 126 [dR a b c d] (.v (.bool (mE a b c d))):=by
 refine z7 {} 0 Tryz.func126 fun Γ hW=>auC ?_
 repeat' first|refine auS ?_|(first|(with_reducible refine z6 (vg _) ?_)|(with_reducible refine z6 (oN _ _ _ _) ?_))|refine auD ?_|(refine auW ?_ ?_<;>intro h<;>try exact auH)|fail
 all_goals refine auV ?_
 all_goals try exact zc
 all_goals try simp only [hsM] at *
 all_goals (refine xP ?_;unfold mE;rw [Bool.eq_iff_iff];simp;omega)
def rR (a b c d s o x:Int):Bool:=mE a b c d&&decide ((0≤x∧x≤1099511627776)∧(((s=1∨s=2)∧o=0)∨(s=3∧0≤o∧o≤2)∨(s=4∧o=3)))
theorem bH (a b c d s o x:Int):zi Tryz.prog 92 [dT a b c d s o x] (.v (.bool (rR a b c d s o x))):=by
 refine z7 {} 0 Tryz.func92 fun Γ hW=>auC ?_
 repeat' first|refine auS ?_|(with_reducible refine z6 (r9 _ _ _ _) ?_)|refine auD ?_|(refine auW ?_ ?_<;>intro h<;>try exact auH)|fail
 all_goals try exact auP
 all_goals refine auV ?_
 all_goals try exact zc
 all_goals try simp only [hsM] at *
 all_goals (refine xP ?_;unfold rR;rw [Bool.eq_iff_iff];simp [*];(try omega))
def Z2 (s:Int):Int:=if s=3 then 3000 else if s=4 then 60 else 30
theorem h_ (a b c d s o x now:Int) (hx:0≤x∧x≤1099511627776) (hn:0≤now∧now≤1099511627776):zi Tryz.prog 160 [dT a b c d s o x,.v (.int .i64 now)] (.v (.bool (decide (x+Z2 s<now)))):=by
 refine z7 {} 0 Tryz.func160 fun Γ hW=>auC ?_
 repeat' first|refine auS ?_|fail|refine auD ?_|(refine auW ?_ ?_<;>intro h<;>try exact auH)|fail
 all_goals try exact auP
 all_goals refine auV ?_
 all_goals try exact zc
 all_goals try simp only [hsM] at *
 all_goals (refine xP ?_;rw [IntWalk.i64_in (now-x) (by omega)];unfold Z2;rw [Bool.eq_iff_iff];simp [*];(try omega))
structure Tk where
 (a b c d s o x:Int)
deriving DecidableEq
abbrev Tk.enc (t:Tk):List DV:=cT t.a t.b t.c t.d t.s t.o t.x
def Tk.along (t:Tk) (a b c d:Int):Bool:=pl t.a t.b t.c t.d a b c d
def Tk.form (t:Tk):Bool:=rR t.a t.b t.c t.d t.s t.o t.x
set_option maxHeartbeats 1000000 in
theorem lK {g:FuncId} {caps:List DV} (p:Tk→Bool) (l:List Tk) (c:Bool) (hl:l.length≤maxLen) (hg:∀t∈l,zi Tryz.prog g (.agg (Tk.enc t)::caps) (.v (.bool (p t)))):zi Tryz.prog 127 [.snap 7 (l.map Tk.enc) c,.fn (.func g) [] caps] (.v (.int .i64 (zk p l 0))):=by
 unfold maxLen at hl
 refine z7 {} 0 Tryz.func127 fun Γ hW=>auC ?_
 repeat' first|refine auS ?_|fail|refine auD ?_|(refine auW ?_ ?_<;>intro h<;>try exact auH)|fail
 refine zw (α:=Nat) (fun k=>[(⟨.d0,.d1,.d0⟩,.v (.int .i64 (k:Nat)))]) (fun _=>[]) (fun _=>Γ.g0) (fun k=>l.length-k) (fun k=>k≤l.length∧zk p l 0=zk p (l.drop k) k) 0 ⟨Nat.zero_le _,rfl⟩ ?_ ?_
 ·skip
  refine zo ?_ ?_ (Nat.le_refl _)
  all_goals first|refine auE ?_|exact zK
  all_goals repeat' first|exact trivial|exact rfl|apply And.intro
 ·rintro k ⟨hk,hp⟩
  refine auL ?_
  by_cases hlt:k<l.length
  ·obtain ⟨t,ht⟩:∃t,l[k]?=some t:=⟨_,List.getElem?_eq_getElem hlt⟩
   have ex:=ye Tk.enc l k t ht
   have hgt:=hg t (List.mem_of_getElem? ht)
   rw [List.drop_eq_getElem_cons hlt,show l[k]=t from Option.some.inj ((List.getElem?_eq_getElem hlt).symm.trans ht)] at hp
   repeat' first|refine auS ?_|(with_reducible refine z6 hgt ?_)|refine auD ?_|(refine auW ?_ ?_<;>intro h<;>try exact auH)|(simp only [Int.toNat_natCast,ex])
   all_goals try exact auP
   ·skip
    all_goals refine auV ?_
    all_goals try exact zc
    all_goals try simp only [hsM] at *
    rw [hp]
    simp [zk, *]
   ·refine zn ?_
    refine ⟨k+1,⟨Nat.succ_le_of_lt hlt,by rw [hp];simp [zk, *]⟩,Nat.sub_lt_sub_left hlt (Nat.lt_succ_self k),?_⟩
    refine zo ?_ ?_ (Nat.le_refl _)
    all_goals first|refine auE ?_|exact zK
    all_goals repeat' first|exact trivial|exact rfl|apply And.intro
    exact yd ((IntWalk.i64_in _ (by omega)).trans (by omega))
  ·skip
   repeat' first|refine auS ?_|fail|refine auD ?_|(refine auW ?_ ?_<;>intro h<;>try exact auH)|fail
   all_goals try exact auP
   all_goals refine auV ?_
   all_goals try exact zc
   all_goals try simp only [hsM] at *
   obtain rfl:k=l.length:=by omega
   rw [hp,List.drop_length]
   rfl
theorem wj (l:List Tk) (cl:Bool) (hl:l.length≤maxLen) (a b c d:Int):zi Tryz.prog 93 [.snap 7 (l.map Tk.enc) cl,dR a b c d] (.v (.int .i64 (zk (fun t=>t.along a b c d) l 0))):=by
 have hi:=lK (g:=128) (caps:=[.rptr [.v (.int .u32 a),.v (.int .u32 b),.v (.int .i64 c),.v (.int .i64 d)]]) (fun t=>t.along a b c d) l cl hl (fun t _=>oO t.a t.b t.c t.d t.s t.o t.x a b c d)
 refine z7 {} 1 Tryz.func93 fun Γ hW=>auC ?_
 repeat' first|(refine zP (yb hW ⟨.d0,.d0,.d3⟩ rfl rfl ⟨rfl,rfl,Nat.succ_pos _⟩) ?_)|refine auS ?_|(with_reducible refine z6 hi ?_)|refine auD ?_|(refine auW ?_ ?_<;>intro h<;>try exact auH)|fail
 all_goals refine auV ?_
 all_goals try exact zc
 all_goals try simp only [hsM] at *
end Go.Proofs.YtaiileiodjicpaaGreatDoor.T
