import Derived.Test.YtmibknbmhcnemaaDoorTm05
set_option linter.unusedVariables false
set_option linter.unusedSimpArgs false
namespace Go.Proofs.YtmibknbmhcnemaaDoor.T
attribute [local irreducible] zz Go
set_option maxRecDepth 100000
abbrev dR (a b c d:Int):DV:=.agg [.v (.int .u32 a),.v (.int .u32 b),.v (.int .i64 c),.v (.int .i64 d)]
abbrev cT (a b c d s o x:Int):List DV:=[.v (.int .u32 a),.v (.int .u32 b),.v (.int .i64 c),.v (.int .i64 d),.v (.int .i64 s),.v (.int .i64 o),.v (.int .i64 x)]
abbrev dT (a b c d s o x:Int):DV:=.agg (cT a b c d s o x)
theorem wt (n:Int):zf Tryd.prog 90 [.v (.int .i64 n)] (.v (.bool (decide (0≤n∧n≤65535)))):=by
 refine z4 {} 0 Tryd.func90 fun Γ hW=>auC ?_
 repeat' first|refine auS ?_|fail|refine auD ?_|(refine auW ?_ ?_<;>intro h<;>try exact auH)|fail
 all_goals refine auV ?_
 all_goals try exact z_
 all_goals try simp only [hsM] at *
 ·exact wo (by simp [h])
 ·exact wo (by simp [h])
theorem qB (a b c d:Int):zf Tryd.prog 77 [dR a b c d] (dR b a d c):=by
 refine z4 {} 0 Tryd.func77 fun Γ hW=>auC ?_
 repeat' first|refine auS ?_|fail|refine auD ?_|(refine auW ?_ ?_<;>intro h<;>try exact auH)|fail
 all_goals refine auV ?_
 all_goals try exact z_
 all_goals try simp only [hsM] at *
def qe (a b c d a' b' c' d':Int):Bool:=decide ((a=a'∧b=b'∧c=c'∧d=d')∨(a=b'∧b=a'∧c=d'∧d=c'))
theorem qP (a b c d s o x a' b' c' d':Int):zf Tryd.prog 76 [dT a b c d s o x,.rptr [.v (.int .u32 a'),.v (.int .u32 b'),.v (.int .i64 c'),.v (.int .i64 d')]] (.v (.bool (qe a b c d a' b' c' d'))):=by
 refine z4 {} 0 Tryd.func76 fun Γ hW=>auC ?_
 repeat' first|refine auS ?_|(with_reducible refine z0 (qB _ _ _ _) ?_)|refine auD ?_|(refine auW ?_ ?_<;>intro h<;>try exact auH)|fail
 all_goals refine auV ?_
 all_goals try exact z_
 all_goals try simp only [hsM] at *
 ·exact wo (by unfold qe;rw [decide_eq_true (Or.inl (by omega))])
 ·exact wo (by unfold qe;rw [Bool.eq_iff_iff];simp only [Bool.and_eq_true,decide_eq_true_eq];omega)
def ov (a b c d:Int):Bool:=decide ((0≤c∧c≤65535)∧(0≤d∧d≤65535)∧¬(a=b∧c=d))
theorem sb (a b c d:Int):zf Tryd.prog 74 [dR a b c d] (.v (.bool (ov a b c d))):=by
 refine z4 {} 0 Tryd.func74 fun Γ hW=>auC ?_
 repeat' first|refine auS ?_|(first|(with_reducible refine z0 (wt _) ?_)|(with_reducible refine z0 (qB _ _ _ _) ?_))|refine auD ?_|(refine auW ?_ ?_<;>intro h<;>try exact auH)|fail
 all_goals refine auV ?_
 all_goals try exact z_
 all_goals try simp only [hsM] at *
 all_goals (refine wo ?_;unfold ov;rw [Bool.eq_iff_iff];simp;omega)
def sL (a b c d s o x:Int):Bool:=ov a b c d&&decide ((0≤x∧x≤1099511627776)∧(((s=1∨s=2)∧o=0)∨(s=3∧0≤o∧o≤2)∨(s=4∧o=3)))
theorem fe (a b c d s o x:Int):zf Tryd.prog 54 [dT a b c d s o x] (.v (.bool (sL a b c d s o x))):=by
 refine z4 {} 0 Tryd.func54 fun Γ hW=>auC ?_
 repeat' first|refine auS ?_|(with_reducible refine z0 (sb _ _ _ _) ?_)|refine auD ?_|(refine auW ?_ ?_<;>intro h<;>try exact auH)|fail
 all_goals try exact auP
 all_goals refine auV ?_
 all_goals try exact z_
 all_goals try simp only [hsM] at *
 all_goals (refine wo ?_;unfold sL;rw [Bool.eq_iff_iff];simp [*];(try omega))
def eM (s:Int):Int:=if s=3 then 3000 else if s=4 then 60 else 30
theorem kh (a b c d s o x now:Int) (hx:0≤x∧x≤1099511627776) (hn:0≤now∧now≤1099511627776):zf Tryd.prog 91 [dT a b c d s o x,.v (.int .i64 now)] (.v (.bool (decide (x+eM s<now)))):=by
 refine z4 {} 0 Tryd.func91 fun Γ hW=>auC ?_
 repeat' first|refine auS ?_|fail|refine auD ?_|(refine auW ?_ ?_<;>intro h<;>try exact auH)|fail
 all_goals try exact auP
 all_goals refine auV ?_
 all_goals try exact z_
 all_goals try simp only [hsM] at *
 all_goals (refine wo ?_;rw [IntWalk.i64_in (now-x) (by omega)];unfold eM;rw [Bool.eq_iff_iff];simp [*];(try omega))
structure Tk where
 (a b c d s o x:Int)
deriving DecidableEq
abbrev Tk.enc (t:Tk):List DV:=cT t.a t.b t.c t.d t.s t.o t.x
def Tk.along (t:Tk) (a b c d:Int):Bool:=qe t.a t.b t.c t.d a b c d
def Tk.form (t:Tk):Bool:=sL t.a t.b t.c t.d t.s t.o t.x
set_option maxHeartbeats 1000000 in
theorem nN {g:FuncId} {caps:List DV} (p:Tk→Bool) (l:List Tk) (c:Bool) (hl:l.length≤maxLen) (hg:∀t∈l,zf Tryd.prog g (.agg (Tk.enc t)::caps) (.v (.bool (p t)))):zf Tryd.prog 75 [.snap 7 (l.map Tk.enc) c,.fn (.func g) [] caps] (.v (.int .i64 (ze p l 0))):=by
 unfold maxLen at hl
 refine z4 {} 0 Tryd.func75 fun Γ hW=>auC ?_
 repeat' first|refine auS ?_|fail|refine auD ?_|(refine auW ?_ ?_<;>intro h<;>try exact auH)|fail
 refine zE (α:=Nat) (fun k=>[(⟨.d0,.d1,.d0⟩,.v (.int .i64 (k:Nat)))]) (fun _=>[]) (fun _=>Γ.g0) (fun k=>l.length-k) (fun k=>k≤l.length∧ze p l 0=ze p (l.drop k) k) 0 ⟨Nat.zero_le _,rfl⟩ ?_ ?_
 ·skip
  refine zt ?_ ?_ (Nat.le_refl _)
  all_goals first|refine auE ?_|exact zR
  all_goals repeat' first|exact trivial|exact rfl|apply And.intro
 ·rintro k ⟨hk,hp⟩
  refine auL ?_
  by_cases hlt:k<l.length
  ·obtain ⟨t,ht⟩:∃t,l[k]?=some t:=⟨_,List.getElem?_eq_getElem hlt⟩
   have ex:=ye Tk.enc l k t ht
   have hgt:=hg t (List.mem_of_getElem? ht)
   rw [List.drop_eq_getElem_cons hlt,show l[k]=t from Option.some.inj ((List.getElem?_eq_getElem hlt).symm.trans ht)] at hp
   repeat' first|refine auS ?_|(with_reducible refine z0 hgt ?_)|refine auD ?_|(refine auW ?_ ?_<;>intro h<;>try exact auH)|(simp only [Int.toNat_natCast,ex])
   all_goals try exact auP
   ·skip
    all_goals refine auV ?_
    all_goals try exact z_
    all_goals try simp only [hsM] at *
    rw [hp]
    simp [ze, *]
   ·refine zp ?_
    refine ⟨k+1,⟨Nat.succ_le_of_lt hlt,by rw [hp];simp [ze, *]⟩,Nat.sub_lt_sub_left hlt (Nat.lt_succ_self k),?_⟩
    refine zt ?_ ?_ (Nat.le_refl _)
    all_goals first|refine auE ?_|exact zR
    all_goals repeat' first|exact trivial|exact rfl|apply And.intro
    exact y8 ((IntWalk.i64_in _ (by omega)).trans (by omega))
  ·skip
   repeat' first|refine auS ?_|fail|refine auD ?_|(refine auW ?_ ?_<;>intro h<;>try exact auH)|fail
   all_goals try exact auP
   all_goals refine auV ?_
   all_goals try exact z_
   all_goals try simp only [hsM] at *
   obtain rfl:k=l.length:=by omega
   rw [hp,List.drop_length]
   rfl
theorem xI (l:List Tk) (cl:Bool) (hl:l.length≤maxLen) (a b c d:Int):zf Tryd.prog 55 [.snap 7 (l.map Tk.enc) cl,dR a b c d] (.v (.int .i64 (ze (fun t=>t.along a b c d) l 0))):=by
 have hi:=nN (g:=76) (caps:=[.rptr [.v (.int .u32 a),.v (.int .u32 b),.v (.int .i64 c),.v (.int .i64 d)]]) (fun t=>t.along a b c d) l cl hl (fun t _=>qP t.a t.b t.c t.d t.s t.o t.x a b c d)
 refine z4 {} 1 Tryd.func55 fun Γ hW=>auC ?_
 repeat' first|(refine zY (zK hW ⟨.d0,.d0,.d3⟩ rfl rfl ⟨rfl,rfl,Nat.succ_pos _⟩) ?_)|refine auS ?_|(with_reducible refine z0 hi ?_)|refine auD ?_|(refine auW ?_ ?_<;>intro h<;>try exact auH)|fail
 all_goals refine auV ?_
 all_goals try exact z_
 all_goals try simp only [hsM] at *
end Go.Proofs.YtmibknbmhcnemaaDoor.T
