import Derived.Test.YtmibknbmhcnemaaGreatDoorHa05
set_option linter.unusedVariables false
set_option linter.unusedSimpArgs false
namespace Go.Proofs.YtmibknbmhcnemaaGreatDoor
attribute [local irreducible] zF Go
set_option maxRecDepth 100000
def u8 (a:Int):UInt8:=UInt8.ofNat (a % 256).toNat
theorem pb (a:Int):UInt8.ofNat (IntKind.u8.wrap a).toNat=u8 a:=by rw [IntKind.wrap_u8];rfl
theorem lR (a:Int):((u8 a).toNat:Int)=a % 256:=by
 unfold u8
 have h:(a % 256).toNat<256:=by omega
 rw [UInt8.toNat_ofNat',Nat.mod_eq_of_lt h]
 omega
theorem kI (z y:List DV) (m:Nat):∀A:List (List DV),uP (A++v7 z (m+1)) A.length y=(A++[y])++v7 z m
 |[]=>rfl
 |a::r=>by
  have:=kI z y m r
  simp only [List.cons_append,List.length_cons,uP] at this ⊢
  rw [this]
abbrev wI (x:Int):List DV:=[.v (.int .i64 x)]
abbrev pA (x:Int):List DV:=[.v (.int .u8 (IntKind.u8.wrap x))]
theorem pd:∀xs:List Int,vU (xs.map pA)=true
 |[]=>rfl
 |a::r=>by
  have:=pd r
  simp only [List.map_cons,vU] at this ⊢
  first
   |exact this
   |(rw [this];rfl)
set_option maxHeartbeats 1000000 in
theorem VD (xs:List Int) (hl:xs.length≤1000) (fu:Bool) (n:Nat):zS Tryz.prog 171 [.sl 0 n 1 0 xs.length fu] [some ⟨n,1,xs.map wI⟩] (fun d H=>d=.v (.string (mkS (xs.map u8)))∧H=[some ⟨n,1,xs.map wI⟩]):=by
 refine y4 {} 1 Tryz.func171 fun Γ hN0 hL0=>auC ?_
 have hn:n<Γ.g0:=hN0 0 _ rfl
 repeat' first|refine auS ?_|fail|refine auD ?_|(refine auW ?_ ?_<;>intro h<;>try exact auH)|(refine z7 ⟨Int.natCast_nonneg _,Int.le_refl _,by (unfold zT maxLen;simp only [Int.toNat_natCast];omega)⟩ ?_)
 refine ze (α:=Nat) (fun k=>[(⟨.d0,.d1,.d3⟩,.v (.int .i64 (k:Nat)))]) (fun k=>[(1,some ⟨Γ.g0,1,(xs.take k).map pA++v7 [.v (.int .u8 0)] (xs.length-k)⟩)]) (fun _=>Γ.g0+1) (fun k=>xs.length-k) (fun k=>k≤xs.length) 0 (Nat.zero_le _) ?_ ?_
 ·skip
  refine zb ?_ ?_ (Nat.le_refl _)
  all_goals first|refine auE ?_|exact zi
  all_goals repeat' first|exact trivial|exact rfl|apply And.intro
 intro k hk
 dsimp only at hk ⊢
 refine auL ?_
 by_cases hlt:k<xs.length
 ·obtain ⟨x,hx⟩:∃x,xs[k]?=some x:=⟨_,List.getElem?_eq_getElem hlt⟩
  have ex:=y7 wI xs k x hx
  have hA:((xs.take k).map pA).length=k:=by simp;omega
  have hobl:((xs.take k).map pA++v7 [.v (.int .u8 0)] (xs.length-k)).length=xs.length:=by rw [List.length_append,hA,xK];omega
  have hxs:uP ((xs.take k).map pA++v7 [.v (.int .u8 0)] (xs.length-k)) k (pA x)=(xs.take (k+1)).map pA++v7 [.v (.int .u8 0)] (xs.length-(k+1)):=by
   have:=kI [.v (.int .u8 0)] (pA x) (xs.length-(k+1)) ((xs.take k).map pA)
   rw [hA,show xs.length-(k+1)+1=xs.length-k by omega] at this
   rw [this,List.take_add_one,hx]
   simp
  have hxg:yp ((xs.take k).map pA++v7 [.v (.int .u8 0)] (xs.length-k)) k=[.v (.int .u8 0)]:=by
   rw [xR,List.getElem?_append_right (by omega),hA,Nat.sub_self,sc,if_pos (by omega)]
   rfl
  repeat' first|refine auS ?_|fail|refine auD ?_|(refine auW ?_ ?_<;>intro h<;>try exact auH)|(first|(simp only [Int.toNat_natCast,ex,Nat.zero_add,hxg])|(refine z7 ⟨by simpa using hlt,by trivial⟩ ?_)|(refine z7 ⟨by rw [hobl];exact hlt,by trivial⟩ ?_)|(refine z7 ⟨by rw [hobl];exact hlt,by trivial,by trivial⟩ ?_))
  all_goals try exact auP
  refine za ⟨k+1,Nat.succ_le_of_lt hlt,Nat.sub_lt_sub_left hlt (Nat.lt_succ_self k),?_⟩
  refine zb ?_ ?_ (Nat.le_refl _)
  all_goals first|refine auE ?_|exact zi
  all_goals repeat' first|exact trivial|exact rfl|apply And.intro
  all_goals first
   |exact zC ((IntWalk.i64_in _ (by omega)).trans (by omega))
   |exact congrArg some (congrArg (zo.mk Γ.g0 1) hxs)
 ·obtain rfl:k=xs.length:=by omega
  have he:(xs.take xs.length).map pA++v7 [.v (.int .u8 0)] (xs.length-xs.length)=xs.map pA:=by rw [List.take_length,Nat.sub_self];simp [v7]
  have hlen:(xs.map pA).length=xs.length:=List.length_map _
  have hall:=pd xs
  have hso:rD (xs.map pA)=mkS (xs.map u8):=by
   rw [f_,List.map_map]
   refine congrArg mkS (List.map_congr_left fun a _=>?_)
   exact pb a
  rw [he]
  repeat' first|refine auS ?_|fail|refine auD ?_|(refine auW ?_ ?_<;>intro h<;>try exact auH)|(first|(simp only [Int.toNat_natCast,Nat.zero_add,x4 hlen.symm,hso])  | (refine z7 ⟨⟨by trivial,by trivial,by trivial,by omega⟩,by simpa using hall⟩ ?_))
  all_goals try exact auP
  refine xn trivial trivial ?_ rfl hn (zn (fun x=>by simp [nfL,nfD])) rfl
  rfl
theorem lD (xs:List Int) (hl:xs.length≤1000) (fu:Bool) (k n:Nat):zS Tryz.prog 171 [.sl k n 1 0 xs.length fu] [some ⟨n,1,xs.map wI⟩] (fun d H=>d=.v (.string (mkS (xs.map u8)))∧H=[some ⟨n,1,xs.map wI⟩]):=
 yl k (VD xs hl fu n)
theorem wF (a b:Int) (fu:Bool) (k n:Nat):zS Tryz.prog 171 [.sl k n 1 0 2 fu] [some ⟨n,1,[[.v (.int .i64 a)],[.v (.int .i64 b)]]⟩] (fun d H=>d=.v (.string (mkS [u8 a,u8 b]))∧H=[some ⟨n,1,[[.v (.int .i64 a)],[.v (.int .i64 b)]]⟩]):=lD [a,b] (show 2≤1000 by decide) fu k n
theorem vq (a b c d:Int) (fu:Bool) (k n:Nat):zS Tryz.prog 171 [.sl k n 1 0 4 fu] [some ⟨n,1,[[.v (.int .i64 a)],[.v (.int .i64 b)],[.v (.int .i64 c)],[.v (.int .i64 d)]]⟩] (fun r H=>r=.v (.string (mkS [u8 a,u8 b,u8 c,u8 d]))∧H=[some ⟨n,1,[[.v (.int .i64 a)],[.v (.int .i64 b)],[.v (.int .i64 c)],[.v (.int .i64 d)]]⟩]):=lD [a,b,c,d] (show 4≤1000 by decide) fu k n
end Go.Proofs.YtmibknbmhcnemaaGreatDoor
