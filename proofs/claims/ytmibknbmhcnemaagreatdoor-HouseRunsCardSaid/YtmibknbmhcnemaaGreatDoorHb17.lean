import Derived.Test.YtmibknbmhcnemaaGreatDoorHb05
set_option linter.unusedVariables false
set_option linter.unusedSimpArgs false
namespace Go.Proofs.YtmibknbmhcnemaaGreatDoor
attribute [local irreducible] zF Go
set_option maxRecDepth 100000
def u8 (a:Int):UInt8:=UInt8.ofNat (a % 256).toNat
theorem pA (a:Int):UInt8.ofNat (IntKind.u8.wrap a).toNat=u8 a:=by rw [IntKind.wrap_u8];rfl
theorem ly (a:Int):((u8 a).toNat:Int)=a % 256:=by
 unfold u8
 have h:(a % 256).toNat<256:=by omega
 rw [UInt8.toNat_ofNat',Nat.mod_eq_of_lt h]
 omega
theorem kL (z y:List DV) (m:Nat):∀A:List (List DV),t7 (A++wX z (m+1)) A.length y=(A++[y])++wX z m
 |[]=>rfl
 |a::r=>by
  have:=kL z y m r
  simp only [List.cons_append,List.length_cons,t7] at this ⊢
  rw [this]
abbrev wv (x:Int):List DV:=[.v (.int .i64 x)]
abbrev p7 (x:Int):List DV:=[.v (.int .u8 (IntKind.u8.wrap x))]
theorem p8:∀xs:List Int,vN (xs.map p7)=true
 |[]=>rfl
 |a::r=>by
  have:=p8 r
  simp only [List.map_cons,vN] at this ⊢
  first
   |exact this
   |(rw [this];rfl)
set_option maxHeartbeats 1000000 in
theorem U4 (xs:List Int) (hl:xs.length≤1000) (fu:Bool) (n:Nat):zR Tryz.prog 171 [.sl 0 n 1 0 xs.length fu] [some ⟨n,1,xs.map wv⟩] (fun d H=>d=.v (.string (mkS (xs.map u8)))∧H=[some ⟨n,1,xs.map wv⟩]):=by
 refine zY {} 1 Tryz.func171 fun Γ hN0 hL0=>auC ?_
 have hn:n<Γ.g0:=hN0 0 _ rfl
 repeat' first|refine auS ?_|fail|refine auD ?_|(refine auW ?_ ?_<;>intro h<;>try exact auH)|(refine z7 ⟨Int.natCast_nonneg _,Int.le_refl _,by (unfold zZ maxLen;simp only [Int.toNat_natCast];omega)⟩ ?_)
 refine ze (α:=Nat) (fun k=>[(⟨.d0,.d1,.d3⟩,.v (.int .i64 (k:Nat)))]) (fun k=>[(1,some ⟨Γ.g0,1,(xs.take k).map p7++wX [.v (.int .u8 0)] (xs.length-k)⟩)]) (fun _=>Γ.g0+1) (fun k=>xs.length-k) (fun k=>k≤xs.length) 0 (Nat.zero_le _) ?_ ?_
 ·skip
  refine zb ?_ ?_ (Nat.le_refl _)
  all_goals first|refine auE ?_|exact zi
  all_goals repeat' first|exact trivial|exact rfl|apply And.intro
 intro k hk
 dsimp only at hk ⊢
 refine auL ?_
 by_cases hlt:k<xs.length
 ·obtain ⟨x,hx⟩:∃x,xs[k]?=some x:=⟨_,List.getElem?_eq_getElem hlt⟩
  have ex:=zT wv xs k x hx
  have hA:((xs.take k).map p7).length=k:=by simp;omega
  have hobl:((xs.take k).map p7++wX [.v (.int .u8 0)] (xs.length-k)).length=xs.length:=by rw [List.length_append,hA,xI];omega
  have hxs:t7 ((xs.take k).map p7++wX [.v (.int .u8 0)] (xs.length-k)) k (p7 x)=(xs.take (k+1)).map p7++wX [.v (.int .u8 0)] (xs.length-(k+1)):=by
   have:=kL [.v (.int .u8 0)] (p7 x) (xs.length-(k+1)) ((xs.take k).map p7)
   rw [hA,show xs.length-(k+1)+1=xs.length-k by omega] at this
   rw [this,List.take_add_one,hx]
   simp
  have hxg:ym ((xs.take k).map p7++wX [.v (.int .u8 0)] (xs.length-k)) k=[.v (.int .u8 0)]:=by
   rw [xQ,List.getElem?_append_right (by omega),hA,Nat.sub_self,so,if_pos (by omega)]
   rfl
  repeat' first|refine auS ?_|fail|refine auD ?_|(refine auW ?_ ?_<;>intro h<;>try exact auH)|(first|(simp only [Int.toNat_natCast,ex,Nat.zero_add,hxg])|(refine z7 ⟨by simpa using hlt,by trivial⟩ ?_)|(refine z7 ⟨by rw [hobl];exact hlt,by trivial⟩ ?_)|(refine z7 ⟨by rw [hobl];exact hlt,by trivial,by trivial⟩ ?_))
  all_goals try exact auP
  refine za ⟨k+1,Nat.succ_le_of_lt hlt,Nat.sub_lt_sub_left hlt (Nat.lt_succ_self k),?_⟩
  refine zb ?_ ?_ (Nat.le_refl _)
  all_goals first|refine auE ?_|exact zi
  all_goals repeat' first|exact trivial|exact rfl|apply And.intro
  all_goals first
   |exact zB ((IntWalk.i64_in _ (by omega)).trans (by omega))
   |exact congrArg some (congrArg (zo.mk Γ.g0 1) hxs)
 ·obtain rfl:k=xs.length:=by omega
  have he:(xs.take xs.length).map p7++wX [.v (.int .u8 0)] (xs.length-xs.length)=xs.map p7:=by rw [List.take_length,Nat.sub_self];simp [wX]
  have hlen:(xs.map p7).length=xs.length:=List.length_map _
  have hall:=p8 xs
  have hso:rE (xs.map p7)=mkS (xs.map u8):=by
   rw [gP,List.map_map]
   refine congrArg mkS (List.map_congr_left fun a _=>?_)
   exact pA a
  rw [he]
  repeat' first|refine auS ?_|fail|refine auD ?_|(refine auW ?_ ?_<;>intro h<;>try exact auH)|(first|(simp only [Int.toNat_natCast,Nat.zero_add,yN hlen.symm,hso])  | (refine z7 ⟨⟨by trivial,by trivial,by trivial,by omega⟩,by simpa using hall⟩ ?_))
  all_goals try exact auP
  refine xp trivial trivial ?_ rfl hn (zn (fun x=>by simp [nfL,nfD])) rfl
  rfl
theorem lk (xs:List Int) (hl:xs.length≤1000) (fu:Bool) (k n:Nat):zR Tryz.prog 171 [.sl k n 1 0 xs.length fu] [some ⟨n,1,xs.map wv⟩] (fun d H=>d=.v (.string (mkS (xs.map u8)))∧H=[some ⟨n,1,xs.map wv⟩]):=
 yi k (U4 xs hl fu n)
theorem wE (a b:Int) (fu:Bool) (k n:Nat):zR Tryz.prog 171 [.sl k n 1 0 2 fu] [some ⟨n,1,[[.v (.int .i64 a)],[.v (.int .i64 b)]]⟩] (fun d H=>d=.v (.string (mkS [u8 a,u8 b]))∧H=[some ⟨n,1,[[.v (.int .i64 a)],[.v (.int .i64 b)]]⟩]):=lk [a,b] (show 2≤1000 by decide) fu k n
theorem vu (a b c d:Int) (fu:Bool) (k n:Nat):zR Tryz.prog 171 [.sl k n 1 0 4 fu] [some ⟨n,1,[[.v (.int .i64 a)],[.v (.int .i64 b)],[.v (.int .i64 c)],[.v (.int .i64 d)]]⟩] (fun r H=>r=.v (.string (mkS [u8 a,u8 b,u8 c,u8 d]))∧H=[some ⟨n,1,[[.v (.int .i64 a)],[.v (.int .i64 b)],[.v (.int .i64 c)],[.v (.int .i64 d)]]⟩]):=lk [a,b,c,d] (show 4≤1000 by decide) fu k n
end Go.Proofs.YtmibknbmhcnemaaGreatDoor
