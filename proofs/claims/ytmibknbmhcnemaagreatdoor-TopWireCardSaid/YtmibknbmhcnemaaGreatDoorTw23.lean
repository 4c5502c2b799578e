import Derived.Test.YtmibknbmhcnemaaGreatDoorTw06
set_option linter.unusedVariables false
set_option linter.unusedSimpArgs false
namespace Go.Proofs.YtmibknbmhcnemaaGreatDoor
attribute [local irreducible] zu Go
set_option maxRecDepth 100000
def u8 (a:Int):UInt8:=UInt8.ofNat (a % 256).toNat
theorem xD (a:Int):UInt8.ofNat (IntKind.u8.wrap a).toNat=u8 a:=by rw [IntKind.wrap_u8];rfl
theorem og (a:Int):((u8 a).toNat:Int)=a % 256:=by
 unfold u8
 have h:(a % 256).toNat<256:=by omega
 rw [UInt8.toNat_ofNat',Nat.mod_eq_of_lt h]
 omega
theorem l4 (z y:List DV) (m:Nat):∀A:List (List DV),vK (A++xW z (m+1)) A.length y=(A++[y])++xW z m
 |[]=>rfl
 |a::r=>by
  have:=l4 z y m r
  simp only [List.cons_append,List.length_cons,vK] at this ⊢
  rw [this]
abbrev eC (x:Int):List DV:=[.v (.int .i64 x)]
abbrev rJ (x:Int):List DV:=[.v (.int .u8 (IntKind.u8.wrap x))]
theorem qj:∀xs:List Int,wZ (xs.map rJ)=true
 |[]=>rfl
 |a::r=>by
  have:=qj r
  simp only [List.map_cons,wZ] at this ⊢
  first
   |exact this
   |(rw [this];rfl)
set_option maxHeartbeats 1000000 in
theorem YB (xs:List Int) (hl:xs.length≤1000) (fu:Bool) (n:Nat):zz Tryz.prog 171 [.sl 0 n 1 0 xs.length fu] [some ⟨n,1,xs.map eC⟩] (fun d H=>d=.v (.string (mkS (xs.map u8)))∧H=[some ⟨n,1,xs.map eC⟩]):=by
 refine zw {} 1 Tryz.func171 fun Γ hN0 hL0=>auC ?_
 have hn:n<Γ.g0:=hN0 0 _ rfl
 repeat' first|refine auS ?_|fail|refine auD ?_|(refine auW ?_ ?_<;>intro h<;>try exact auH)|(refine z_ ⟨Int.natCast_nonneg _,Int.le_refl _,by (unfold zW maxLen;simp only [Int.toNat_natCast];omega)⟩ ?_)
 refine zx (α:=Nat) (fun k=>[(⟨.d0,.d1,.d3⟩,.v (.int .i64 (k:Nat)))]) (fun k=>[(1,some ⟨Γ.g0,1,(xs.take k).map rJ++xW [.v (.int .u8 0)] (xs.length-k)⟩)]) (fun _=>Γ.g0+1) (fun k=>xs.length-k) (fun k=>k≤xs.length) 0 (Nat.zero_le _) ?_ ?_
 ·skip
  refine zp ?_ ?_ (Nat.le_refl _)
  all_goals first|refine auE ?_|exact zJ
  all_goals repeat' first|exact trivial|exact rfl|apply And.intro
 intro k hk
 dsimp only at hk ⊢
 refine auL ?_
 by_cases hlt:k<xs.length
 ·obtain ⟨x,hx⟩:∃x,xs[k]?=some x:=⟨_,List.getElem?_eq_getElem hlt⟩
  have ex:=yn eC xs k x hx
  have hA:((xs.take k).map rJ).length=k:=by simp;omega
  have hobl:((xs.take k).map rJ++xW [.v (.int .u8 0)] (xs.length-k)).length=xs.length:=by rw [List.length_append,hA,xg];omega
  have hxs:vK ((xs.take k).map rJ++xW [.v (.int .u8 0)] (xs.length-k)) k (rJ x)=(xs.take (k+1)).map rJ++xW [.v (.int .u8 0)] (xs.length-(k+1)):=by
   have:=l4 [.v (.int .u8 0)] (rJ x) (xs.length-(k+1)) ((xs.take k).map rJ)
   rw [hA,show xs.length-(k+1)+1=xs.length-k by omega] at this
   rw [this,List.take_add_one,hx]
   simp
  have hxg:yh ((xs.take k).map rJ++xW [.v (.int .u8 0)] (xs.length-k)) k=[.v (.int .u8 0)]:=by
   rw [xb,List.getElem?_append_right (by omega),hA,Nat.sub_self,uR,if_pos (by omega)]
   rfl
  repeat' first|refine auS ?_|fail|refine auD ?_|(refine auW ?_ ?_<;>intro h<;>try exact auH)|(first|(simp only [Int.toNat_natCast,ex,Nat.zero_add,hxg])|(refine z_ ⟨by simpa using hlt,by trivial⟩ ?_)|(refine z_ ⟨by rw [hobl];exact hlt,by trivial⟩ ?_)|(refine z_ ⟨by rw [hobl];exact hlt,by trivial,by trivial⟩ ?_))
  all_goals try exact auP
  refine zo ⟨k+1,Nat.succ_le_of_lt hlt,Nat.sub_lt_sub_left hlt (Nat.lt_succ_self k),?_⟩
  refine zp ?_ ?_ (Nat.le_refl _)
  all_goals first|refine auE ?_|exact zJ
  all_goals repeat' first|exact trivial|exact rfl|apply And.intro
  all_goals first
   |exact zL ((IntWalk.i64_in _ (by omega)).trans (by omega))
   |exact congrArg some (congrArg (zd.mk Γ.g0 1) hxs)
 ·obtain rfl:k=xs.length:=by omega
  have he:(xs.take xs.length).map rJ++xW [.v (.int .u8 0)] (xs.length-xs.length)=xs.map rJ:=by rw [List.take_length,Nat.sub_self];simp [xW]
  have hlen:(xs.map rJ).length=xs.length:=List.length_map _
  have hall:=qj xs
  have hso:vg (xs.map rJ)=mkS (xs.map u8):=by
   rw [kY,List.map_map]
   refine congrArg mkS (List.map_congr_left fun a _=>?_)
   exact xD a
  rw [he]
  repeat' first|refine auS ?_|fail|refine auD ?_|(refine auW ?_ ?_<;>intro h<;>try exact auH)|(first|(simp only [Int.toNat_natCast,Nat.zero_add,sa hlen.symm,hso])  | (refine z_ ⟨⟨by trivial,by trivial,by trivial,by omega⟩,by simpa using hall⟩ ?_))
  all_goals try exact auP
  refine yi trivial trivial ?_ rfl hn (zg (fun x=>by simp [nfL,nfD])) rfl
  rfl
theorem hY (xs:List Int) (hl:xs.length≤1000) (fu:Bool) (k n:Nat):zz Tryz.prog 171 [.sl k n 1 0 xs.length fu] [some ⟨n,1,xs.map eC⟩] (fun d H=>d=.v (.string (mkS (xs.map u8)))∧H=[some ⟨n,1,xs.map eC⟩]):=
 zY k (YB xs hl fu n)
theorem bM (a b:Int) (fu:Bool) (k n:Nat):zz Tryz.prog 171 [.sl k n 1 0 2 fu] [some ⟨n,1,[[.v (.int .i64 a)],[.v (.int .i64 b)]]⟩] (fun d H=>d=.v (.string (mkS [u8 a,u8 b]))∧H=[some ⟨n,1,[[.v (.int .i64 a)],[.v (.int .i64 b)]]⟩]):=hY [a,b] (show 2≤1000 by decide) fu k n
end Go.Proofs.YtmibknbmhcnemaaGreatDoor
