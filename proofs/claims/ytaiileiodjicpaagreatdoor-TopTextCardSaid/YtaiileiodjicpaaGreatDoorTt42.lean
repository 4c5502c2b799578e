import Derived.Test.YtaiileiodjicpaaGreatDoorTt41
import Derived.Test.YtaiileiodjicpaaGreatDoorTt20
set_option linter.unusedVariables false
set_option linter.unusedSimpArgs false
namespace Go.Proofs.YtaiileiodjicpaaGreatDoor
theorem kz (xs:List ByteArray) (sep:ByteArray) (c:Bool) (h0:0<xs.length) (hN:xs.length≤140737488355328) (hlen:(Lib.join (xs.map (·.data.toList)) sep.data.toList).length≤140737488355328) :
  zi Tryz.prog 14 [.snap 1 (xs.map fun x=>[.v (.string x)]) c,.v (.string sep)] (.v (.string ⟨(Lib.join (xs.map (·.data.toList)) sep.data.toList).toArray⟩)):=
 xZ (by kernel_rfl) fun K w vs g0 hI ⟨hs,ha⟩=>by
  have hsz:vs.size=2:=hs
  obtain ⟨v1,v2,rfl⟩:∃a b,vs = #[a,b]:=by
   obtain ⟨l⟩:=vs
   match l,hsz with
   |[a,b],_=>exact ⟨a,b,rfl⟩
  have r1:=ha 0 _ v1 rfl rfl
  have r2:=ha 1 _ v2 rfl rfl
  cases r2
  obtain ⟨A,cap,rfl,hc,hcells⟩:=Y8 r1
  obtain ⟨bk,o,rfl,hbk,hx⟩:=hcells h0
  exact (Tryz.strings_Join bk o cap xs sep w hx hbk hN hc hlen).mono fun e w' ⟨he,hb⟩=>⟨_,he,v_ hb,.v _⟩
end Go.Proofs.YtaiileiodjicpaaGreatDoor
namespace Go.Proofs.YtaiileiodjicpaaGreatDoor
attribute [local irreducible] zF Go
set_option maxRecDepth 100000
theorem Uq:((0:Nat):Int)=0∧((1:Nat):Int)=1∧((2:Nat):Int)=2∧((3:Nat):Int)=3∧((4:Nat):Int)=4:=⟨rfl,rfl,rfl,rfl,rfl⟩
def pc0 (a:Nat):List UInt8:=Lib.decDigits (a / 16777216 % 256)
def pc1 (a:Nat):List UInt8:=Lib.decDigits (a / 65536 % 256)
def pc2 (a:Nat):List UInt8:=Lib.decDigits (a / 256 % 256)
def pc3 (a:Nat):List UInt8:=Lib.decDigits (a % 256)
def pcA (a:Nat):List ByteArray:=[mkS (pc0 a),mkS (pc1 a),mkS (pc2 a),mkS (pc3 a)]
theorem jX (n:Nat):(Lib.decDigits (n % 256)).length≤256:=by
 have:=WP (n % 256)
 omega
theorem Y5 (a:Nat):ByteArray.mk (Lib.join ((pcA a).map (·.data.toList)) (ByteArray.mk #[46]).data.toList).toArray=mkS (xh a):=rfl
theorem Zn (a:Nat):(Lib.join ((pcA a).map (·.data.toList)) (ByteArray.mk #[46]).data.toList).length≤140737488355328:=by
 show (xh a).length≤_
 have h0:=jX (a / 16777216)
 have h1:=jX (a / 65536)
 have h2:=jX (a / 256)
 have h3:=jX a
 unfold xh
 simp [Lib.join,List.intercalate,List.intersperse]
 omega
theorem iA (m:Int) (h0:0≤m) (h1:m≤4294967295):bits .and .u32 m 255=m % 256:=by
 go_bits2
theorem tW (n:Nat) (h:n<4294967296):bits .and .u32 (n:Int) 255=((n % 256:Nat):Int):=by
 rw [iA _ (by omega) (by omega)]
 omega
set_option maxHeartbeats 2000000 in
theorem kB (a:Nat) (ha:a<4294967296):zi Tryz.prog 15 [.v (.int .u32 (a:Nat))] (.v (.string (mkS (xh a)))):=by
 have hj:=kz (pcA a) ⟨#[46]⟩ false (by show 0<4;omega) (by show 4≤_;omega) (Zn a)
 rw [Y5] at hj
 have d0:((a:Nat):Int).fdiv (2 ^ min 24 IntKind.u32.bits)=((a / 16777216:Nat):Int):=by rw [show min 24 IntKind.u32.bits=24 from rfl,Int.fdiv_eq_ediv_of_nonneg _ (by decide)];rfl
 have d1:((a:Nat):Int).fdiv (2 ^ min 16 IntKind.u32.bits)=((a / 65536:Nat):Int):=by rw [show min 16 IntKind.u32.bits=16 from rfl,Int.fdiv_eq_ediv_of_nonneg _ (by decide)];rfl
 have d2:((a:Nat):Int).fdiv (2 ^ min 8 IntKind.u32.bits)=((a / 256:Nat):Int):=by rw [show min 8 IntKind.u32.bits=8 from rfl,Int.fdiv_eq_ediv_of_nonneg _ (by decide)];rfl
 have d3:((a:Nat):Int).fdiv (2 ^ min 0 IntKind.u32.bits)=((a:Nat):Int):=by rw [show min 0 IntKind.u32.bits=0 from rfl,Int.fdiv_eq_ediv_of_nonneg _ (by decide)];simp
 have b0:=tW (a / 16777216) (by omega)
 have b1:=tW (a / 65536) (by omega)
 have b2:=tW (a / 256) (by omega)
 have b3:=tW a ha
 have c0:IntKind.i64.wrap ((a / 16777216 % 256:Nat):Int)=((a / 16777216 % 256:Nat):Int):=IntWalk.i64_in _ (by omega)
 have c1:IntKind.i64.wrap ((a / 65536 % 256:Nat):Int)=((a / 65536 % 256:Nat):Int):=IntWalk.i64_in _ (by omega)
 have c2:IntKind.i64.wrap ((a / 256 % 256:Nat):Int)=((a / 256 % 256:Nat):Int):=IntWalk.i64_in _ (by omega)
 have c3:IntKind.i64.wrap ((a % 256:Nat):Int)=((a % 256:Nat):Int):=IntWalk.i64_in _ (by omega)
 have i0:=t_ (a / 16777216 % 256) (by omega)
 have i1:=t_ (a / 65536 % 256) (by omega)
 have i2:=t_ (a / 256 % 256) (by omega)
 have i3:=t_ (a % 256) (by omega)
 change zi Tryz.prog _ _ (.v (.string (mkS (pc0 a)))) at i0
 change zi Tryz.prog _ _ (.v (.string (mkS (pc1 a)))) at i1
 change zi Tryz.prog _ _ (.v (.string (mkS (pc2 a)))) at i2
 change zi Tryz.prog _ _ (.v (.string (mkS (pc3 a)))) at i3
 generalize a / 16777216 % 256=n0 at *
 generalize a / 65536 % 256=n1 at *
 generalize a / 256 % 256=n2 at *
 generalize a % 256=n3 at *
 refine z7 {} 0 Tryz.func15 fun Γ hW=>auC ?_
 repeat' first|refine auS ?_|fail|refine auD ?_|(refine auW ?_ ?_<;>intro h<;>try exact auH)|fail
 apply vD
 ·exact vA ⟨.d0,.d0,.d3⟩ 1 1 rfl rfl
 refine auL ?_
 refine zw (α:=Nat×Nat×Nat) (fun x=>[(⟨.d0,.d0,.d3⟩,.sl 1 x.2.1 1 0 x.1 false),(⟨.d0,.d0,.d4⟩,.v (.int .i64 (24-8*(x.1:Nat))))]) (fun x=>[(0,none),(1,some ⟨x.2.1,1,zM ((pcA a).take x.1)⟩)]) (fun x=>x.2.2) (fun x=>4-x.1) (fun x=>x.1≤4) (0,Γ.g0,Γ.g0+1) (Nat.zero_le _) ?_ ?_
 ·skip
  refine zo ?_ ?_ (Nat.le_refl _)
  all_goals first|refine auE ?_|exact zK
  all_goals repeat' first|exact trivial|exact rfl|apply And.intro
 rintro ⟨i,nm,gn⟩ hi
 dsimp only at hi ⊢
 refine auL ?_
 obtain rfl|hlt:i=4∨i<4:=by omega
 ·have hf:uQ ⟨nm,1,zM ((pcA a).take 4)⟩ [.sl 1 nm 1 0 4 false,.v (.string ⟨#[46]⟩)] [.snap 1 ((pcA a).map fun x=>[.v (.string x)]) false,.v (.string ⟨#[46]⟩)]:=⟨.inl ⟨rfl,rfl,by show 0+4≤4;omega,rfl⟩,rfl,rfl⟩
  simp only [Uq,Int.reduceMul,Int.reduceSub]
  repeat' first|refine auS ?_|(refine xp 1 rfl hj hf rfl ?_)|refine auD ?_|(refine auW ?_ ?_<;>intro h<;>try exact auH)|fail
  all_goals try exact auP
  all_goals refine auV ?_
  all_goals try exact zc
  all_goals try simp only [hsM] at *
  all_goals rfl
 ·have:i=0∨i=1∨i=2∨i=3:=by omega
  rcases this with rfl|rfl|rfl|rfl
  all_goals simp only [Uq,Int.reduceMul,Int.reduceSub]
  all_goals dsimp only [pcA,List.take,zM,List.map,Nat.reduceMul,Nat.reduceSub]
  repeat' first|refine auS ?_|(first|(simp only [d0,d1,d2,d3,b0,b1,b2,b3,c0,c1,c2,c3])|(with_reducible refine z6 i0 ?_)|(with_reducible refine z6 i1 ?_)|(with_reducible refine z6 i2 ?_)|(with_reducible refine z6 i3 ?_))|refine auD ?_|(refine auW ?_ ?_<;>intro h<;>try exact auH)|fail
  all_goals try exact auP
  ·refine zn ⟨(1,gn+1,gn+2),by omega,by omega,?_⟩
   refine zo ?_ ?_ (Nat.le_refl _)
   all_goals first|refine auE ?_|exact zK
   all_goals repeat' first|exact trivial|exact rfl|apply And.intro
  ·refine zn ⟨(2,gn+1,gn+2),by omega,by omega,?_⟩
   refine zo ?_ ?_ (Nat.le_refl _)
   all_goals first|refine auE ?_|exact zK
   all_goals repeat' first|exact trivial|exact rfl|apply And.intro
  ·refine zn ⟨(3,gn+1,gn+2),by omega,by omega,?_⟩
   refine zo ?_ ?_ (Nat.le_refl _)
   all_goals first|refine auE ?_|exact zK
   all_goals repeat' first|exact trivial|exact rfl|apply And.intro
  ·refine zn ⟨(4,gn+1,gn+2),by omega,by omega,?_⟩
   refine zo ?_ ?_ (Nat.le_refl _)
   all_goals first|refine auE ?_|exact zK
   all_goals repeat' first|exact trivial|exact rfl|apply And.intro
end Go.Proofs.YtaiileiodjicpaaGreatDoor
