import Derived.Test.YtaiileiodjicpaaGreatDoorTt04
import Derived.Laws.BitsAll
set_option linter.unusedVariables false
set_option linter.unusedSimpArgs false
namespace Go.Proofs.YtaiileiodjicpaaGreatDoor
def mkS (l:List UInt8):ByteArray:=⟨l.toArray⟩
theorem Z8 (t:ByteArray):mkS t.data.toList=t:=by cases t;simp [mkS]
theorem za (l:List UInt8):(mkS l).size=l.length:=by simp [mkS,ByteArray.size]
theorem zu (a b:List UInt8):mkS a++mkS b=mkS (a++b):=by
 apply ByteArray.ext;rw [ByteArray.data_append];simp [mkS]
theorem yW (l:List UInt8) (a b:Nat):(mkS l).extract a b=mkS ((l.drop a).take (b-a)):=by
 apply ByteArray.ext;rw [ByteArray.data_extract];simp [mkS]
theorem zg {a b:List UInt8}:mkS a=mkS b↔a=b:=by
 constructor
 ·intro h
  have:(mkS a).data.toList=(mkS b).data.toList:=by rw [h]
  simpa [mkS] using this
 ·rintro rfl;rfl
def bN (l:List UInt8) (i:Nat):Nat:=((l[i]?).getD 0).toNat
theorem w_ (l:List UInt8) (i:Nat):bN l i<256:=UInt8.toNat_lt _
theorem zW (l:List UInt8) (i:Nat):nK (mkS l) i=((bN l i:Nat):Int):=by
 unfold nK bN
 congr 3
 by_cases h:i<l.length
 ·have h2:i<(mkS l).size:=by rw [za];exact h
  rw [getElem?_pos (mkS l) i h2,List.getElem?_eq_getElem h]
  rfl
 ·have h2:¬i<(mkS l).size:=by rw [za];exact h
  rw [getElem?_neg (mkS l) i h2,List.getElem?_eq_none (by omega)]
theorem Xt (n:Int):IntKind.u64.wrap n=n % 18446744073709551616:=by simp [IntKind.wrap,IntKind.bits,IntKind.signed]
theorem n_ (n:Int):IntKind.u16.wrap n=n % 65536:=by simp [IntKind.wrap,IntKind.bits,IntKind.signed]
theorem yc (n:Int) (h0:0≤n) (h1:n<2 ^ 64):IntKind.u64.wrap n=n:=by rw [Xt];omega
theorem jb (k:IntKind) (a b:Int):bits .or k a b=bits .or k b a:=by simp only [bits];rw [BitVec.or_comm]
theorem fk (i:Nat) (x y:Int) (hx₀:0≤x) (hx:x % 2 ^ i=0) (hx₁:x<2 ^ 64) (hy₀:0≤y) (hy:y<2 ^ i) (hy₁:y<2 ^ 64):bits .or .u64 x y=x+y:=
 bits_join .u64 64 (by decide) yc i x y hx₀ hx hx₁ hy₀ hy hy₁
theorem rh {α:Type} {l:List α} {i:Nat} {b:α} (h:l[i]?=some b):l.take (i+1)=l.take i++[b]:=by rw [List.take_add_one,h];rfl
theorem Xo {l:List UInt8} {i:Nat} {b:UInt8} (h:l[i]?=some b):bN l i=b.toNat:=by unfold bN;rw [h];rfl
theorem ZD (xs:List (List DV)):td xs=mkS (xs.map Z5):=rfl
theorem fx (a b:Int):td [[.v (.int .u8 a)],[.v (.int .u8 b)]]=mkS [UInt8.ofNat a.toNat,UInt8.ofNat b.toNat]:=rfl
theorem VI (a b c d:Int):td [[.v (.int .u8 a)],[.v (.int .u8 b)],[.v (.int .u8 c)],[.v (.int .u8 d)]]=mkS [UInt8.ofNat a.toNat,UInt8.ofNat b.toNat,UInt8.ofNat c.toNat,UInt8.ofNat d.toNat]:=rfl
end Go.Proofs.YtaiileiodjicpaaGreatDoor
