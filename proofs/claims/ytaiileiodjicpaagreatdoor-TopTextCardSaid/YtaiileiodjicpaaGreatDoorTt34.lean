import Derived.Test.YtaiileiodjicpaaGreatDoorTt33
import Derived.Lib.ItoaNum
import Derived.Lib.ParseIntB
import Derived.Lib.Join
set_option linter.unusedVariables false
set_option linter.unusedSimpArgs false
namespace Go.Proofs.YtaiileiodjicpaaGreatDoor
open Go
def dS (n:Nat):List UInt8:=
 if n<10 then [UInt8.ofNat (48+n)] else if n<100 then [UInt8.ofNat (48+n / 10),UInt8.ofNat (48+n % 10)] else [UInt8.ofNat (48+n / 10 / 10),UInt8.ofNat (48+n / 10 % 10),UInt8.ofNat (48+n % 10)]
theorem rt {n:Nat} (h:n<1000):Lib.decDigits n=dS n:=by
 unfold dS
 split
 ·rename_i h1
  rw [Lib.decDigits,dif_pos h1]
 ·rename_i h1
  rw [Lib.decDigits,dif_neg h1]
  split
  ·rename_i h2
   rw [Lib.decDigits,dif_pos (by omega)]
   rfl
  ·rename_i h2
   rw [Lib.decDigits,dif_neg (by omega),Lib.decDigits,dif_pos (by omega)]
   rfl
def isD (b:UInt8):Bool:=decide (48≤b.toNat∧b.toNat≤57)
def et (l:List UInt8):Nat:=l.foldl (fun a b=>10*a+(b.toNat-48)) 0
theorem fT:∀n:Fin 256,et (dS n.val)=n.val∧(dS n.val).all isD=true∧1≤(dS n.val).length∧(dS n.val).length≤9∧Lib.parseUintB 8 (dS n.val)=.ok n.val∧(46:UInt8)∉dS n.val:=by decide +kernel
def xh (a:Nat):List UInt8:=Lib.join [Lib.decDigits (a / 16777216 % 256),Lib.decDigits (a / 65536 % 256),Lib.decDigits (a / 256 % 256),Lib.decDigits (a % 256)] [46]
theorem pb (a:Nat):xh a=dS (a / 16777216 % 256)++46::(dS (a / 65536 % 256)++46::(dS (a / 256 % 256)++46::dS (a % 256))):=by
 unfold xh
 rw [rt (by omega),rt (by omega),rt (by omega),rt (by omega)]
 simp [Lib.join,List.intercalate,List.intersperse]
theorem bf (a:Nat):spl 46 (xh a)=[dS (a / 16777216 % 256),dS (a / 65536 % 256),dS (a / 256 % 256),dS (a % 256)]:=by
 have hn:∀n,(46:UInt8)∉dS (n % 256):=fun n=>(fT ⟨n % 256,Nat.mod_lt _ (by decide)⟩).2.2.2.2.2
 rw [pb,rj _ (hn _),rj _ (hn _),rj _ (hn _),jM (hn _)]
def tc:Nat→List (List UInt8)→Option Nat
 |a,[]=>some a
 |a,w::r=>match Lib.parseUintB 8 w with
  |.ok n=>tc ((a*256+n) % 4294967296) r
  |_=>none
def lM (s:List UInt8):Nat×Int:=match tc 0 (spl 46 s) with
 |some a=>if xh a=s then (a,0) else (0,10)
 |none=>(0,10)
theorem pf {a n:Nat} (h:n<256) (r:List (List UInt8)):tc a (dS n::r)=tc ((a*256+n) % 4294967296) r:=by
 have:=(fT ⟨n,h⟩).2.2.2.2.1
 dsimp only at this
 rw [tc,this]
theorem YU {n0 n1 n2 n3:Nat} (h0:n0<256) (h1:n1<256) (h2:n2<256) (h3:n3<256):tc 0 [dS n0,dS n1,dS n2,dS n3]=some (16777216*n0+65536*n1+256*n2+n3):=by
 rw [pf h0,pf h1,pf h2,pf h3,tc]
 congr 1
 omega
end Go.Proofs.YtaiileiodjicpaaGreatDoor
