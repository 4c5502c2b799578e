import Derived.Test.YtaiileiodjicpaaGreatDoorTt34
import Derived.Lib.ParseIntBCases
import Derived.Test.YtaiileiodjicpaaGreatDoorTt07
set_option linter.unusedVariables false
set_option linter.unusedSimpArgs false
namespace Go.Proofs.YtaiileiodjicpaaGreatDoor.R
open Go
theorem ji:∀n:Nat,(Lib.decDigits n).all isD=true∧et (Lib.decDigits n)=n∧1≤(Lib.decDigits n).length:=fun n=>by
 induction n using Nat.strongRecOn with
 |_ n ih=>
  have hd:∀k,k<10→isD (UInt8.ofNat (48+k))=true∧(UInt8.ofNat (48+k)).toNat-48=k:=fun k hk=>by
   have:∀k:Fin 10,isD (UInt8.ofNat (48+k.val))=true∧(UInt8.ofNat (48+k.val)).toNat-48=k.val:=by decide +kernel
   exact this ⟨k,hk⟩
  rw [Lib.decDigits]
  split
  ·rename_i h
   obtain ⟨h1,h2⟩:=hd n h
   generalize UInt8.ofNat (48+n)=c at *
   exact ⟨by simp [h1],by simpa [et] using h2,by simp⟩
  ·rename_i h
   obtain ⟨i1,i2,i3⟩:=ih (n / 10) (by omega)
   obtain ⟨h1,h2⟩:=hd (n % 10) (Nat.mod_lt _ (by decide))
   generalize UInt8.ofNat (48+n % 10)=c at *
   refine ⟨by simp [i1,h1],?_,by simp⟩
   have:et (Lib.decDigits (n / 10)++[c])=10*et (Lib.decDigits (n / 10))+(c.toNat-48):=by
    unfold et
    rw [List.foldl_append]
    rfl
   rw [this,i2,h2]
   omega
theorem pum (M:Nat) (hM:M≤18446744073709551615):∀(l:List UInt8) (acc:Nat),l.all isD=true→l.foldl (fun a b=>10*a+(b.toNat-48)) acc≤M→Lib.parseUintM M acc l=.ok (l.foldl (fun a b=>10*a+(b.toNat-48)) acc)
 |[],acc,_,_=>rfl
 |b::l,acc,hd,hm=>by
  have hb:48≤b.toNat∧b.toNat≤57:=of_decide_eq_true (List.all_eq_true.1 hd b (by simp))
  have hl:l.all isD=true:=List.all_eq_true.2 fun x hx=>List.all_eq_true.1 hd x (by simp [hx])
  have hmono:∀(l:List UInt8) (a:Nat),a≤l.foldl (fun a b=>10*a+(b.toNat-48)) a:=fun l=>by
   induction l with
   |nil=>intro a;exact Nat.le_refl _
   |cons c r ih=>intro a;exact Nat.le_trans (show a≤10*a+(c.toNat-48) by omega) (ih _)
  have h1:=hmono l (10*acc+(b.toNat-48))
  rw [List.foldl_cons] at hm ⊢
  rw [Lib.parseUintM,if_pos hb,if_neg (by omega),if_neg (by omega),Nat.mul_comm acc 10]
  exact pum M hM l _ hl hm
theorem WM (n:Nat) (h:n≤18446744073709551615):Lib.parseUintB 64 (Lib.decDigits n)=.ok n:=by
 obtain ⟨h1,h2,h3⟩:=ji n
 unfold Lib.parseUintB
 rw [if_neg (by intro q;rw [q] at h3;simp at h3)]
 have:=pum (2 ^ 64-1) (by decide) (Lib.decDigits n) 0 h1 (by
  show et (Lib.decDigits n)≤_
  rw [h2]
  exact h)
 rw [this]
 exact congrArg _ h2
def vOk (s:List UInt8):Bool:=match Lib.parseUintB 64 s with
 |.ok n=>decide (s.length≤10)&&decide (Lib.decDigits n=s)
 |_=>false
def vN (s:List UInt8):Int:=match Lib.parseUintB 64 s with
 |.ok n=>IntKind.i64.wrap (n:Nat)
 |.range=>-1
 |_=>0
end Go.Proofs.YtaiileiodjicpaaGreatDoor.R
namespace Go.Proofs.YtaiileiodjicpaaGreatDoor.R
open Go
abbrev W8:=List UInt8
abbrev vB:W8:=[112,97,115,115]
abbrev ug:W8:=[100,114,111,112]
abbrev yT:W8:=[111,117,116,115,105,100,101]
abbrev zJ:W8:=[112,111,114,116,115]
abbrev y7:W8:=[108,105,102,101]
abbrev y6:W8:=[114,97,116,101]
abbrev y5:W8:=[101,108,115,101]
def xX (c:UInt8):W8→W8×W8×Bool
 |[]=>([],[],false)
 |b::l=>if b=c then ([],l,true) else (b::(xX c l).1,(xX c l).2.1,(xX c l).2.2)
theorem j5 {c:UInt8}:∀ {l:W8},Lib.indexByte l c = -1→xX c l=(l,[],false)
 |[],_=>rfl
 |b::l,h=>by
  unfold Lib.indexByte at h
  split at h
  ·cases h
  ·rename_i hb
   have hb':¬b=c:=by simpa using hb
   have hge:=Lib.indexByte_ge l c
   have hm:Lib.indexByte l c = -1:=by
    split at h
    ·rename_i q;simpa using q
    ·omega
   unfold xX
   rw [if_neg hb',j5 hm]
theorem iX {c:UInt8}:∀ {l:W8} {i:Nat},Lib.indexByte l c=(i:Int)→xX c l=(l.take i,l.drop (i+1),true)∧i<l.length
 |[],i,h=>by simp [Lib.indexByte] at h
 |b::l,i,h=>by
  unfold Lib.indexByte at h
  split at h
  ·rename_i hb
   have hb':b=c:=by simpa using hb
   obtain rfl:i=0:=by omega
   unfold xX
   rw [if_pos hb']
   exact ⟨rfl,Nat.succ_pos _⟩
  ·rename_i hb
   have hb':¬b=c:=by simpa using hb
   split at h
   ·omega
   ·rename_i hm
    obtain ⟨k,rfl⟩:∃k,i=k+1:=⟨i-1,by
     have:=Lib.indexByte_ge l c
     have:¬Lib.indexByte l c = -1:=by simpa using hm
     omega⟩
    have hk:Lib.indexByte l c=(k:Int):=by omega
    obtain ⟨e1,e2⟩:=iX hk
    unfold xX
    rw [if_neg hb',e1]
    exact ⟨rfl,by simp [e2]⟩
theorem X7 {c:UInt8} (l:W8):(xX c l).1.length≤l.length∧(xX c l).2.1.length≤l.length∧(l≠[]→(xX c l).2.1.length<l.length):=by
 induction l with
 |nil=>exact ⟨Nat.le_refl _,Nat.le_refl _,fun h=>absurd rfl h⟩
 |cons b l ih=>
  unfold xX
  split
  ·simp
  ·simp only [List.length_cons]
   omega
abbrev WS:=List W8×Bool
def nx (t:WS):W8×WS:=match t.1 with
 |[]=>([],([],true))
 |s::r=>(s,(r,t.2))
def vl (s:W8) (t:WS):Int×WS:=(vN s,(t.1,t.2 || !vOk s))
def nu (t:WS):Int×WS:=vl (nx t).1 (nx t).2
def ad (s:W8) (t:WS):Int×WS:=(((lM s).1:Nat),(t.1,t.2||decide (¬(lM s).2=0)))
def pa (c:UInt8) (t:WS):(W8×W8)×WS:=(((xX c (nx t).1).1,(xX c (nx t).1).2.1),((nx t).2.1,(nx t).2.2 || !(xX c (nx t).1).2.2))
def nt (t:WS):(Int×Int)×WS:=(((ad (pa 47 t).1.1 (pa 47 t).2).1,(vl (pa 47 t).1.2 (ad (pa 47 t).1.1 (pa 47 t).2).2).1),(vl (pa 47 t).1.2 (ad (pa 47 t).1.1 (pa 47 t).2).2).2)
def bo (t:WS):(Int×Int)×WS:=(((vl (pa 45 t).1.1 (pa 45 t).2).1,(vl (pa 45 t).1.2 (vl (pa 45 t).1.1 (pa 45 t).2).2).1),(vl (pa 45 t).1.2 (vl (pa 45 t).1.1 (pa 45 t).2).2).2)
def vd (s:W8) (t:WS):Bool×WS:=(decide (s=vB),(t.1,t.2 || !(decide (s=vB)||decide (s=ug))))
def dN (w0:W8) (t:WS):Rl×WS:=
 let v:=vd w0 t
 let a:=nt v.2
 let b:=nt a.2
 let c:=nu b.2
 let d:=bo c.2
 let e:=bo d.2
 (⟨a.1.1,a.1.2,b.1.1,b.1.2,c.1,d.1.1,d.1.2,e.1.1,e.1.2,v.1⟩,e.2)
def yg (p:Pl) (w0:W8) (t:WS):Pl×WS:=
 if w0=yT then ({ p with ou:=(ad (nx t).1 (nx t).2).1 },(ad (nx t).1 (nx t).2).2)
 else if w0=zJ then ({ p with lt:=(nu t).1,st:=(nu (nu t).2).1 },(nu (nu t).2).2)
 else if w0=y7 then ({ p with lf:=(nu t).1 },(nu t).2)
 else if w0=y6 then ({ p with ra:=(nu t).1,mo:=(nu (nu t).2).1 },(nu (nu t).2).2)
 else if w0=y5 then ({ p with el:=(vd (nx t).1 (nx t).2).1 },(vd (nx t).1 (nx t).2).2)
 else ({ p with rs:=p.rs++[(dN w0 t).1] },(dN w0 t).2)
def iG (t:WS):Bool:=t.2||decide (0<t.1.length)
end Go.Proofs.YtaiileiodjicpaaGreatDoor.R
