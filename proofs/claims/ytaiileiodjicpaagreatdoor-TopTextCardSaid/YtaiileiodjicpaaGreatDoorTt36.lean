import Derived.Test.YtaiileiodjicpaaGreatDoorTt35
set_option linter.unusedVariables false
set_option linter.unusedSimpArgs false
namespace Go.Proofs.YtaiileiodjicpaaGreatDoor.R
open Go
def xw (l:W8):List W8:=(spl 32 l).filter (fun w=>decide (¬w=[]))
def goP:Nat→Pl→List W8→List W8→Pl×List W8 ⊕ Int×Int
 |_,p,had,[]=>.inl (p,had)
 |i,p,had,l::ls=>match xw l with
  |[]=>goP (i+1) p had ls
  |w0::r=>
   if w0.head?=some 35 then goP (i+1) p had ls
   else if iG (yg p w0 (r,false)).2=true then .inr ((i:Int)+1,10)
   else if w0=vB∨w0=ug then goP (i+1) (yg p w0 (r,false)).1 had ls
   else if w0∈had then .inr ((i:Int)+1,8)
   else goP (i+1) (yg p w0 (r,false)).1 (had++[w0]) ls
theorem aj (i:Nat) (p:Pl) (had:List W8):goP i p had [[]]=.inl (p,had):=by
 have:xw []=[]:=by decide
 unfold goP
 rw [this]
 rfl
theorem aD {i:Nat} {p:Pl} {had:List W8} {l:W8} {ls:List W8} (h:xw l=[]):goP i p had (l::ls)=goP (i+1) p had ls:=by
 rw [goP,h]
theorem mr {i:Nat} {p:Pl} {had:List W8} {l:W8} {ls:List W8} {w0:W8} {r:List W8} (h:xw l=w0::r):goP i p had (l::ls)=if w0.head?=some 35 then goP (i+1) p had ls
   else if iG (yg p w0 (r,false)).2=true then .inr ((i:Int)+1,10)
   else if w0=vB∨w0=ug then goP (i+1) (yg p w0 (r,false)).1 had ls
   else if w0∈had then .inr ((i:Int)+1,8)
   else goP (i+1) (yg p w0 (r,false)).1 (had++[w0]) ls:=by
 rw [goP,h]
theorem eJ {l w:W8} (h:w∈xw l):w≠[]∧32∉w:=by
 unfold xw at h
 rw [List.mem_filter] at h
 refine ⟨by simpa using h.2,?_⟩
 have:∀(l:W8),w∈spl 32 l→(32:UInt8)∉w:=fun l=>by
  induction l with
  |nil=>
   intro h
   simp [spl] at h
   subst h
   simp
  |cons b l ih=>
   intro h
   by_cases hb:b=32
   ·subst hb
    rw [lx] at h
    rcases List.mem_cons.1 h with rfl|h
    ·simp
    ·exact ih h
   ·cases hq:spl 32 l with
    |nil=>exact absurd hq (pJ 32 l)
    |cons p ps=>
     rw [th hb hq] at h
     rw [hq] at ih
     have hp:=(jS hq).1
     rcases List.mem_cons.1 h with rfl|h
     ·simp [hp,Ne.symm hb]
     ·exact ih (List.mem_cons_of_mem _ h)
 exact this l h.1
def Vb:List W8:=[yT,zJ,y7,y6,y5]
end Go.Proofs.YtaiileiodjicpaaGreatDoor.R
