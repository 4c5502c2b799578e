import Derived.Lib.SplitLaws
set_option linter.unusedVariables false
set_option linter.unusedSimpArgs false
namespace Go.Proofs.YtaiileiodjicpaaGreatDoor
open Go
def spl (c:UInt8):List UInt8→List (List UInt8)
 |[]=>[[]]
 |b::l=>if b=c then []::spl c l else match spl c l with
  |p::ps=>(b::p)::ps
  |[]=>[[b]]
theorem pJ (c:UInt8):∀s,spl c s≠[]
 |[]=>by simp [spl]
 |b::l=>by
  unfold spl
  split
  ·simp
  ·split<;>simp
theorem lx (c:UInt8) (l:List UInt8):spl c (c::l)=[]::spl c l:=by rw [spl,if_pos rfl]
theorem th {b c:UInt8} (h:b≠c) {l p:List UInt8} {ps:List (List UInt8)} (hq:spl c l=p::ps):spl c (b::l)=(b::p)::ps:=by rw [spl,if_neg h,hq]
theorem jS {c:UInt8}:∀ {s p:List UInt8} {ps:List (List UInt8)},spl c s=p::ps→c∉p∧((ps=[]∧s=p)∨∃r,s=p++c::r∧spl c r=ps)
 |[],p,ps,h=>by
  simp [spl] at h
  obtain ⟨rfl,rfl⟩:=h
  exact ⟨by simp,.inl ⟨rfl,rfl⟩⟩
 |b::l,p,ps,h=>by
  by_cases hb:b=c
  ·subst hb
   rw [lx] at h
   obtain ⟨rfl,rfl⟩:=List.cons.inj h
   exact ⟨by simp,.inr ⟨l,rfl,rfl⟩⟩
  ·cases hq:spl c l with
   |nil=>exact absurd hq (pJ c l)
   |cons p' ps'=>
    rw [th hb hq] at h
    obtain ⟨rfl,rfl⟩:=List.cons.inj h
    obtain ⟨h1,h2⟩:=jS hq
    refine ⟨by simp [h1,Ne.symm hb],?_⟩
    rcases h2 with ⟨rfl,rfl⟩|⟨r,rfl,h3⟩
    ·exact .inl ⟨rfl,rfl⟩
    ·exact .inr ⟨r,rfl,h3⟩
theorem rj {c:UInt8}:∀ {p:List UInt8} (r:List UInt8),c∉p→spl c (p++c::r)=p::spl c r
 |[],r,_=>lx c r
 |b::p,r,h=>by
  have hb:b≠c:=fun e=>h (by simp [e])
  exact th hb (rj r (fun q=>h (by simp [q])))
theorem jM {c:UInt8}:∀ {p:List UInt8},c∉p→spl c p=[p]
 |[],_=>rfl
 |b::p,h=>by
  have hb:b≠c:=fun e=>h (by simp [e])
  exact th hb (jM (fun q=>h (by simp [q])))
end Go.Proofs.YtaiileiodjicpaaGreatDoor
