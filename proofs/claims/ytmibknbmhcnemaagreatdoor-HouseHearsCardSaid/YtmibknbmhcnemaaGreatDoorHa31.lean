import Derived.Test.YtmibknbmhcnemaaGreatDoorHa15
set_option linter.unusedVariables false
set_option linter.unusedSimpArgs false
namespace Go.Proofs.YtmibknbmhcnemaaGreatDoor.T
def knB (l:List Tk) (a b c d now:Int):Bool:=decide (rt l now=0)&&l.any (fun t=>t.along a b c d && !t.old now)
theorem V0 (l:List Tk) (a b c d now:Int):∃ (t:Tk) (e:Int),zd Tryz.prog 152 [.snap 7 (l.map Tk.enc) false,dR a b c d,.v (.int .i64 now)] (.tup [dT t.a t.b t.c t.d t.s t.o t.x,.v (.bool (knB l a b c d now)),.v (.int .i64 e)]):=by
 by_cases h0:rt l now=0
 ·have hk:knB l a b c d now=l.any (fun t=>t.along a b c d && !t.old now):=by unfold knB;rw [decide_eq_true h0,Bool.true_and]
  rcases yD (fun t:Tk=>t.along a b c d) l 0 with ⟨h1,h2⟩|⟨i,t,h1,h2,h3,h4⟩
  ·have e:knB l a b c d now=false:=by
    rw [hk,List.any_eq_false]
    intro x hx
    simp [h2 x hx]
   rw [e]
   exact ⟨⟨0,0,0,0,0,0,0⟩,0,az l a b c d now h0 h2⟩
  ·have hg:=(zr (show y9 l=0 by have:=u9 l now;omega)).2
   have e:knB l a b c d now = !t.old now:=by
    rw [hk,Bool.eq_iff_iff,List.any_eq_true]
    constructor
    ·rintro ⟨y,hy,hq⟩
     rw [Bool.and_eq_true] at hq
     obtain ⟨j,hj⟩:=List.mem_iff_getElem?.1 hy
     obtain rfl:=a_ hg h1 hj h2 hq.1
     rw [Option.some.inj (h1.symm.trans hj)]
     exact hq.2
    ·intro hq
     exact ⟨t,List.mem_of_getElem? h1,by rw [h2,hq];rfl⟩
   rw [e]
   have hs:=W5 l a b c d now h0 i t h1 (by rw [h4];omega)
   cases ho:t.old now with
   |true=>rw [ho,if_pos rfl] at hs;exact ⟨⟨0,0,0,0,0,0,0⟩,0,hs⟩
   |false=>rw [ho,if_neg (by simp)] at hs;exact ⟨t,0,hs⟩
 ·have e:knB l a b c d now=false:=by unfold knB;rw [decide_eq_false h0,Bool.false_and]
  rw [e]
  exact ⟨⟨0,0,0,0,0,0,0⟩,_,ZD l a b c d now h0⟩
def qp (l:List Tk) (a b c d fl now:Int):List Tk×Bool×Int:=
 if y9 l≠0 then (l,false,y9 l) else if s9 l a b c d fl now=false then (l,false,1) else
 match decide (0≤zk (fun t:Tk=>t.along a b c d) (yng l now) 0),(yng l now)[(zk (fun t:Tk=>t.along a b c d) (yng l now) 0).toNat]? with
 |true,some t=>x_ l a b c d now (decide (fl.toNat / 2 % 2=1)) (decide (fl.toNat / 16 % 2=1)) (decide (fl.toNat % 2=1)) (decide (fl.toNat / 4 % 2=1)) (zk (fun t:Tk=>t.along a b c d) (yng l now) 0).toNat t
 |_,_=>vF l a b c d now (decide (fl.toNat / 2 % 2=1)) (decide (fl.toNat / 16 % 2=1)) (decide (fl.toNat % 2=1)) (decide (fl.toNat / 4 % 2=1))
theorem qI {l:List Tk} {a b c d fl now:Int} {Q:List Tk×Bool×Int→Prop} (h1:y9 l≠0→Q (l,false,y9 l)) (h2:y9 l=0→s9 l a b c d fl now=false→Q (l,false,1))
  (h3:∀syn ack fin rst,y9 l=0→s9 l a b c d fl now=true→vG fl syn ack fin rst→zk (fun t:Tk=>t.along a b c d) (yng l now) 0 = -1→Q (vF l a b c d now syn ack fin rst))
  (h4:∀syn ack fin rst (i:Nat) (t:Tk),y9 l=0→s9 l a b c d fl now=true→vG fl syn ack fin rst→(yng l now)[i]?=some t→zk (fun t:Tk=>t.along a b c d) (yng l now) 0=i→Q (x_ l a b c d now syn ack fin rst i t)):Q (qp l a b c d fl now):=by
 unfold qp
 by_cases he:y9 l=0
 ·rw [if_neg (not_not_intro he)]
  cases hb:s9 l a b c d fl now with
  |false=>rw [if_pos rfl];exact h2 he hb
  |true=>
   rw [if_neg (by simp)]
   have hfl:0≤fl∧fl≤255:=by unfold s9 at hb;rw [Bool.and_eq_true,decide_eq_true_eq] at hb;exact hb.2.1
   have hf:vG fl (decide (fl.toNat / 2 % 2=1)) (decide (fl.toNat / 16 % 2=1)) (decide (fl.toNat % 2=1)) (decide (fl.toNat / 4 % 2=1)):=by
    have:=bE ⟨fl.toNat,by omega⟩
    rw [show (((⟨fl.toNat,by omega⟩:Fin 256).val:Nat):Int)=fl by simp;omega] at this
    exact this
   rcases yD (fun t:Tk=>t.along a b c d) (yng l now) 0 with ⟨g1,g2⟩|⟨i,t,g1,g2,g3,g4⟩
   ·rw [g1,show decide (0≤(-1:Int))=false from rfl]
    cases (yng l now)[((-1:Int)).toNat]?<;>exact h3 _ _ _ _ he hb hf g1
   ·rw [Nat.zero_add] at g4
    rw [g4,Int.toNat_natCast,g1,decide_eq_true (Int.natCast_nonneg i)]
    exact h4 _ _ _ _ i t he hb hf g1 g4
 ·rw [if_pos he]
  exact h1 he
theorem oB (l:List Tk) (a b c d fl now:Int) (hr:zT l.length 48):zd Tryz.prog 157 [.snap 7 (l.map Tk.enc) false,dR a b c d,.v (.int .i64 fl),.v (.int .i64 now)] (hD (qp l a b c d fl now)):=
 qI (Q:=fun r=>zd Tryz.prog 157 [.snap 7 (l.map Tk.enc) false,dR a b c d,.v (.int .i64 fl),.v (.int .i64 now)] (hD r)) (fun h=>V_ l a b c d fl now hr h) (fun h h'=>YW l a b c d fl now hr h h')
  (fun s1 s2 s3 s4 h1 h2 h3 h4=>Z4 l a b c d fl now hr h1 h2 s1 s2 s3 s4 h3 h4) (fun s1 s2 s3 s4 i t h1 h2 h3 h4 h5=>aB l a b c d fl now hr h1 h2 s1 s2 s3 s4 h3 i t h4 h5)
end Go.Proofs.YtmibknbmhcnemaaGreatDoor.T
