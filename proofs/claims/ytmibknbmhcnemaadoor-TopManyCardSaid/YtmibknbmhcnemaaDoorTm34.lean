import Derived.Test.YtmibknbmhcnemaaDoorTm27
import Derived.Test.YtmibknbmhcnemaaDoorTm29
import Derived.Test.YtmibknbmhcnemaaDoorTm31
import Derived.Test.YtmibknbmhcnemaaDoorTm33
set_option linter.unusedVariables false
set_option linter.unusedSimpArgs false
namespace Go.Proofs.YtmibknbmhcnemaaDoor
attribute [local irreducible] zz Go
set_option maxRecDepth 100000
structure Fl where
 (fr to proto fp tp:Int)
abbrev Fl.enc (f:Fl):List DV:=[.v (.int .u32 f.fr),.v (.int .u32 f.to),.v (.int .i64 f.proto),.v (.int .i64 f.fp),.v (.int .i64 f.tp)]
def fl0:Fl:=⟨0,0,0,0,0⟩
abbrev dFE (r:Fl×Int):DV:=.tup [.agg r.1.enc,.v (.int .i64 r.2)]
def edP (p:Pk):Fl×Int:=
 if ¬(p.proto=6∨p.proto=17) then (fl0,7)
 else if p.mo=true∨p.start≠0 then (fl0,9)
 else if p.proto=6 then (if (rdS p.data p.fr p.to).2=0 then (⟨p.fr,p.to,6,z3 p.data 0,z3 p.data 2⟩,0) else (fl0,(rdS p.data p.fr p.to).2))
 else (if (rdL p.data p.fr p.to).2=0 then (⟨p.fr,p.to,17,z3 p.data 0,z3 p.data 2⟩,0) else (fl0,(rdL p.data p.fr p.to).2))
def edR (s:List UInt8):Fl×Int:=if yd s=0 then edP (rdP s) else (fl0,yd s)
theorem de {s:List UInt8} {a b:Int} (h:(rdS s a b).2=0):(rdS s a b).1.fr=z3 s 0∧(rdS s a b).1.to=z3 s 2∧20≤s.length:=by
 unfold rdS at h ⊢
 split at h
 ·cases h
 rename_i h1
 rw [if_neg h1]
 split at h
 ·cases h
 rename_i h2
 rw [if_neg h2]
 split at h
 ·cases h
 rename_i h3
 rw [if_neg h3]
 cases hq:prs ((s.drop 20).take (nW s-20)) with
 |none=>rw [hq] at h;cases h
 |some l=>
  rw [hq] at h
  dsimp only at h ⊢
  split at h
  ·cases h
  ·rename_i h4
   rw [if_neg h4]
   exact ⟨rfl,rfl,by omega⟩
theorem dp {s:List UInt8} {a b:Int} (h:(rdL s a b).2=0):(rdL s a b).1.1=z3 s 0∧(rdL s a b).1.2.1=z3 s 2∧8≤s.length:=by
 unfold rdL at h ⊢
 split at h
 ·cases h
 rename_i h1
 rw [if_neg h1]
 split at h
 ·cases h
 rename_i h2
 rw [if_neg h2]
 split at h
 ·cases h
 ·rename_i h3
  rw [if_neg h3]
  exact ⟨rfl,rfl,by omega⟩
set_option maxHeartbeats 4000000 in
theorem uB (s:List UInt8) (hs:s.length≤140737488351232):zf Tryd.prog 9 [.v (.string (mkS s))] (dFE (edR s)):=by
 have hr:=tJ s hs
 by_cases he:yd s=0
 rotate_left
 ·have e1:rpR s=(pk0,yd s):=by unfold rpR;rw [if_neg he]
  have e2:edR s=(fl0,yd s):=by unfold edR;rw [if_neg he]
  rw [e1] at hr
  rw [e2]
  clear e1 e2
  generalize yd s=e at *
  unfold pk0 at hr
  unfold fl0
  refine z4 {} 0 Tryd.func9 fun Γ hW=>auC ?_
  repeat' first|refine auS ?_|(first|(with_reducible refine z0 hr ?_)|(with_reducible refine z0 ht ?_)|(with_reducible refine z0 hl ?_)|(with_reducible refine z0 w0 ?_)|(with_reducible refine z0 w2 ?_))|refine auD ?_|(refine auW ?_ ?_<;>intro h<;>try exact auH)|fail
  all_goals try exact auP
  all_goals first
   |(exfalso;simp_all;done)
   |skip
  all_goals refine auV ?_
  all_goals try exact z_
  all_goals try simp only [hsM] at *
  all_goals rfl
 have e1:rpR s=(rdP s,0):=by unfold rpR;rw [if_pos he]
 have e2:edR s=edP (rdP s):=by unfold edR;rw [if_pos he]
 have hd:(rdP s).data.length≤140737488351232:=by simp only [rdP,List.length_take,List.length_drop];omega
 have hf:0≤(rdP s).fr∧(rdP s).fr<4294967296:=uc s 12
 have hto:0≤(rdP s).to∧(rdP s).to<4294967296:=uc s 16
 have hst:0≤(rdP s).start:=Int.emod_nonneg _ (by decide)
 rw [e1] at hr
 rw [e2]
 clear e1 e2 he
 generalize rdP s=p at *
 have ht:=o7 p.data p.fr p.to hf hto hd
 have hl:=jF p.data p.fr p.to hf hto hd
 obtain ⟨tos,id,wh,mo,start,life,proto,fr,to,opt,data⟩:=p
 dsimp only at *
 by_cases h1:proto=6∨proto=17
 rotate_left
 ·have e3:edP ⟨tos,id,wh,mo,start,life,proto,fr,to,opt,data⟩=(fl0,7):=by unfold edP;rw [if_pos h1]
  rw [e3]
  clear e3
  unfold fl0
  refine z4 {} 0 Tryd.func9 fun Γ hW=>auC ?_
  repeat' first|refine auS ?_|(first|(with_reducible refine z0 hr ?_)|(with_reducible refine z0 ht ?_)|(with_reducible refine z0 hl ?_)|(with_reducible refine z0 w0 ?_)|(with_reducible refine z0 w2 ?_))|refine auD ?_|(refine auW ?_ ?_<;>intro h<;>try exact auH)|fail
  all_goals try exact auP
  all_goals first
   |(exfalso;simp_all;done)
   |skip
  all_goals refine auV ?_
  all_goals try exact z_
  all_goals try simp only [hsM] at *
  all_goals rfl
 by_cases h2:mo=true∨start≠0
 ·have e3:edP ⟨tos,id,wh,mo,start,life,proto,fr,to,opt,data⟩=(fl0,9):=by unfold edP;rw [if_neg (not_not_intro h1),if_pos h2]
  rw [e3]
  clear e3
  unfold fl0
  cases mo with
  |true=>
   clear h2
   rcases h1 with rfl|rfl
   ·skip
    refine z4 {} 0 Tryd.func9 fun Γ hW=>auC ?_
    repeat' first|refine auS ?_|(first|(with_reducible refine z0 hr ?_)|(with_reducible refine z0 ht ?_)|(with_reducible refine z0 hl ?_)|(with_reducible refine z0 w0 ?_)|(with_reducible refine z0 w2 ?_))|refine auD ?_|(refine auW ?_ ?_<;>intro h<;>try exact auH)|fail
    all_goals try exact auP
    all_goals first
     |(exfalso;simp_all;done)
     |skip
    all_goals refine auV ?_
    all_goals try exact z_
    all_goals try simp only [hsM] at *
    all_goals rfl
   ·skip
    refine z4 {} 0 Tryd.func9 fun Γ hW=>auC ?_
    repeat' first|refine auS ?_|(first|(with_reducible refine z0 hr ?_)|(with_reducible refine z0 ht ?_)|(with_reducible refine z0 hl ?_)|(with_reducible refine z0 w0 ?_)|(with_reducible refine z0 w2 ?_))|refine auD ?_|(refine auW ?_ ?_<;>intro h<;>try exact auH)|fail
    all_goals try exact auP
    all_goals first
     |(exfalso;simp_all;done)
     |skip
    all_goals refine auV ?_
    all_goals try exact z_
    all_goals try simp only [hsM] at *
    all_goals rfl
  |false=>
   have h3:start≠0:=h2.resolve_left (by simp)
   clear h2
   rcases h1 with rfl|rfl
   ·skip
    refine z4 {} 0 Tryd.func9 fun Γ hW=>auC ?_
    repeat' first|refine auS ?_|(first|(with_reducible refine z0 hr ?_)|(with_reducible refine z0 ht ?_)|(with_reducible refine z0 hl ?_)|(with_reducible refine z0 w0 ?_)|(with_reducible refine z0 w2 ?_))|refine auD ?_|(refine auW ?_ ?_<;>intro h<;>try exact auH)|fail
    all_goals try exact auP
    all_goals first
     |(exfalso;simp_all;done)
     |skip
    all_goals refine auV ?_
    all_goals try exact z_
    all_goals try simp only [hsM] at *
    all_goals rfl
   ·skip
    refine z4 {} 0 Tryd.func9 fun Γ hW=>auC ?_
    repeat' first|refine auS ?_|(first|(with_reducible refine z0 hr ?_)|(with_reducible refine z0 ht ?_)|(with_reducible refine z0 hl ?_)|(with_reducible refine z0 w0 ?_)|(with_reducible refine z0 w2 ?_))|refine auD ?_|(refine auW ?_ ?_<;>intro h<;>try exact auH)|fail
    all_goals try exact auP
    all_goals first
     |(exfalso;simp_all;done)
     |skip
    all_goals refine auV ?_
    all_goals try exact z_
    all_goals try simp only [hsM] at *
    all_goals rfl
 obtain ⟨rfl,rfl⟩:mo=false∧start=0:=⟨by simpa using fun q=>h2 (.inl q),Decidable.byContradiction fun q=>h2 (.inr q)⟩
 have e3:edP ⟨tos,id,wh,false,0,life,proto,fr,to,opt,data⟩=if proto=6 then (if (rdS data fr to).2=0 then (⟨fr,to,6,z3 data 0,z3 data 2⟩,0) else (fl0,(rdS data fr to).2)) else (if (rdL data fr to).2=0 then (⟨fr,to,17,z3 data 0,z3 data 2⟩,0) else (fl0,(rdL data fr to).2)):=by unfold edP;rw [if_neg (not_not_intro h1),if_neg h2]
 rw [e3]
 clear e3 h2
 rcases h1 with rfl|rfl
 ·rw [if_pos rfl]
  by_cases h4:(rdS data fr to).2=0
  ·obtain ⟨q1,q2,q3⟩:=de h4
   rw [if_pos h4]
   have w0:=True.intro
   have w2:=True.intro
   generalize z3 data 0=v0 at *
   generalize z3 data 2=v2 at *
   generalize rdS data fr to=r at *
   obtain ⟨g,ge⟩:=r
   dsimp only at *
   subst h4 q1 q2
   refine z4 {} 0 Tryd.func9 fun Γ hW=>auC ?_
   repeat' first|refine auS ?_|(first|(with_reducible refine z0 hr ?_)|(with_reducible refine z0 ht ?_)|(with_reducible refine z0 hl ?_)|(with_reducible refine z0 w0 ?_)|(with_reducible refine z0 w2 ?_))|refine auD ?_|(refine auW ?_ ?_<;>intro h<;>try exact auH)|fail
   all_goals try exact auP
   all_goals first
    |(exfalso;simp_all;done)
    |skip
   all_goals refine auV ?_
   all_goals try exact z_
   all_goals try simp only [hsM] at *
   all_goals rfl
  ·rw [if_neg h4]
   generalize rdS data fr to=r at *
   obtain ⟨g,ge⟩:=r
   dsimp only at *
   unfold fl0
   refine z4 {} 0 Tryd.func9 fun Γ hW=>auC ?_
   repeat' first|refine auS ?_|(first|(with_reducible refine z0 hr ?_)|(with_reducible refine z0 ht ?_)|(with_reducible refine z0 hl ?_)|(with_reducible refine z0 w0 ?_)|(with_reducible refine z0 w2 ?_))|refine auD ?_|(refine auW ?_ ?_<;>intro h<;>try exact auH)|fail
   all_goals try exact auP
   all_goals first
    |(exfalso;simp_all;done)
    |skip
   all_goals refine auV ?_
   all_goals try exact z_
   all_goals try simp only [hsM] at *
   all_goals rfl
 ·rw [if_neg (by decide)]
  by_cases h4:(rdL data fr to).2=0
  ·obtain ⟨q1,q2,q3⟩:=dp h4
   rw [if_pos h4]
   have w0:=True.intro
   have w2:=True.intro
   generalize z3 data 0=v0 at *
   generalize z3 data 2=v2 at *
   generalize rdL data fr to=r at *
   obtain ⟨⟨g1,g2,g3⟩,ge⟩:=r
   dsimp only at *
   subst h4 q1 q2
   refine z4 {} 0 Tryd.func9 fun Γ hW=>auC ?_
   repeat' first|refine auS ?_|(first|(with_reducible refine z0 hr ?_)|(with_reducible refine z0 ht ?_)|(with_reducible refine z0 hl ?_)|(with_reducible refine z0 w0 ?_)|(with_reducible refine z0 w2 ?_))|refine auD ?_|(refine auW ?_ ?_<;>intro h<;>try exact auH)|fail
   all_goals try exact auP
   all_goals first
    |(exfalso;simp_all;done)
    |skip
   all_goals refine auV ?_
   all_goals try exact z_
   all_goals try simp only [hsM] at *
   all_goals rfl
  ·rw [if_neg h4]
   generalize rdL data fr to=r at *
   obtain ⟨⟨g1,g2,g3⟩,ge⟩:=r
   dsimp only at *
   unfold fl0
   refine z4 {} 0 Tryd.func9 fun Γ hW=>auC ?_
   repeat' first|refine auS ?_|(first|(with_reducible refine z0 hr ?_)|(with_reducible refine z0 ht ?_)|(with_reducible refine z0 hl ?_)|(with_reducible refine z0 w0 ?_)|(with_reducible refine z0 w2 ?_))|refine auD ?_|(refine auW ?_ ?_<;>intro h<;>try exact auH)|fail
   all_goals try exact auP
   all_goals first
    |(exfalso;simp_all;done)
    |skip
   all_goals refine auV ?_
   all_goals try exact z_
   all_goals try simp only [hsM] at *
   all_goals rfl
end Go.Proofs.YtmibknbmhcnemaaDoor
namespace Go.Proofs.YtmibknbmhcnemaaDoor
theorem mC (l:List UInt8) (n i:Nat) (h:i+1<n):z3 (l.take n) i=z3 l i:=by
 unfold z3
 rw [List.getElem?_take,List.getElem?_take,if_pos (by omega),if_pos (by omega)]
def pL (s:List UInt8):Nat:=(z3 s 2).toNat
theorem YC {s:List UInt8} (he:(edR s).2=0):(20≤hN s∧hN s≤60)∧pL s≤s.length∧((bN s 9:Nat):Int)=(edR s).1.proto∧(((bN s 9:Nat):Int)=6∨((bN s 9:Nat):Int)=17)∧hN s+ckI (bN s 9:Nat)+2≤pL s∧(edR s).1=⟨wY s 12,wY s 16,(bN s 9:Nat),z3 s (hN s),z3 s (hN s+2)⟩∧hN s=4*(bN s 0 % 16):=by
 have h0:yd s=0:=by
  refine Decidable.byContradiction fun h=>?_
  unfold edR at he
  rw [if_neg h] at he
  exact h he
 have he':(edP (rdP s)).2=0:=by
  unfold edR at he
  rwa [if_pos h0] at he
 have e2:edR s=edP (rdP s):=by unfold edR;rw [if_pos h0]
 rw [e2]
 clear he e2
 unfold yd at h0
 split at h0
 ·cases h0
 rename_i h1
 split at h0
 ·cases h0
 rename_i h2
 clear h0
 have b2:=zo s 2
 have hL:pL s=(z3 s 2).toNat:=rfl
 have hNe:hN s=4*(bN s 0 % 16):=rfl
 have hd:(rdP s).data=(s.drop (hN s)).take (pL s-hN s):=rfl
 have hdl:(rdP s).data.length=pL s-hN s:=by rw [hd];simp;omega
 have hp:(rdP s).proto=(bN s 9:Nat):=rfl
 have hf:(rdP s).fr=wY s 12:=rfl
 have ht:(rdP s).to=wY s 16:=rfl
 have hw:4≤pL s-hN s→z3 (rdP s).data 0=z3 s (hN s)∧z3 (rdP s).data 2=z3 s (hN s+2):=fun q=>by
  rw [hd,mC _ _ _ (by omega),mC _ _ _ (by omega),rD,rD]
  exact ⟨rfl,rfl⟩
 generalize rdP s=p at *
 obtain ⟨tos,id,wh,mo,start,life,proto,fr,to,opt,data⟩:=p
 dsimp only at hd hdl hp hf ht hw
 subst hp hf ht
 unfold edP at he' ⊢
 dsimp only at he' ⊢
 split at he'
 ·cases he'
 rename_i h3
 rw [if_neg h3]
 split at he'
 ·cases he'
 rename_i h4
 rw [if_neg h4]
 have h3':=Decidable.not_not.1 h3
 split at he'
 ·rename_i h5
  rw [if_pos h5]
  split at he'
  ·rename_i h6
   rw [if_pos h6]
   have q:=(de h6).2.2
   obtain ⟨q1,q2⟩:=hw (by omega)
   dsimp only
   rw [h5,q1,q2]
   exact ⟨by omega,by omega,rfl,.inl rfl,by unfold ckI;rw [if_neg (by decide)];omega,rfl,hNe⟩
  ·rename_i h6
   exact (h6 he').elim
 ·rename_i h5
  have h7:((bN s 9:Nat):Int)=17:=h3'.resolve_left h5
  rw [if_neg h5]
  split at he'
  ·rename_i h6
   rw [if_pos h6]
   have q:=(dp h6).2.2
   obtain ⟨q1,q2⟩:=hw (by omega)
   dsimp only
   rw [h7,q1,q2]
   exact ⟨by omega,by omega,rfl,.inr rfl,by unfold ckI;rw [if_pos rfl];omega,rfl,hNe⟩
  ·rename_i h6
   exact (h6 he').elim
end Go.Proofs.YtmibknbmhcnemaaDoor
