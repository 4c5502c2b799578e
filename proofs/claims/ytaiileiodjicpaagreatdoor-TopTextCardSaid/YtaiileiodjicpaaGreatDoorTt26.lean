import Derived.Test.YtaiileiodjicpaaGreatDoorTt24
import Derived.Test.YtaiileiodjicpaaGreatDoorTt21
import Derived.Test.YtaiileiodjicpaaGreatDoorTt23
import Derived.Test.YtaiileiodjicpaaGreatDoorTt25
set_option linter.unusedVariables false
set_option linter.unusedSimpArgs false
namespace Go.Proofs.YtaiileiodjicpaaGreatDoor
attribute [local irreducible] zF Go
set_option maxRecDepth 100000
theorem vK (l:List UInt8) (i:Nat) (hi:i+1<l.length) (hl:l.length≤9223372036854775806) (ii:Int) (hii:ii=(i:Nat)):zi Tryz.prog 137 [.v (.string (mkS l)),.v (.int .i64 ii)] (.v (.int .i64 (z8 l i))):=by
 subst hii
 have hb:=w_ l i
 have hb2:=w_ l (i+1)
 have e1:IntKind.i64.wrap (bN l i:Nat)=(bN l i:Nat):=IntWalk.i64_in _ (by omega)
 have e2:IntKind.i64.wrap (bN l (i+1):Nat)=(bN l (i+1):Nat):=IntWalk.i64_in _ (by omega)
 have e3:IntKind.i64.wrap ((i:Int)+1)=((i+1:Nat):Int):=by rw [IntWalk.i64_in _ (by omega)];omega
 have e5:bits .or .i64 (IntKind.i64.wrap ((bN l i:Nat)*2 ^ 8)) (bN l (i+1):Nat)=z8 l i:=mq _ _ (by omega) (by omega) (by omega) (by omega)
 refine z7 {} 0 Tryz.func137 fun Γ hW=>auC ?_
 repeat' first|refine auS ?_|(simp only [za,zW,Xd,e1,e2,e3,e5,Int.toNat_natCast])|refine auD ?_|(refine auW ?_ ?_<;>intro h<;>try exact auH)|fail
 all_goals try exact auP
 all_goals refine auV ?_
 all_goals try exact zc
 all_goals try simp only [hsM] at *
end Go.Proofs.YtaiileiodjicpaaGreatDoor
namespace Go.Proofs.YtaiileiodjicpaaGreatDoor
attribute [local irreducible] zF Go
set_option maxRecDepth 100000
def bA (s:List UInt8) (a b:Int):Prop:=z8 s 6=0∨yw (x8 (und a b 17 (z8 s 4)++s.take (z8 s 4).toNat))=65535
instance (s:List UInt8) (a b:Int):Decidable (bA s a b):=by unfold bA;infer_instance
def rdL (s:List UInt8) (a b:Int):(Int×Int×List UInt8)×Int:=
 if s.length<8∨(s.length:Int)<z8 s 4 then ((0,0,[]),3)
 else if ¬(8≤z8 s 4∧z8 s 4≤65515) then ((0,0,[]),4)
 else if ¬bA s a b then ((0,0,[]),5)
 else ((z8 s 0,z8 s 2,(s.drop 8).take ((z8 s 4).toNat-8)),0)
abbrev dLE (r:(Int×Int×List UInt8)×Int):DV:=.tup [dL r.1.1 r.1.2.1 r.1.2.2,.v (.int .i64 r.2)]
set_option maxHeartbeats 2000000 in
theorem fV (s:List UInt8) (a b:Int) (ha:0≤a∧a<4294967296) (hb:0≤b∧b<4294967296) (hl:s.length≤140737488351232):zi Tryz.prog 101 [.v (.string (mkS s)),.v (.int .u32 a),.v (.int .u32 b)] (dLE (rdL s a b)):=by
 by_cases h8:s.length<8
 ·have hr:rdL s a b=((0,0,[]),3):=by unfold rdL;rw [if_pos (.inl h8)]
  rw [hr]
  refine z7 {} 0 Tryz.func101 fun Γ hW=>auC ?_
  repeat' first|refine auS ?_|(first|(simp only [zu,za])|(simp only [x1])|(simp only [x2])|(with_reducible refine z6 h0 ?_)|(with_reducible refine z6 h2 ?_)|(with_reducible refine z6 h4 ?_)|(with_reducible refine z6 h6 ?_)|(with_reducible refine z6 hu ?_)|(with_reducible refine z6 hs ?_))|refine auD ?_|(refine auW ?_ ?_<;>intro h<;>try exact auH)|(refine zf (by simp only [zu,za,List.length_append,zZ,xq,yP,wR,List.length_take,List.length_drop];omega) ?_)
  all_goals try exact auP
  all_goals first
   |(exfalso;simp_all;done)
   |skip
  all_goals refine auV ?_
  all_goals try exact zc
  all_goals try simp only [hsM] at *
  all_goals rfl
 have h4:=vK s 4 (by omega) (by omega) 4 rfl
 have hb4:=zD s 4
 by_cases hn:(s.length:Int)<z8 s 4
 ·have hr:rdL s a b=((0,0,[]),3):=by unfold rdL;rw [if_pos (.inr hn)]
  rw [hr]
  generalize z8 s 4=n at *
  refine z7 {} 0 Tryz.func101 fun Γ hW=>auC ?_
  repeat' first|refine auS ?_|(first|(simp only [zu,za])|(simp only [x1])|(simp only [x2])|(with_reducible refine z6 h0 ?_)|(with_reducible refine z6 h2 ?_)|(with_reducible refine z6 h4 ?_)|(with_reducible refine z6 h6 ?_)|(with_reducible refine z6 hu ?_)|(with_reducible refine z6 hs ?_))|refine auD ?_|(refine auW ?_ ?_<;>intro h<;>try exact auH)|(refine zf (by simp only [zu,za,List.length_append,zZ,xq,yP,wR,List.length_take,List.length_drop];omega) ?_)
  all_goals try exact auP
  all_goals first
   |(exfalso;simp_all;done)
   |skip
  all_goals refine auV ?_
  all_goals try exact zc
  all_goals try simp only [hsM] at *
  all_goals rfl
 by_cases hf:8≤z8 s 4∧z8 s 4≤65515
 ·have h0:=vK s 0 (by omega) (by omega) 0 rfl
  have h2:=vK s 2 (by omega) (by omega) 2 rfl
  have h6:=vK s 6 (by omega) (by omega) 6 rfl
  have hb6:=zD s 6
  have hu:=qb a b 17 (z8 s 4) ha hb
  have hs:=ua (und a b 17 (z8 s 4)++s.take (z8 s 4).toNat) (by simp only [List.length_append,zZ,List.length_take];omega)
  have x1:(mkS s).extract 0 (z8 s 4).toNat=mkS (s.take (z8 s 4).toNat):=by rw [yW];rfl
  have x2:(mkS s).extract 8 (z8 s 4).toNat=mkS ((s.drop 8).take ((z8 s 4).toNat-8)):=yW _ _ _
  by_cases hk:bA s a b
  ·have hr:rdL s a b=((z8 s 0,z8 s 2,(s.drop 8).take ((z8 s 4).toNat-8)),0):=by unfold rdL;rw [if_neg (by omega),if_neg (not_not_intro hf),if_neg (not_not_intro hk)]
   rw [hr]
   unfold bA at hk
   clear hr
   generalize yw (x8 (und a b 17 (z8 s 4)++s.take (z8 s 4).toNat))=c at *
   generalize z8 s 4=n at *
   generalize z8 s 6=m at *
   rcases hk with rfl|rfl
   ·skip
    refine z7 {} 0 Tryz.func101 fun Γ hW=>auC ?_
    repeat' first|refine auS ?_|(first|(simp only [zu,za])|(simp only [x1])|(simp only [x2])|(with_reducible refine z6 h0 ?_)|(with_reducible refine z6 h2 ?_)|(with_reducible refine z6 h4 ?_)|(with_reducible refine z6 h6 ?_)|(with_reducible refine z6 hu ?_)|(with_reducible refine z6 hs ?_))|refine auD ?_|(refine auW ?_ ?_<;>intro h<;>try exact auH)|(refine zf (by simp only [zu,za,List.length_append,zZ,xq,yP,wR,List.length_take,List.length_drop];omega) ?_)
    all_goals try exact auP
    all_goals first
     |(exfalso;simp_all;done)
     |skip
    all_goals refine auV ?_
    all_goals try exact zc
    all_goals try simp only [hsM] at *
    all_goals rfl
   ·by_cases hm:m=0
    ·subst hm
     refine z7 {} 0 Tryz.func101 fun Γ hW=>auC ?_
     repeat' first|refine auS ?_|(first|(simp only [zu,za])|(simp only [x1])|(simp only [x2])|(with_reducible refine z6 h0 ?_)|(with_reducible refine z6 h2 ?_)|(with_reducible refine z6 h4 ?_)|(with_reducible refine z6 h6 ?_)|(with_reducible refine z6 hu ?_)|(with_reducible refine z6 hs ?_))|refine auD ?_|(refine auW ?_ ?_<;>intro h<;>try exact auH)|(refine zf (by simp only [zu,za,List.length_append,zZ,xq,yP,wR,List.length_take,List.length_drop];omega) ?_)
     all_goals try exact auP
     all_goals first
      |(exfalso;simp_all;done)
      |skip
     all_goals refine auV ?_
     all_goals try exact zc
     all_goals try simp only [hsM] at *
     all_goals rfl
    ·skip
     refine z7 {} 0 Tryz.func101 fun Γ hW=>auC ?_
     repeat' first|refine auS ?_|(first|(simp only [zu,za])|(simp only [x1])|(simp only [x2])|(with_reducible refine z6 h0 ?_)|(with_reducible refine z6 h2 ?_)|(with_reducible refine z6 h4 ?_)|(with_reducible refine z6 h6 ?_)|(with_reducible refine z6 hu ?_)|(with_reducible refine z6 hs ?_))|refine auD ?_|(refine auW ?_ ?_<;>intro h<;>try exact auH)|(refine zf (by simp only [zu,za,List.length_append,zZ,xq,yP,wR,List.length_take,List.length_drop];omega) ?_)
     all_goals try exact auP
     all_goals first
      |(exfalso;simp_all;done)
      |skip
     all_goals refine auV ?_
     all_goals try exact zc
     all_goals try simp only [hsM] at *
     all_goals rfl
  ·have hr:rdL s a b=((0,0,[]),5):=by unfold rdL;rw [if_neg (by omega),if_neg (not_not_intro hf),if_pos hk]
   rw [hr]
   unfold bA at hk
   clear hr
   generalize yw (x8 (und a b 17 (z8 s 4)++s.take (z8 s 4).toNat))=c at *
   generalize z8 s 4=n at *
   generalize z8 s 6=m at *
   have hm:¬m=0:=fun q=>hk (.inl q)
   have hc:¬c=65535:=fun q=>hk (.inr q)
   clear hk
   refine z7 {} 0 Tryz.func101 fun Γ hW=>auC ?_
   repeat' first|refine auS ?_|(first|(simp only [zu,za])|(simp only [x1])|(simp only [x2])|(with_reducible refine z6 h0 ?_)|(with_reducible refine z6 h2 ?_)|(with_reducible refine z6 h4 ?_)|(with_reducible refine z6 h6 ?_)|(with_reducible refine z6 hu ?_)|(with_reducible refine z6 hs ?_))|refine auD ?_|(refine auW ?_ ?_<;>intro h<;>try exact auH)|(refine zf (by simp only [zu,za,List.length_append,zZ,xq,yP,wR,List.length_take,List.length_drop];omega) ?_)
   all_goals try exact auP
   all_goals first
    |(exfalso;simp_all;done)
    |skip
   all_goals refine auV ?_
   all_goals try exact zc
   all_goals try simp only [hsM] at *
   all_goals rfl
 ·have hr:rdL s a b=((0,0,[]),4):=by unfold rdL;rw [if_neg (by omega),if_pos hf]
  rw [hr]
  clear hr
  generalize z8 s 4=n at *
  refine z7 {} 0 Tryz.func101 fun Γ hW=>auC ?_
  repeat' first|refine auS ?_|(first|(simp only [zu,za])|(simp only [x1])|(simp only [x2])|(with_reducible refine z6 h0 ?_)|(with_reducible refine z6 h2 ?_)|(with_reducible refine z6 h4 ?_)|(with_reducible refine z6 h6 ?_)|(with_reducible refine z6 hu ?_)|(with_reducible refine z6 hs ?_))|refine auD ?_|(refine auW ?_ ?_<;>intro h<;>try exact auH)|(refine zf (by simp only [zu,za,List.length_append,zZ,xq,yP,wR,List.length_take,List.length_drop];omega) ?_)
  all_goals try exact auP
  all_goals first
   |(exfalso;simp_all;done)
   |skip
  all_goals refine auV ?_
  all_goals try exact zc
  all_goals try simp only [hsM] at *
  all_goals rfl
end Go.Proofs.YtaiileiodjicpaaGreatDoor
namespace Go.Proofs.YtaiileiodjicpaaGreatDoor
attribute [local irreducible] zF Go
set_option maxRecDepth 100000
structure Fl where
 (fr to proto fp tp:Int)
abbrev Fl.enc (f:Fl):List DV:=[.v (.int .u32 f.fr),.v (.int .u32 f.to),.v (.int .i64 f.proto),.v (.int .i64 f.fp),.v (.int .i64 f.tp)]
def fl0:Fl:=⟨0,0,0,0,0⟩
abbrev dFE (r:Fl×Int):DV:=.tup [.agg r.1.enc,.v (.int .i64 r.2)]
def edP (p:Pk):Fl×Int:=
 if ¬(p.proto=6∨p.proto=17) then (fl0,7)
 else if p.mo=true∨p.start≠0 then (fl0,9)
 else if p.proto=6 then (if (rdS p.data p.fr p.to).2=0 then (⟨p.fr,p.to,6,z8 p.data 0,z8 p.data 2⟩,0) else (fl0,(rdS p.data p.fr p.to).2))
 else (if (rdL p.data p.fr p.to).2=0 then (⟨p.fr,p.to,17,z8 p.data 0,z8 p.data 2⟩,0) else (fl0,(rdL p.data p.fr p.to).2))
def edR (s:List UInt8):Fl×Int:=if yH s=0 then edP (rdP s) else (fl0,yH s)
theorem Y2 {s:List UInt8} {a b:Int} (h:(rdS s a b).2=0):(rdS s a b).1.fr=z8 s 0∧(rdS s a b).1.to=z8 s 2∧20≤s.length:=by
 unfold rdS at h ⊢
 split at h
 ·cases h
 rename_i h1
 rw [if_neg h1]
 split at h
 ·cases h
 rename_i h2
 rw [if_neg h2]
 split at h
 ·cases h
 rename_i h3
 rw [if_neg h3]
 cases hq:prs ((s.drop 20).take (nW s-20)) with
 |none=>rw [hq] at h;cases h
 |some l=>
  rw [hq] at h
  dsimp only at h ⊢
  split at h
  ·cases h
  ·rename_i h4
   rw [if_neg h4]
   exact ⟨rfl,rfl,by omega⟩
theorem Xn {s:List UInt8} {a b:Int} (h:(rdL s a b).2=0):(rdL s a b).1.1=z8 s 0∧(rdL s a b).1.2.1=z8 s 2∧8≤s.length:=by
 unfold rdL at h ⊢
 split at h
 ·cases h
 rename_i h1
 rw [if_neg h1]
 split at h
 ·cases h
 rename_i h2
 rw [if_neg h2]
 split at h
 ·cases h
 ·rename_i h3
  rw [if_neg h3]
  exact ⟨rfl,rfl,by omega⟩
set_option maxHeartbeats 4000000 in
theorem pD (s:List UInt8) (hs:s.length≤140737488351232):zi Tryz.prog 71 [.v (.string (mkS s))] (dFE (edR s)):=by
 have hr:=sC s hs
 by_cases he:yH s=0
 rotate_left
 ·have e1:rpR s=(pk0,yH s):=by unfold rpR;rw [if_neg he]
  have e2:edR s=(fl0,yH s):=by unfold edR;rw [if_neg he]
  rw [e1] at hr
  rw [e2]
  clear e1 e2
  generalize yH s=e at *
  unfold pk0 at hr
  unfold fl0
  refine z7 {} 0 Tryz.func71 fun Γ hW=>auC ?_
  repeat' first|refine auS ?_|(first|(with_reducible refine z6 hr ?_)|(with_reducible refine z6 ht ?_)|(with_reducible refine z6 hl ?_)|(with_reducible refine z6 w0 ?_)|(with_reducible refine z6 w2 ?_))|refine auD ?_|(refine auW ?_ ?_<;>intro h<;>try exact auH)|fail
  all_goals try exact auP
  all_goals first
   |(exfalso;simp_all;done)
   |skip
  all_goals refine auV ?_
  all_goals try exact zc
  all_goals try simp only [hsM] at *
  all_goals rfl
 have e1:rpR s=(rdP s,0):=by unfold rpR;rw [if_pos he]
 have e2:edR s=edP (rdP s):=by unfold edR;rw [if_pos he]
 have hd:(rdP s).data.length≤140737488351232:=by simp only [rdP,List.length_take,List.length_drop];omega
 have hf:0≤(rdP s).fr∧(rdP s).fr<4294967296:=uG s 12
 have hto:0≤(rdP s).to∧(rdP s).to<4294967296:=uG s 16
 have hst:0≤(rdP s).start:=Int.emod_nonneg _ (by decide)
 rw [e1] at hr
 rw [e2]
 clear e1 e2 he
 generalize rdP s=p at *
 have ht:=mY p.data p.fr p.to hf hto hd
 have hl:=fV p.data p.fr p.to hf hto hd
 obtain ⟨tos,id,wh,mo,start,life,proto,fr,to,opt,data⟩:=p
 dsimp only at *
 by_cases h1:proto=6∨proto=17
 rotate_left
 ·have e3:edP ⟨tos,id,wh,mo,start,life,proto,fr,to,opt,data⟩=(fl0,7):=by unfold edP;rw [if_pos h1]
  rw [e3]
  clear e3
  unfold fl0
  refine z7 {} 0 Tryz.func71 fun Γ hW=>auC ?_
  repeat' first|refine auS ?_|(first|(with_reducible refine z6 hr ?_)|(with_reducible refine z6 ht ?_)|(with_reducible refine z6 hl ?_)|(with_reducible refine z6 w0 ?_)|(with_reducible refine z6 w2 ?_))|refine auD ?_|(refine auW ?_ ?_<;>intro h<;>try exact auH)|fail
  all_goals try exact auP
  all_goals first
   |(exfalso;simp_all;done)
   |skip
  all_goals refine auV ?_
  all_goals try exact zc
  all_goals try simp only [hsM] at *
  all_goals rfl
 by_cases h2:mo=true∨start≠0
 ·have e3:edP ⟨tos,id,wh,mo,start,life,proto,fr,to,opt,data⟩=(fl0,9):=by unfold edP;rw [if_neg (not_not_intro h1),if_pos h2]
  rw [e3]
  clear e3
  unfold fl0
  cases mo with
  |true=>
   clear h2
   rcases h1 with rfl|rfl
   ·skip
    refine z7 {} 0 Tryz.func71 fun Γ hW=>auC ?_
    repeat' first|refine auS ?_|(first|(with_reducible refine z6 hr ?_)|(with_reducible refine z6 ht ?_)|(with_reducible refine z6 hl ?_)|(with_reducible refine z6 w0 ?_)|(with_reducible refine z6 w2 ?_))|refine auD ?_|(refine auW ?_ ?_<;>intro h<;>try exact auH)|fail
    all_goals try exact auP
    all_goals first
     |(exfalso;simp_all;done)
     |skip
    all_goals refine auV ?_
    all_goals try exact zc
    all_goals try simp only [hsM] at *
    all_goals rfl
   ·skip
    refine z7 {} 0 Tryz.func71 fun Γ hW=>auC ?_
    repeat' first|refine auS ?_|(first|(with_reducible refine z6 hr ?_)|(with_reducible refine z6 ht ?_)|(with_reducible refine z6 hl ?_)|(with_reducible refine z6 w0 ?_)|(with_reducible refine z6 w2 ?_))|refine auD ?_|(refine auW ?_ ?_<;>intro h<;>try exact auH)|fail
    all_goals try exact auP
    all_goals first
     |(exfalso;simp_all;done)
     |skip
    all_goals refine auV ?_
    all_goals try exact zc
    all_goals try simp only [hsM] at *
    all_goals rfl
  |false=>
   have h3:start≠0:=h2.resolve_left (by simp)
   clear h2
   rcases h1 with rfl|rfl
   ·skip
    refine z7 {} 0 Tryz.func71 fun Γ hW=>auC ?_
    repeat' first|refine auS ?_|(first|(with_reducible refine z6 hr ?_)|(with_reducible refine z6 ht ?_)|(with_reducible refine z6 hl ?_)|(with_reducible refine z6 w0 ?_)|(with_reducible refine z6 w2 ?_))|refine auD ?_|(refine auW ?_ ?_<;>intro h<;>try exact auH)|fail
    all_goals try exact auP
    all_goals first
     |(exfalso;simp_all;done)
     |skip
    all_goals refine auV ?_
    all_goals try exact zc
    all_goals try simp only [hsM] at *
    all_goals rfl
   ·skip
    refine z7 {} 0 Tryz.func71 fun Γ hW=>auC ?_
    repeat' first|refine auS ?_|(first|(with_reducible refine z6 hr ?_)|(with_reducible refine z6 ht ?_)|(with_reducible refine z6 hl ?_)|(with_reducible refine z6 w0 ?_)|(with_reducible refine z6 w2 ?_))|refine auD ?_|(refine auW ?_ ?_<;>intro h<;>try exact auH)|fail
    all_goals try exact auP
    all_goals first
     |(exfalso;simp_all;done)
     |skip
    all_goals refine auV ?_
    all_goals try exact zc
    all_goals try simp only [hsM] at *
    all_goals rfl
 obtain ⟨rfl,rfl⟩:mo=false∧start=0:=⟨by simpa using fun q=>h2 (.inl q),Decidable.byContradiction fun q=>h2 (.inr q)⟩
 have e3:edP ⟨tos,id,wh,false,0,life,proto,fr,to,opt,data⟩=if proto=6 then (if (rdS data fr to).2=0 then (⟨fr,to,6,z8 data 0,z8 data 2⟩,0) else (fl0,(rdS data fr to).2)) else (if (rdL data fr to).2=0 then (⟨fr,to,17,z8 data 0,z8 data 2⟩,0) else (fl0,(rdL data fr to).2)):=by unfold edP;rw [if_neg (not_not_intro h1),if_neg h2]
 rw [e3]
 clear e3 h2
 rcases h1 with rfl|rfl
 ·rw [if_pos rfl]
  by_cases h4:(rdS data fr to).2=0
  ·obtain ⟨q1,q2,q3⟩:=Y2 h4
   rw [if_pos h4]
   have w0:=True.intro
   have w2:=True.intro
   generalize z8 data 0=v0 at *
   generalize z8 data 2=v2 at *
   generalize rdS data fr to=r at *
   obtain ⟨g,ge⟩:=r
   dsimp only at *
   subst h4 q1 q2
   refine z7 {} 0 Tryz.func71 fun Γ hW=>auC ?_
   repeat' first|refine auS ?_|(first|(with_reducible refine z6 hr ?_)|(with_reducible refine z6 ht ?_)|(with_reducible refine z6 hl ?_)|(with_reducible refine z6 w0 ?_)|(with_reducible refine z6 w2 ?_))|refine auD ?_|(refine auW ?_ ?_<;>intro h<;>try exact auH)|fail
   all_goals try exact auP
   all_goals first
    |(exfalso;simp_all;done)
    |skip
   all_goals refine auV ?_
   all_goals try exact zc
   all_goals try simp only [hsM] at *
   all_goals rfl
  ·rw [if_neg h4]
   generalize rdS data fr to=r at *
   obtain ⟨g,ge⟩:=r
   dsimp only at *
   unfold fl0
   refine z7 {} 0 Tryz.func71 fun Γ hW=>auC ?_
   repeat' first|refine auS ?_|(first|(with_reducible refine z6 hr ?_)|(with_reducible refine z6 ht ?_)|(with_reducible refine z6 hl ?_)|(with_reducible refine z6 w0 ?_)|(with_reducible refine z6 w2 ?_))|refine auD ?_|(refine auW ?_ ?_<;>intro h<;>try exact auH)|fail
   all_goals try exact auP
   all_goals first
    |(exfalso;simp_all;done)
    |skip
   all_goals refine auV ?_
   all_goals try exact zc
   all_goals try simp only [hsM] at *
   all_goals rfl
 ·rw [if_neg (by decide)]
  by_cases h4:(rdL data fr to).2=0
  ·obtain ⟨q1,q2,q3⟩:=Xn h4
   rw [if_pos h4]
   have w0:=True.intro
   have w2:=True.intro
   generalize z8 data 0=v0 at *
   generalize z8 data 2=v2 at *
   generalize rdL data fr to=r at *
   obtain ⟨⟨g1,g2,g3⟩,ge⟩:=r
   dsimp only at *
   subst h4 q1 q2
   refine z7 {} 0 Tryz.func71 fun Γ hW=>auC ?_
   repeat' first|refine auS ?_|(first|(with_reducible refine z6 hr ?_)|(with_reducible refine z6 ht ?_)|(with_reducible refine z6 hl ?_)|(with_reducible refine z6 w0 ?_)|(with_reducible refine z6 w2 ?_))|refine auD ?_|(refine auW ?_ ?_<;>intro h<;>try exact auH)|fail
   all_goals try exact auP
   all_goals first
    |(exfalso;simp_all;done)
    |skip
   all_goals refine auV ?_
   all_goals try exact zc
   all_goals try simp only [hsM] at *
   all_goals rfl
  ·rw [if_neg h4]
   generalize rdL data fr to=r at *
   obtain ⟨⟨g1,g2,g3⟩,ge⟩:=r
   dsimp only at *
   unfold fl0
   refine z7 {} 0 Tryz.func71 fun Γ hW=>auC ?_
   repeat' first|refine auS ?_|(first|(with_reducible refine z6 hr ?_)|(with_reducible refine z6 ht ?_)|(with_reducible refine z6 hl ?_)|(with_reducible refine z6 w0 ?_)|(with_reducible refine z6 w2 ?_))|refine auD ?_|(refine auW ?_ ?_<;>intro h<;>try exact auH)|fail
   all_goals try exact auP
   all_goals first
    |(exfalso;simp_all;done)
    |skip
   all_goals refine auV ?_
   all_goals try exact zc
   all_goals try simp only [hsM] at *
   all_goals rfl
end Go.Proofs.YtaiileiodjicpaaGreatDoor
namespace Go.Proofs.YtaiileiodjicpaaGreatDoor
theorem kE (l:List UInt8) (n i:Nat) (h:i+1<n):z8 (l.take n) i=z8 l i:=by
 unfold z8
 rw [List.getElem?_take,List.getElem?_take,if_pos (by omega),if_pos (by omega)]
def pL (s:List UInt8):Nat:=(z8 s 2).toNat
theorem Uw {s:List UInt8} (he:(edR s).2=0):(20≤hN s∧hN s≤60)∧pL s≤s.length∧((bN s 9:Nat):Int)=(edR s).1.proto∧(((bN s 9:Nat):Int)=6∨((bN s 9:Nat):Int)=17)∧hN s+ckI (bN s 9:Nat)+2≤pL s∧(edR s).1=⟨uT s 12,uT s 16,(bN s 9:Nat),z8 s (hN s),z8 s (hN s+2)⟩∧hN s=4*(bN s 0 % 16):=by
 have h0:yH s=0:=by
  refine Decidable.byContradiction fun h=>?_
  unfold edR at he
  rw [if_neg h] at he
  exact h he
 have he':(edP (rdP s)).2=0:=by
  unfold edR at he
  rwa [if_pos h0] at he
 have e2:edR s=edP (rdP s):=by unfold edR;rw [if_pos h0]
 rw [e2]
 clear he e2
 unfold yH at h0
 split at h0
 ·cases h0
 rename_i h1
 split at h0
 ·cases h0
 rename_i h2
 clear h0
 have b2:=zD s 2
 have hL:pL s=(z8 s 2).toNat:=rfl
 have hNe:hN s=4*(bN s 0 % 16):=rfl
 have hd:(rdP s).data=(s.drop (hN s)).take (pL s-hN s):=rfl
 have hdl:(rdP s).data.length=pL s-hN s:=by rw [hd];simp;omega
 have hp:(rdP s).proto=(bN s 9:Nat):=rfl
 have hf:(rdP s).fr=uT s 12:=rfl
 have ht:(rdP s).to=uT s 16:=rfl
 have hw:4≤pL s-hN s→z8 (rdP s).data 0=z8 s (hN s)∧z8 (rdP s).data 2=z8 s (hN s+2):=fun q=>by
  rw [hd,kE _ _ _ (by omega),kE _ _ _ (by omega),qQ,qQ]
  exact ⟨rfl,rfl⟩
 generalize rdP s=p at *
 obtain ⟨tos,id,wh,mo,start,life,proto,fr,to,opt,data⟩:=p
 dsimp only at hd hdl hp hf ht hw
 subst hp hf ht
 unfold edP at he' ⊢
 dsimp only at he' ⊢
 split at he'
 ·cases he'
 rename_i h3
 rw [if_neg h3]
 split at he'
 ·cases he'
 rename_i h4
 rw [if_neg h4]
 have h3':=Decidable.not_not.1 h3
 split at he'
 ·rename_i h5
  rw [if_pos h5]
  split at he'
  ·rename_i h6
   rw [if_pos h6]
   have q:=(Y2 h6).2.2
   obtain ⟨q1,q2⟩:=hw (by omega)
   dsimp only
   rw [h5,q1,q2]
   exact ⟨by omega,by omega,rfl,.inl rfl,by unfold ckI;rw [if_neg (by decide)];omega,rfl,hNe⟩
  ·rename_i h6
   exact (h6 he').elim
 ·rename_i h5
  have h7:((bN s 9:Nat):Int)=17:=h3'.resolve_left h5
  rw [if_neg h5]
  split at he'
  ·rename_i h6
   rw [if_pos h6]
   have q:=(Xn h6).2.2
   obtain ⟨q1,q2⟩:=hw (by omega)
   dsimp only
   rw [h7,q1,q2]
   exact ⟨by omega,by omega,rfl,.inr rfl,by unfold ckI;rw [if_pos rfl];omega,rfl,hNe⟩
  ·rename_i h6
   exact (h6 he').elim
end Go.Proofs.YtaiileiodjicpaaGreatDoor
