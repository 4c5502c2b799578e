import Derived.Test.YtmibknbmhcnemaaGreatDoorTw43
set_option linter.unusedVariables false
set_option linter.unusedSimpArgs false
namespace Go.Proofs.YtmibknbmhcnemaaGreatDoor.E
attribute [local irreducible] zu Go
set_option maxRecDepth 100000
mutual
theorem fM (o:zd):∀d:DV,xi o d d
 |.agg cs=>by simp only [xi];exact wU o cs
 |.tup cs=>by simp only [xi];exact wU o cs
 |.sl ..=>by simp [xi]
 |.ptr ..=>by simp [xi]
 |.fn f a b=>by simp only [xi];exact ⟨trivial,wU o a,wU o b⟩
 |.any=>by simp only [xi]
 |.bl=>by simp only [xi]
 |.ifc=>by simp only [xi]
 |.v _=>by simp only [xi]
 |.rptr _=>by simp only [xi]
 |.slr ..=>by simp only [xi]
 |.snap ..=>by simp only [xi]
 |.mp ..=>by simp only [xi]
 |.stamp ..=>by simp only [xi]
 |.tptr ..=>by simp [xi]
 |.tsl ..=>by simp [xi]
theorem wU (o:zd):∀l:List DV,vm o l l
 |[]=>by simp only [vm]
 |d::r=>by simp only [vm];exact ⟨fM o d,wU o r⟩
end
theorem zA {α:Type} (f:α→List DV) (l:List α):zC (zF (l.map f) 0) l.length=l.map f:=sa (by simp)
theorem u0 (P L:Int) (l:List Sn) (k n:Nat) (r:List DV):vm ⟨n,8,l.map Sn.enc⟩ (.agg [.v (.int .i64 P),.v (.int .i64 L),.sl k n 8 0 l.length false]::r) (dB P L l false::r):=
 ⟨⟨rfl,rfl,.inl ⟨rfl,rfl,by simp,by rw [zA]⟩,rfl⟩,wU _ r⟩
theorem oM {K:Kr} {w:World} {a b:DV} {k k' n sz lo len:Nat} {full:Bool} {v:Value} (h:za K w (.agg [a,b,.sl k n sz lo len full]) v):za K w (.agg [a,b,.sl k' n sz lo len full]) v:=by
 cases h with
 |agg hl h=>
  refine .agg hl fun i d c hd hc=>?_
  match i,hd with
  |0,hd=>exact h 0 d c hd hc
  |1,hd=>exact h 1 d c hd hc
  |2,hd=>
   simp at hd
   rw [←hd]
   exact xO (h 2 _ c rfl hc)
  |i+3,hd=>simp at hd
theorem iD {P:Program} {f:FuncId} {ds ds':List DV} {H0:HL} {R:Nat→DV→HL→Prop} (h:xG P f ds' H0 R) (hd:∀K w vs,zv K w ds vs→zv K w ds' vs):xG P f ds H0 R:=
 ⟨h.1,fun K w vs g0 a b c=>h.2 K w vs g0 a b (hd _ _ _ c)⟩
theorem qb (j k:Nat) (P L:Int) (s:Sn) (l:List Sn) (n:Nat) (hl:l.length≤64) (hs:tm s) (ht:∀t∈l,tm t):xG Tryz.prog 26 [.agg [.v (.int .i64 P),.v (.int .i64 L),.sl j n 8 0 l.length false],.agg (Sn.enc s)] [some ⟨n,8,l.map Sn.enc⟩] (fun m d H=>d=.agg [.v (.int .i64 P),.v (.int .i64 L),.sl k m 8 0 (ye L s l).length false]∧H=[none,some ⟨m,8,(ye L s l).map Sn.enc⟩]):=
 tY (D:=fun m=>.agg [.v (.int .i64 P),.v (.int .i64 L),.sl 5 m 8 0 (ye L s l).length false]) (L:=fun m=>[none,some ⟨m,8,(ye L s l).map Sn.enc⟩]) (iD (hP P L s l n hl hs ht) (fun K w vs h=>wu (fun v hv=>oM hv) h)) (fun K w n v hv=>oM hv)
theorem eF (L:Int) (s:Sn) (l:List Sn) (hl:l.length≤64):(ye L s l).length≤64:=by
 have h:(uQ L s l).length≤64:=Nat.le_trans (List.length_filter_le _ _) hl
 unfold ye
 split
 ·simp;omega
 ·simp;omega
theorem dI {L:Int} {s:Sn} {l:List Sn} {t:Sn} (h:t∈ye L s l):t∈l∨t=s:=by
 unfold ye at h
 rcases List.mem_append.1 h with h|h
 ·left
  have h2:t∈uQ L s l:=by
   split at h
   ·rcases List.mem_append.1 h with h|h
    ·exact List.mem_of_mem_take h
    ·exact List.mem_of_mem_drop h
   ·exact h
  exact (List.mem_filter.1 h2).1
 ·right;simpa using h
abbrev nY (n:Int):List DV:=[.v (.int .i64 n)]
def xF (P L port now:Int) (l:List Sn) (f:List UInt8):Int:=
 if vM P L l≠0 then vM P L l else if ¬(0≤port∧port<P) then 7 else if now<zN l∨1099511627776<now then 1 else if frE f≠0 then frE f else if (ym f 6).many then 4 else 0
theorem lC (a b:Mc) (v t:Int) (d:List UInt8):dF a b v t d=.agg [.v (.int .u8 a.a),.v (.int .u8 a.b),.v (.int .u8 a.c),.v (.int .u8 a.d),.v (.int .u8 a.e),.v (.int .u8 a.f),.v (.int .u8 b.a),.v (.int .u8 b.b),.v (.int .u8 b.c),.v (.int .u8 b.d),.v (.int .u8 b.e),.v (.int .u8 b.f),.v (.int .i64 v),.v (.int .i64 t),.v (.string (mkS d))]:=rfl
theorem kh (f:List UInt8):∃a b v t d,frD f=dF a b v t d∧(frE f=0→a=ym f 0∧b=ym f 6):=by
 unfold frD
 split
 ·split
  ·exact ⟨_,_,_,_,_,rfl,fun _=>⟨rfl,rfl⟩⟩
  ·exact ⟨_,_,_,_,_,rfl,fun _=>⟨rfl,rfl⟩⟩
 ·rename_i h
  exact ⟨_,_,_,_,_,rfl,fun q=>absurd q h⟩
theorem lx (f:List UInt8) (i:Nat):0≤(ym f i).a∧(ym f i).a<256:=by
 have:=xf f i
 unfold ym
 dsimp only
 omega
set_option maxHeartbeats 4000000 in
theorem kE (P L port now:Int) (l:List Sn) (f:List UInt8) (cl:Bool) (hr:l.length≤5864062014805) (hf:f.length≤140737488351232) (hm:∀s∈l,0≤s.m.a∧s.m.a<256) (hE:xF P L port now l f≠0) :
  zc Tryz.prog 7 [dB P L l cl,.v (.int .i64 port),.v (.int .i64 now),.v (.string (mkS f))] (.tup [dB P L l false,.v (.slice none 0 0),.v (.int .i64 (xF P L port now l f))]):=by
 have h1:=wg P L l false hm
 have h3:=r5 f hf
 by_cases he:vM P L l=0
 ·obtain ⟨hPL,hl,hg⟩:=n6 he
  have h2:=sD P L l false hl
  rw [he] at h1
  by_cases hp:0≤port∧port<P
  ·by_cases hn:now<zN l∨1099511627776<now
   ·have e:xF P L port now l f=1:=by unfold xF;rw [if_neg (by omega),if_neg (by omega),if_pos hn]
    rw [e]
    have h4:=h3
    refine z3 {} 0 Tryz.func7 fun Γ hW=>auC ?_
    repeat' first|refine auS ?_|(first|((with_reducible refine zB 20 (yr 20 l _ (by unfold zW maxLen;omega)) ?_))|(refine zt 20 rfl h1 (u0 _ _ _ _ _ _) rfl ?_)|(refine zt 20 rfl h2 (u0 _ _ _ _ _ _) rfl ?_)|(with_reducible refine z0 h3 ?_)|(with_reducible refine z0 h4 ?_))|refine auD ?_|(refine auW ?_ ?_<;>intro h<;>try exact auH)|fail
    all_goals try exact auP
    all_goals refine zl (zR hW 1 20 (by decide) (ys:=[[.v (.int .i64 P),.v (.int .i64 L),.snap 8 (l.map Sn.enc) false]]) rfl rfl ⟨⟨rfl,rfl,Or.inl ⟨rfl,rfl,by simp,by rw [zA]⟩,rfl⟩,rfl⟩) ?_
    all_goals refine auV ?_
    all_goals try exact z9
    all_goals try simp only [hsM] at *
   ·obtain ⟨a,b,v,t,d,hfd,hab⟩:=kh f
    rw [hfd] at h3
    by_cases hfe:frE f=0
    ·have hmm:(ym f 6).many=true:=by
      cases hq:(ym f 6).many with
      |true=>rfl
      |false=>exact absurd (by unfold xF;rw [if_neg (by omega),if_neg (by omega),if_neg hn,if_neg (by omega),hq];rfl) hE
     have e:xF P L port now l f=4:=by unfold xF;rw [if_neg (by omega),if_neg (by omega),if_neg hn,if_neg (by omega),hmm];rfl
     rw [e]
     obtain ⟨rfl,rfl⟩:=hab hfe
     have h4:=sm (ym f 6) (lx f 6)
     rw [hmm] at h4
     rw [hfe,lC] at h3
     refine z3 {} 0 Tryz.func7 fun Γ hW=>auC ?_
     repeat' first|refine auS ?_|(first|((with_reducible refine zB 20 (yr 20 l _ (by unfold zW maxLen;omega)) ?_))|(refine zt 20 rfl h1 (u0 _ _ _ _ _ _) rfl ?_)|(refine zt 20 rfl h2 (u0 _ _ _ _ _ _) rfl ?_)|(with_reducible refine z0 h3 ?_)|(with_reducible refine z0 h4 ?_))|refine auD ?_|(refine auW ?_ ?_<;>intro h<;>try exact auH)|fail
     all_goals try exact auP
     all_goals refine zl (zR hW 1 20 (by decide) (ys:=[[.v (.int .i64 P),.v (.int .i64 L),.snap 8 (l.map Sn.enc) false]]) rfl rfl ⟨⟨rfl,rfl,Or.inl ⟨rfl,rfl,by simp,by rw [zA]⟩,rfl⟩,rfl⟩) ?_
     all_goals refine auV ?_
     all_goals try exact z9
     all_goals try simp only [hsM] at *
    ·have e:xF P L port now l f=frE f:=by unfold xF;rw [if_neg (by omega),if_neg (by omega),if_neg hn,if_pos hfe]
     rw [e]
     rw [lC] at h3
     have h4:=h3
     refine z3 {} 0 Tryz.func7 fun Γ hW=>auC ?_
     repeat' first|refine auS ?_|(first|((with_reducible refine zB 20 (yr 20 l _ (by unfold zW maxLen;omega)) ?_))|(refine zt 20 rfl h1 (u0 _ _ _ _ _ _) rfl ?_)|(refine zt 20 rfl h2 (u0 _ _ _ _ _ _) rfl ?_)|(with_reducible refine z0 h3 ?_)|(with_reducible refine z0 h4 ?_))|refine auD ?_|(refine auW ?_ ?_<;>intro h<;>try exact auH)|fail
     all_goals try exact auP
     all_goals refine zl (zR hW 1 20 (by decide) (ys:=[[.v (.int .i64 P),.v (.int .i64 L),.snap 8 (l.map Sn.enc) false]]) rfl rfl ⟨⟨rfl,rfl,Or.inl ⟨rfl,rfl,by simp,by rw [zA]⟩,rfl⟩,rfl⟩) ?_
     all_goals refine auV ?_
     all_goals try exact z9
     all_goals try simp only [hsM] at *
  ·have e:xF P L port now l f=7:=by unfold xF;rw [if_neg (by omega),if_pos hp]
   rw [e]
   have h4:=h3
   refine z3 {} 0 Tryz.func7 fun Γ hW=>auC ?_
   repeat' first|refine auS ?_|(first|((with_reducible refine zB 20 (yr 20 l _ (by unfold zW maxLen;omega)) ?_))|(refine zt 20 rfl h1 (u0 _ _ _ _ _ _) rfl ?_)|(refine zt 20 rfl h2 (u0 _ _ _ _ _ _) rfl ?_)|(with_reducible refine z0 h3 ?_)|(with_reducible refine z0 h4 ?_))|refine auD ?_|(refine auW ?_ ?_<;>intro h<;>try exact auH)|fail
   all_goals try exact auP
   all_goals refine zl (zR hW 1 20 (by decide) (ys:=[[.v (.int .i64 P),.v (.int .i64 L),.snap 8 (l.map Sn.enc) false]]) rfl rfl ⟨⟨rfl,rfl,Or.inl ⟨rfl,rfl,by simp,by rw [zA]⟩,rfl⟩,rfl⟩) ?_
   all_goals refine auV ?_
   all_goals try exact z9
   all_goals try simp only [hsM] at *
 ·have e:xF P L port now l f=vM P L l:=by unfold xF;rw [if_pos he]
  rw [e]
  have h2:=h1
  have h4:=h3
  refine z3 {} 0 Tryz.func7 fun Γ hW=>auC ?_
  repeat' first|refine auS ?_|(first|((with_reducible refine zB 20 (yr 20 l _ (by unfold zW maxLen;omega)) ?_))|(refine zt 20 rfl h1 (u0 _ _ _ _ _ _) rfl ?_)|(refine zt 20 rfl h2 (u0 _ _ _ _ _ _) rfl ?_)|(with_reducible refine z0 h3 ?_)|(with_reducible refine z0 h4 ?_))|refine auD ?_|(refine auW ?_ ?_<;>intro h<;>try exact auH)|fail
  all_goals try exact auP
  all_goals refine zl (zR hW 1 20 (by decide) (ys:=[[.v (.int .i64 P),.v (.int .i64 L),.snap 8 (l.map Sn.enc) false]]) rfl rfl ⟨⟨rfl,rfl,Or.inl ⟨rfl,rfl,by simp,by rw [zA]⟩,rfl⟩,rfl⟩) ?_
  all_goals refine auV ?_
  all_goals try exact z9
  all_goals try simp only [hsM] at *
end Go.Proofs.YtmibknbmhcnemaaGreatDoor.E
