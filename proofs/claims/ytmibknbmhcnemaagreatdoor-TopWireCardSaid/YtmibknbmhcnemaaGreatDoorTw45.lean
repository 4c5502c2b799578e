import Derived.Test.YtmibknbmhcnemaaGreatDoorTw44
set_option linter.unusedVariables false
set_option linter.unusedSimpArgs false
namespace Go.Proofs.YtmibknbmhcnemaaGreatDoor.E
attribute [local irreducible] zu Go
set_option maxRecDepth 100000
def sK (port:Int) (n:Nat):List Int:=((List.range n).map (fun k:Nat=>(k:Int))).filter (fun k=>!decide (k=port))
theorem mK (port:Int) (n:Nat):sK port (n+1)=if (n:Int)=port then sK port n else sK port n++[(n:Int)]:=by
 unfold sK
 rw [List.range_succ,List.map_append,List.filter_append]
 by_cases h:(n:Int)=port
 ·simp [h]
 ·simp [h]
theorem fd (port:Int) (n:Nat):(sK port n).length≤n:=by
 unfold sK
 refine Nat.le_trans (List.length_filter_le _ _) ?_
 simp
theorem jT {P L port now:Int} {l:List Sn} {f:List UInt8} (h:xF P L port now l f=0):vM P L l=0∧(0≤port∧port<P)∧¬(now<zN l∨1099511627776<now)∧frE f=0∧(ym f 6).many=false:=by
 unfold xF at h
 split at h
 ·rename_i q;exact absurd h q
 ·rename_i q1
  split at h
  ·cases h
  ·rename_i q2
   split at h
   ·cases h
   ·rename_i q3
    split at h
    ·rename_i q;exact absurd h q
    ·rename_i q4
     split at h
     ·cases h
     ·rename_i q5
      exact ⟨by omega,by omega,q3,by omega,by simpa using q5⟩
def pq (P port:Int) (many:Bool):Option Sn→List Int
 |some x=>if many then sK port P.toNat else if x.p=port then [] else [x.p]
 |none=>sK port P.toNat
set_option maxHeartbeats 8000000 in
theorem ZG (P L port now:Int) (l:List Sn) (f:List UInt8) (cl:Bool) (hf:f.length≤140737488351232) (hm:∀s∈l,0≤s.m.a∧s.m.a<256) (hE:xF P L port now l f=0) :
  zc Tryz.prog 7 [dB P L l cl,.v (.int .i64 port),.v (.int .i64 now),.v (.string (mkS f))] (.tup [dB P L (ye L ⟨ym f 6,port,now⟩ l) false,.snap 1 ((pq P port (ym f 0).many ((ye L ⟨ym f 6,port,now⟩ l).find? (xK L now (ym f 0)))).map nY) false,.v (.int .i64 0)]):=by
 obtain ⟨he,hp,hn,hfe,hmf⟩:=jT hE
 have h1:=wg P L l false hm
 have h3:=r5 f hf
 obtain ⟨hPL,hl,hg⟩:=n6 he
 have h2:=sD P L l false hl
 rw [he] at h1
 obtain ⟨a,b,v,t,d,hfd,hab⟩:=kh f
 obtain ⟨rfl,rfl⟩:=hab hfe
 have h4:=sm (ym f 6) (lx f 6)
 rw [hmf] at h4
 rw [hfe,hfd,lC] at h3
 have hbd:=Z4 hg
 have hbt:∀t∈l,tm t:=fun t ht=>(hbd t ht).2
 have h0:0≤zN l:=by
  rcases qB l with e|⟨y,hy,e⟩
  ·rw [e];exact Int.le_refl _
  ·rw [←e];exact (hbt y hy).1
 have hst:tm ⟨ym f 6,port,now⟩:=by unfold tm;dsimp only;omega
 have hlt:∀t∈ye L ⟨ym f 6,port,now⟩ l,tm t:=fun t ht=>by
  rcases dI ht with h|rfl
  ·exact hbt t h
  ·exact hst
 have h5:=mB P L now (ym f 0) (ye L ⟨ym f 6,port,now⟩ l) false (eF _ _ _ hl) hlt (by omega)
 have h6:=sm (ym f 0) (lx f 0)
 cases hq:(ye L ⟨ym f 6,port,now⟩ l).find? (xK L now (ym f 0)) with
 |none=>
  rw [hq] at h5
  dsimp only [Option.elim,Option.isSome] at h5
  have hout:sK port P.toNat=pq P port (ym f 0).many none:=rfl
  refine z3 {} 0 Tryz.func7 fun Γ hW=>auC ?_
  repeat' first|refine auS ?_|(first|((with_reducible refine zB 20 (yr 20 l _ (by unfold zW maxLen;omega)) ?_))|(refine zt 20 rfl h1 (u0 _ _ _ _ _ _) rfl ?_)|(refine zt 20 rfl h2 (u0 _ _ _ _ _ _) rfl ?_)|(with_reducible refine z0 h3 ?_)|(with_reducible refine z0 h4 ?_)|(refine ud 20 21 rfl (qb 20 21 P L ⟨ym f 6,port,now⟩ l _ hl hst hbt) ?_)|(refine zt 21 rfl h5 (u0 _ _ _ _ _ _) rfl ?_)|(with_reducible refine z0 h6 ?_))|refine auD ?_|(refine auW ?_ ?_<;>intro h<;>try exact auH)|fail
  all_goals try exact auP
  refine gH (vi ⟨.d0,.d2,.d0⟩ 5 1 rfl rfl) ?_
  refine zx (α:=Nat×Nat×Nat) (fun p=>[(⟨.d0,.d2,.d0⟩,.sl 5 p.2.2 1 0 (sK port p.1).length false),(⟨.d1,.d3,.d2⟩,.v (.int .i64 (p.1:Nat)))]) (fun p=>[(4,none),(5,some ⟨p.2.2,1,(sK port p.1).map nY⟩)]) (fun p=>p.2.1) (fun p=>P.toNat-p.1) (fun p=>p.1≤P.toNat∧Γ.g0≤p.2.2∧Γ.g0≤p.2.1) (0,Γ.g0+5+1,Γ.g0+5) ⟨Nat.zero_le _,by dsimp only;omega,by dsimp only;omega⟩ ?_ ?_
  ·skip
   refine zp ?_ ?_ (Nat.le_refl _)
   all_goals first|refine auE ?_|exact zJ
   all_goals repeat' first|exact trivial|exact rfl|apply And.intro
  rintro ⟨k,g2,N⟩ ⟨hk,hN,hg2⟩
  dsimp only at hk hN hg2 ⊢
  refine auL ?_
  have hbl:=fd port k
  by_cases hkm:k<P.toNat
  ·have hnx:=mK port k
   repeat' first|refine auS ?_|fail|refine auD ?_|(refine auW ?_ ?_<;>intro h<;>try exact auH)|(first|(refine z_ ⟨by trivial,by trivial,by trivial,by trivial,by (simp;try omega)⟩ ?_)|(refine z_ ⟨by trivial,by (unfold zW maxLen;simp only [List.length_map,List.length_cons,List.length_nil,List.length_take];omega)⟩ ?_)|fail)
   all_goals try exact auP
   ·have hne:¬(k:Int)=port:=by simpa using h
    rw [if_neg hne] at hnx
    refine zo ⟨(k+1,g2+2,g2+1),⟨hkm,by dsimp only;omega,by dsimp only;omega⟩,Nat.sub_lt_sub_left hkm (Nat.lt_succ_self k),?_⟩
    refine zp ?_ ?_ (Nat.le_refl _)
    all_goals first|refine auE ?_|exact zJ
    all_goals repeat' first|exact trivial|exact rfl|apply And.intro
    all_goals first
     |exact zL ((IntWalk.i64_in _ (by omega)).trans (by omega))
     |exact congrArg (fun q=>DV.sl 5 (g2+1) 1 0 q false) (by rw [hnx,List.length_map,List.length_append];rfl)
     |(rw [hnx,List.map_append];rfl)
   ·have heq:(k:Int)=port:=by simpa using h
    rw [if_pos heq] at hnx
    refine zo ⟨(k+1,g2,N),⟨hkm,hN,hg2⟩,Nat.sub_lt_sub_left hkm (Nat.lt_succ_self k),?_⟩
    refine zp ?_ ?_ (Nat.le_refl _)
    all_goals first|refine auE ?_|exact zJ
    all_goals repeat' first|exact trivial|exact rfl|apply And.intro
    all_goals first
     |exact zL ((IntWalk.i64_in _ (by omega)).trans (by omega))
     |(rw [hnx];done)
     |(rw [hnx];rfl)
  ·obtain rfl:k=P.toNat:=by omega
   repeat' first|refine auS ?_|fail|refine auD ?_|(refine auW ?_ ?_<;>intro h<;>try exact auH)|fail
   all_goals try exact auP
   refine zl (zR hW 1 21 (by decide) (ys:=[[.v (.int .i64 P),.v (.int .i64 L),.snap 8 ((ye L ⟨ym f 6,port,now⟩ l).map Sn.enc) false]]) rfl rfl ⟨⟨rfl,rfl,Or.inl ⟨rfl,rfl,by simp,by rw [zA]⟩,rfl⟩,rfl⟩) ?_
   refine zl (zi hW ⟨.d0,.d1,.d1⟩ rfl rfl ⟨rfl,rfl,by (simp;try omega)⟩) ?_
   rw [sa (by simp)]
   all_goals refine auV ?_
   all_goals try exact z9
   all_goals try simp only [hsM] at *
   exact congrArg (fun o=>DV.tup [dB P L _ false,DV.snap 1 (o.map nY) false,DV.v (.int .i64 0)]) hout
 |some x=>
  rw [hq] at h5
  dsimp only [Option.elim,Option.isSome] at h5
  by_cases hmt:(ym f 0).many=true
  ·rw [hmt] at h6
   have hout:sK port P.toNat=pq P port (ym f 0).many (some x):=by unfold pq;rw [hmt];rfl
   refine z3 {} 0 Tryz.func7 fun Γ hW=>auC ?_
   repeat' first|refine auS ?_|(first|((with_reducible refine zB 20 (yr 20 l _ (by unfold zW maxLen;omega)) ?_))|(refine zt 20 rfl h1 (u0 _ _ _ _ _ _) rfl ?_)|(refine zt 20 rfl h2 (u0 _ _ _ _ _ _) rfl ?_)|(with_reducible refine z0 h3 ?_)|(with_reducible refine z0 h4 ?_)|(refine ud 20 21 rfl (qb 20 21 P L ⟨ym f 6,port,now⟩ l _ hl hst hbt) ?_)|(refine zt 21 rfl h5 (u0 _ _ _ _ _ _) rfl ?_)|(with_reducible refine z0 h6 ?_))|refine auD ?_|(refine auW ?_ ?_<;>intro h<;>try exact auH)|fail
   all_goals try exact auP
   refine gH (vi ⟨.d0,.d2,.d0⟩ 5 1 rfl rfl) ?_
   refine zx (α:=Nat×Nat×Nat) (fun p=>[(⟨.d0,.d2,.d0⟩,.sl 5 p.2.2 1 0 (sK port p.1).length false),(⟨.d1,.d3,.d2⟩,.v (.int .i64 (p.1:Nat)))]) (fun p=>[(4,none),(5,some ⟨p.2.2,1,(sK port p.1).map nY⟩)]) (fun p=>p.2.1) (fun p=>P.toNat-p.1) (fun p=>p.1≤P.toNat∧Γ.g0≤p.2.2∧Γ.g0≤p.2.1) (0,Γ.g0+5+1,Γ.g0+5) ⟨Nat.zero_le _,by dsimp only;omega,by dsimp only;omega⟩ ?_ ?_
   ·skip
    refine zp ?_ ?_ (Nat.le_refl _)
    all_goals first|refine auE ?_|exact zJ
    all_goals repeat' first|exact trivial|exact rfl|apply And.intro
   rintro ⟨k,g2,N⟩ ⟨hk,hN,hg2⟩
   dsimp only at hk hN hg2 ⊢
   refine auL ?_
   have hbl:=fd port k
   by_cases hkm:k<P.toNat
   ·have hnx:=mK port k
    repeat' first|refine auS ?_|fail|refine auD ?_|(refine auW ?_ ?_<;>intro h<;>try exact auH)|(first|(refine z_ ⟨by trivial,by trivial,by trivial,by trivial,by (simp;try omega)⟩ ?_)|(refine z_ ⟨by trivial,by (unfold zW maxLen;simp only [List.length_map,List.length_cons,List.length_nil,List.length_take];omega)⟩ ?_)|fail)
    all_goals try exact auP
    ·have hne:¬(k:Int)=port:=by simpa using h
     rw [if_neg hne] at hnx
     refine zo ⟨(k+1,g2+2,g2+1),⟨hkm,by dsimp only;omega,by dsimp only;omega⟩,Nat.sub_lt_sub_left hkm (Nat.lt_succ_self k),?_⟩
     refine zp ?_ ?_ (Nat.le_refl _)
     all_goals first|refine auE ?_|exact zJ
     all_goals repeat' first|exact trivial|exact rfl|apply And.intro
     all_goals first
      |exact zL ((IntWalk.i64_in _ (by omega)).trans (by omega))
      |exact congrArg (fun q=>DV.sl 5 (g2+1) 1 0 q false) (by rw [hnx,List.length_map,List.length_append];rfl)
      |(rw [hnx,List.map_append];rfl)
    ·have heq:(k:Int)=port:=by simpa using h
     rw [if_pos heq] at hnx
     refine zo ⟨(k+1,g2,N),⟨hkm,hN,hg2⟩,Nat.sub_lt_sub_left hkm (Nat.lt_succ_self k),?_⟩
     refine zp ?_ ?_ (Nat.le_refl _)
     all_goals first|refine auE ?_|exact zJ
     all_goals repeat' first|exact trivial|exact rfl|apply And.intro
     all_goals first
      |exact zL ((IntWalk.i64_in _ (by omega)).trans (by omega))
      |(rw [hnx];done)
      |(rw [hnx];rfl)
   ·obtain rfl:k=P.toNat:=by omega
    repeat' first|refine auS ?_|fail|refine auD ?_|(refine auW ?_ ?_<;>intro h<;>try exact auH)|fail
    all_goals try exact auP
    refine zl (zR hW 1 21 (by decide) (ys:=[[.v (.int .i64 P),.v (.int .i64 L),.snap 8 ((ye L ⟨ym f 6,port,now⟩ l).map Sn.enc) false]]) rfl rfl ⟨⟨rfl,rfl,Or.inl ⟨rfl,rfl,by simp,by rw [zA]⟩,rfl⟩,rfl⟩) ?_
    refine zl (zi hW ⟨.d0,.d1,.d1⟩ rfl rfl ⟨rfl,rfl,by (simp;try omega)⟩) ?_
    rw [sa (by simp)]
    all_goals refine auV ?_
    all_goals try exact z9
    all_goals try simp only [hsM] at *
    exact congrArg (fun o=>DV.tup [dB P L _ false,DV.snap 1 (o.map nY) false,DV.v (.int .i64 0)]) hout
  ·have hmt':(ym f 0).many=false:=by simpa using hmt
   rw [hmt'] at h6 ⊢
   by_cases hx:x.p=port
   ·have hout:pq P port false (some x)=[]:=by unfold pq;simp [hx]
    rw [hout]
    refine xN (D:=.tup [dB P L (ye L ⟨ym f 6,port,now⟩ l) false,.v (.slice none 0 0),.v (.int .i64 0)]) ?_ ⟨⟨.inl rfl,.inl rfl,rfl,rfl⟩,.inr ⟨rfl,1,rfl⟩,.inl rfl,rfl⟩
    refine z3 {} 0 Tryz.func7 fun Γ hW=>auC ?_
    repeat' first|refine auS ?_|(first|((with_reducible refine zB 20 (yr 20 l _ (by unfold zW maxLen;omega)) ?_))|(refine zt 20 rfl h1 (u0 _ _ _ _ _ _) rfl ?_)|(refine zt 20 rfl h2 (u0 _ _ _ _ _ _) rfl ?_)|(with_reducible refine z0 h3 ?_)|(with_reducible refine z0 h4 ?_)|(refine ud 20 21 rfl (qb 20 21 P L ⟨ym f 6,port,now⟩ l _ hl hst hbt) ?_)|(refine zt 21 rfl h5 (u0 _ _ _ _ _ _) rfl ?_)|(with_reducible refine z0 h6 ?_))|refine auD ?_|(refine auW ?_ ?_<;>intro h<;>try exact auH)|fail
    all_goals try exact auP
    refine zl (zR hW 1 21 (by decide) (ys:=[[.v (.int .i64 P),.v (.int .i64 L),.snap 8 ((ye L ⟨ym f 6,port,now⟩ l).map Sn.enc) false]]) rfl rfl ⟨⟨rfl,rfl,Or.inl ⟨rfl,rfl,by simp,by rw [zA]⟩,rfl⟩,rfl⟩) ?_
    all_goals refine auV ?_
    all_goals try exact z9
    all_goals try simp only [hsM] at *
    all_goals rfl
   ·have hout:pq P port false (some x)=[x.p]:=by unfold pq;simp [hx]
    rw [hout]
    refine z3 {} 0 Tryz.func7 fun Γ hW=>auC ?_
    repeat' first|refine auS ?_|(first|((with_reducible refine zB 20 (yr 20 l _ (by unfold zW maxLen;omega)) ?_))|(refine zt 20 rfl h1 (u0 _ _ _ _ _ _) rfl ?_)|(refine zt 20 rfl h2 (u0 _ _ _ _ _ _) rfl ?_)|(with_reducible refine z0 h3 ?_)|(with_reducible refine z0 h4 ?_)|(refine ud 20 21 rfl (qb 20 21 P L ⟨ym f 6,port,now⟩ l _ hl hst hbt) ?_)|(refine zt 21 rfl h5 (u0 _ _ _ _ _ _) rfl ?_)|(with_reducible refine z0 h6 ?_))|refine auD ?_|(refine auW ?_ ?_<;>intro h<;>try exact auH)|fail
    all_goals try exact auP
    refine zl (zR hW 1 21 (by decide) (ys:=[[.v (.int .i64 P),.v (.int .i64 L),.snap 8 ((ye L ⟨ym f 6,port,now⟩ l).map Sn.enc) false]]) rfl rfl ⟨⟨rfl,rfl,Or.inl ⟨rfl,rfl,by simp,by rw [zA]⟩,rfl⟩,rfl⟩) ?_
    refine zl (zi hW ⟨.d0,.d1,.d1⟩ rfl rfl ⟨rfl,rfl,Nat.le_refl 1⟩) ?_
    refine zl (yp (ZC ⟨.d0,.d1,.d1⟩ rfl)) ?_
    dsimp only [zC,zF]
    all_goals refine auV ?_
    all_goals try exact z9
    all_goals try simp only [hsM] at *
    all_goals rfl
end Go.Proofs.YtmibknbmhcnemaaGreatDoor.E
