import Derived.Test.YtmibknbmhcnemaaGreatDoorHb20
import Derived.Test.YtmibknbmhcnemaaGreatDoorHb23
import Derived.Test.YtmibknbmhcnemaaGreatDoorHb24
import Derived.Test.YtmibknbmhcnemaaGreatDoorHb26
set_option linter.unusedVariables false
set_option linter.unusedSimpArgs false
namespace Go.Proofs.YtmibknbmhcnemaaGreatDoor
def rw8 (t:List UInt8):List (List DV):=t.map (fun b=>[.v (.int .u8 (b.toNat:Int))])
theorem v6 (t:List UInt8):xv (mkS t)=rw8 t:=rfl
theorem Uu (a:Int):IntKind.u8.wrap a=((u8 a).toNat:Int):=by rw [ly,IntKind.wrap_u8]
theorem oM:∀t:List UInt8,vN (rw8 t)=true
 |[]=>rfl
 |a::r=>by
  have:=oM r
  simp only [rw8,List.map_cons,vN] at this ⊢
  first
   |exact this
   |(rw [this];rfl)
theorem aR (t:List UInt8):rE (rw8 t)=mkS t:=by
 rw [gP]
 unfold rw8
 rw [List.map_map]
 refine congrArg mkS ?_
 conv=>rhs;rw [←List.map_id t]
 refine List.map_congr_left fun a _=>?_
 show UInt8.ofNat ((a.toNat:Int)).toNat=a
 simp
theorem vM (t:List UInt8):(rw8 t).length=t.length:=List.length_map _
end Go.Proofs.YtmibknbmhcnemaaGreatDoor
namespace Go.Proofs.YtmibknbmhcnemaaGreatDoor
attribute [local irreducible] zF Go
set_option maxRecDepth 100000
theorem rj (t:List UInt8) (i:Nat) (h:i<t.length):ym (rw8 t) i=[.v (.int .u8 (bN t i:Nat))]:=by
 obtain ⟨b,hb⟩:∃b,t[i]?=some b:=⟨_,List.getElem?_eq_getElem h⟩
 rw [WV hb]
 exact zT (fun b:UInt8=>[.v (.int .u8 (b.toNat:Int))]) t i b hb
theorem fx (t:List UInt8) (i:Nat) (a:Int):t7 (rw8 t) i [.v (.int .u8 (IntKind.u8.wrap a))]=rw8 (t.set i (u8 a)):=by
 rw [Uu]
 exact X0 (fun b:UInt8=>[DV.v (.int .u8 (b.toNat:Int))]) t i (u8 a)
theorem s_ (n:Int) (h0:0≤n) (h1:n<2 ^ 16):IntKind.u16.wrap n=n:=IntWalk.u16_in _ (by omega)
theorem Yo (a b:Nat) (ha:a<256) (hb:b<256):bits .or .u16 (IntKind.u16.wrap ((a:Int)*2 ^ 8)) (b:Nat)=256*(a:Int)+(b:Nat):=by
 rw [s_ _ (by omega) (by omega),bits_join .u16 16 (by decide) s_ 8 _ _ (by omega) (by omega) (by omega) (by omega) (by omega) (by omega)]
 omega
theorem lF (c o n:Int) (hc:0≤c∧c≤65535) (ho:0≤o∧o≤65535) (hn:0≤n∧n≤65535):zd Tryz.prog 101 [.v (.int .u16 c),.v (.int .u16 o),.v (.int .u16 n)] (.v (.int .u16 (r9 c o n))):=by
 have sg:IntKind.u16.signed=false:=rfl
 have h1:=vb c hc.1 hc.2
 have h2:=vb o ho.1 ho.2
 have e1:IntKind.u64.wrap (65535-c)=65535-c:=yk _ (by omega) (by omega)
 have e2:IntKind.u64.wrap (65535-o)=65535-o:=yk _ (by omega) (by omega)
 have e3:IntKind.u64.wrap n=n:=yk _ (by omega) (by omega)
 have e4:IntKind.u64.wrap (65535-c+(65535-o))=65535-c+(65535-o):=yk _ (by omega) (by omega)
 have e5:IntKind.u64.wrap (65535-c+(65535-o)+n)=65535-c+(65535-o)+n:=yk _ (by omega) (by omega)
 have hf:=rN (65535-c+(65535-o)+n) (by omega) (by omega)
 have hb:=xE (65535-c+(65535-o)+n) (by omega)
 have hx:=vb _ hb.1 hb.2
 refine z4 {} 0 Tryz.func101 fun Γ hW=>auC ?_
 repeat' first|refine auS ?_|(first|(simp only [sg])|(simp only [h1])|(simp only [h2])|(simp only [e1])|(simp only [e2])|(simp only [e3,e4,e5])|(with_reducible refine z0 hf ?_))|refine auD ?_|(refine auW ?_ ?_<;>intro h<;>try exact auH)|fail
 all_goals try exact auP
 all_goals refine auV ?_
 all_goals try exact z8
 all_goals try simp only [hsM] at *
 all_goals exact zB hx
theorem mG (t:List UInt8) (i len:Nat) (fu:Bool) (n:Nat) (hi:i+1<len) (hl:len≤t.length) (hm:len≤140737488351232):zR Tryz.prog 185 [.sl 0 n 1 0 len fu,.v (.int .i64 (i:Nat))] [some ⟨n,1,rw8 t⟩] (fun d H=>d=.v (.int .u16 (z3 t i))∧H=[some ⟨n,1,rw8 t⟩]):=by
 have e0:=rj t i (by omega)
 have e1:=rj t (i+1) (by omega)
 have b0:=yg t i
 have b1:=yg t (i+1)
 have c0:IntKind.u16.wrap (bN t i:Nat)=(bN t i:Nat):=s_ _ (by omega) (by omega)
 have c1:IntKind.u16.wrap (bN t (i+1):Nat)=(bN t (i+1):Nat):=s_ _ (by omega) (by omega)
 have m8:min 8 IntKind.u16.bits=8:=rfl
 have hor:=Yo (bN t i) (bN t (i+1)) b0 b1
 have hlen:=vM t
 have ei:IntKind.i64.wrap ((i:Int)+1)=((i+1:Nat):Int):=by rw [IntWalk.i64_in _ (by omega)];omega
 refine zY {} 0 Tryz.func185 fun Γ hN0 hL0=>auC ?_
 have hn:n<Γ.g0:=hN0 0 _ rfl
 repeat' first|refine auS ?_|(first|(simp only [ei,Int.toNat_natCast,Nat.zero_add,e0,e1])|(simp only [m8,c0,c1])|(simp only [hor]))|refine auD ?_|(refine auW ?_ ?_<;>intro h<;>try exact auH)|fail
 all_goals try exact auP
 refine xp trivial trivial ?_ rfl hn (zn (fun x=>by simp [nfL,nfD])) rfl
 rfl
theorem Yy (t:List UInt8) (i len:Nat) (fu:Bool) (n:Nat) (w:Int) (hi:i+1<len) (hl:len≤t.length) (hm:len≤140737488351232):zR Tryz.prog 187 [.sl 0 n 1 0 len fu,.v (.int .i64 (i:Nat)),.v (.int .u16 w)] [some ⟨n,1,rw8 t⟩] (fun d H=>d=.tup []∧H=[some ⟨n,1,rw8 (yo t i w)⟩]):=by
 have e0:=rj t i (by omega)
 have e1:=rj (t.set i (u8 (w / 256))) (i+1) (by simp;omega)
 have s0:=fx t i (w / 256)
 have s1:=fx (t.set i (u8 (w / 256))) (i+1) w
 have m8:min 8 IntKind.u16.bits=8:=rfl
 have hlen:=vM t
 have hlen1:=(vM (t.set i (u8 (w / 256)))).trans (List.length_set ..)
 have f8:w.fdiv (2 ^ 8)=w / 256:=Int.fdiv_eq_ediv_of_nonneg _ (by decide)
 have ei:IntKind.i64.wrap ((i:Int)+1)=((i+1:Nat):Int):=by rw [IntWalk.i64_in _ (by omega)];omega
 have sp:∀(a b:DV),xd [a] 0 [b]=[b]:=fun _ _=>rfl
 refine zY {} 0 Tryz.func187 fun Γ hN0 hL0=>auC ?_
 have hn:n<Γ.g0:=hN0 0 _ rfl
 repeat' first|refine auS ?_|(first|(simp only [ei,Int.toNat_natCast,Nat.zero_add,e0])|(simp only [m8,f8])|(simp only [s0])|(simp only [e1])|(simp only [sp])|(simp only [s1]))|refine auD ?_|(refine auW ?_ ?_<;>intro h<;>try exact auH)|(refine z7 ⟨by rw [hlen1];omega,by trivial,by trivial⟩ ?_)
 all_goals try exact auP
 refine xp trivial trivial ?_ rfl hn (zn (fun x=>by simp [nfL,nfD])) rfl
 rfl
abbrev ZP (c:Nat):List DV:=[.v (.int .i64 (c:Nat))]
theorem bJ {α β:Type} (f:β→α→β) (a:α) (b:β) (l:List α) (k:Nat) (h:l[k]?=some a):(l.take (k+1)).foldl f b=f ((l.take k).foldl f b) a:=by
 rw [List.take_add_one,h,List.foldl_append];rfl
set_option maxHeartbeats 2000000 in
theorem pi (t:List UInt8) (i len:Nat) (fu:Bool) (n:Nat) (w:Int) (cs:List Nat) (cl:Bool) (hi:i+1<len) (hl:len≤t.length) (hm:len≤140737488351232) (hw:0≤w∧w≤65535) (hcs:∀c∈cs,c+1<len) (hcl:cs.length≤1000):zR Tryz.prog 186 [.sl 0 n 1 0 len fu,.v (.int .i64 (i:Nat)),.v (.int .u16 w),.snap 1 (cs.map ZP) cl] [some ⟨n,1,rw8 t⟩] (fun d H=>d=.tup []∧H=[some ⟨n,1,rw8 (chg t i w cs)⟩]):=by
 have hp:=mG t i len fu n hi hl hm
 have hq:=Yy t i len fu n w hi hl hm
 have bo:=zh t i
 refine zY {} 0 Tryz.func186 fun Γ hN0 hL0=>auC ?_
 have hn:n<Γ.g0:=hN0 0 _ rfl
 unfold chg
 generalize z3 t i=o at *
 repeat' first|refine auS ?_|(first|((with_reducible refine z9 0 ?_ hp (fun _ _ _ h=>h) ?_);(exact rfl))|((with_reducible refine z9 0 ?_ hq (fun _ _ _ h=>h) ?_);(exact rfl)))|refine auD ?_|(refine auW ?_ ?_<;>intro h<;>try exact auH)|fail
 refine ze (α:=Nat) (fun k=>[(⟨.d0,.d2,.d4⟩,.v (.int .i64 (k:Nat)))]) (fun k=>[(0,some ⟨n,1,rw8 ((cs.take k).foldl (pv o w) (yo t i w))⟩)]) (fun _=>Γ.g0) (fun k=>cs.length-k) (fun k=>k≤cs.length) 0 (Nat.zero_le _) ?_ ?_
 ·skip
  refine zb ?_ ?_ (Nat.le_refl _)
  all_goals first|refine auE ?_|exact zi
  all_goals repeat' first|exact trivial|exact rfl|apply And.intro
 intro k hk
 dsimp only at hk ⊢
 refine auL ?_
 by_cases hlt:k<cs.length
 ·obtain ⟨c,hc⟩:∃c,cs[k]?=some c:=⟨_,List.getElem?_eq_getElem hlt⟩
  have ex:=zT ZP cs k c hc
  have hcm:=hcs c (List.mem_of_getElem? hc)
  have hfl:=(lK o w (cs.take k) (yo t i w)).trans (zG t i w)
  have hsn:=bJ (pv o w) c (yo t i w) cs k hc
  generalize (cs.take k).foldl (pv o w) (yo t i w)=tk at *
  have bk:=zh tk c
  have hp2:=mG tk c len fu n hcm (by omega) hm
  have hf2:=lF (z3 tk c) o w bk bo hw
  have hq2:=Yy tk c len fu n (r9 (z3 tk c) o w) hcm (by omega) hm
  repeat' first|refine auS ?_|(first|(simp only [Int.toNat_natCast,ex])|((with_reducible refine z9 0 ?_ hp2 (fun _ _ _ h=>h) ?_);(exact rfl))|(with_reducible refine z0 hf2 ?_)|((with_reducible refine z9 0 ?_ hq2 (fun _ _ _ h=>h) ?_);(exact rfl)))|refine auD ?_|(refine auW ?_ ?_<;>intro h<;>try exact auH)|fail
  all_goals try exact auP
  refine za ⟨k+1,hlt,Nat.sub_lt_sub_left hlt (Nat.lt_succ_self k),?_⟩
  rw [hsn]
  refine zb ?_ ?_ (Nat.le_refl _)
  all_goals first|refine auE ?_|exact zi
  all_goals repeat' first|exact trivial|exact rfl|apply And.intro
  all_goals exact zB ((IntWalk.i64_in _ (by omega)).trans (by omega))
 ·obtain rfl:k=cs.length:=by omega
  rw [List.take_length]
  repeat' first|refine auS ?_|fail|refine auD ?_|(refine auW ?_ ?_<;>intro h<;>try exact auH)|fail
  all_goals try exact auP
  refine xp trivial trivial ?_ rfl hn (zn (fun x=>by simp [nfL,nfD])) rfl
  rfl
end Go.Proofs.YtmibknbmhcnemaaGreatDoor
namespace Go.Proofs.YtmibknbmhcnemaaGreatDoor
attribute [local irreducible] zF Go
set_option maxRecDepth 100000
structure Fl where
 (fr to proto fp tp:Int)
abbrev Fl.enc (f:Fl):List DV:=[.v (.int .u32 f.fr),.v (.int .u32 f.to),.v (.int .i64 f.proto),.v (.int .i64 f.fp),.v (.int .i64 f.tp)]
def fl0:Fl:=⟨0,0,0,0,0⟩
abbrev dFE (r:Fl×Int):DV:=.tup [.agg r.1.enc,.v (.int .i64 r.2)]
def edP (p:Pk):Fl×Int:=
 if ¬(p.proto=6∨p.proto=17) then (fl0,7)
 else if p.mo=true∨p.start≠0 then (fl0,9)
 else if p.proto=6 then (if (rdS p.data p.fr p.to).2=0 then (⟨p.fr,p.to,6,z3 p.data 0,z3 p.data 2⟩,0) else (fl0,(rdS p.data p.fr p.to).2))
 else (if (rdL p.data p.fr p.to).2=0 then (⟨p.fr,p.to,17,z3 p.data 0,z3 p.data 2⟩,0) else (fl0,(rdL p.data p.fr p.to).2))
def edR (s:List UInt8):Fl×Int:=if zU s=0 then edP (rdP s) else (fl0,zU s)
theorem i_ {s:List UInt8} {a b:Int} (h:(rdS s a b).2=0):(rdS s a b).1.fr=z3 s 0∧(rdS s a b).1.to=z3 s 2∧20≤s.length:=by
 unfold rdS at h ⊢
 split at h
 ·cases h
 rename_i h1
 rw [if_neg h1]
 split at h
 ·cases h
 rename_i h2
 rw [if_neg h2]
 split at h
 ·cases h
 rename_i h3
 rw [if_neg h3]
 cases hq:prs ((s.drop 20).take (nW s-20)) with
 |none=>rw [hq] at h;cases h
 |some l=>
  rw [hq] at h
  dsimp only at h ⊢
  split at h
  ·cases h
  ·rename_i h4
   rw [if_neg h4]
   exact ⟨rfl,rfl,by omega⟩
theorem dI {s:List UInt8} {a b:Int} (h:(rdL s a b).2=0):(rdL s a b).1.1=z3 s 0∧(rdL s a b).1.2.1=z3 s 2∧8≤s.length:=by
 unfold rdL at h ⊢
 split at h
 ·cases h
 rename_i h1
 rw [if_neg h1]
 split at h
 ·cases h
 rename_i h2
 rw [if_neg h2]
 split at h
 ·cases h
 ·rename_i h3
  rw [if_neg h3]
  exact ⟨rfl,rfl,by omega⟩
set_option maxHeartbeats 4000000 in
theorem o_ (s:List UInt8) (hs:s.length≤140737488351232):zd Tryz.prog 59 [.v (.string (mkS s))] (dFE (edR s)):=by
 have hr:=rn s hs
 by_cases he:zU s=0
 rotate_left
 ·have e1:rpR s=(pk0,zU s):=by unfold rpR;rw [if_neg he]
  have e2:edR s=(fl0,zU s):=by unfold edR;rw [if_neg he]
  rw [e1] at hr
  rw [e2]
  clear e1 e2
  generalize zU s=e at *
  unfold pk0 at hr
  unfold fl0
  refine z4 {} 0 Tryz.func59 fun Γ hW=>auC ?_
  repeat' first|refine auS ?_|(first|(with_reducible refine z0 hr ?_)|(with_reducible refine z0 ht ?_)|(with_reducible refine z0 hl ?_)|(with_reducible refine z0 w0 ?_)|(with_reducible refine z0 w2 ?_))|refine auD ?_|(refine auW ?_ ?_<;>intro h<;>try exact auH)|fail
  all_goals try exact auP
  all_goals first
   |(exfalso;simp_all;done)
   |skip
  all_goals refine auV ?_
  all_goals try exact z8
  all_goals try simp only [hsM] at *
  all_goals rfl
 have e1:rpR s=(rdP s,0):=by unfold rpR;rw [if_pos he]
 have e2:edR s=edP (rdP s):=by unfold edR;rw [if_pos he]
 have hd:(rdP s).data.length≤140737488351232:=by simp only [rdP,List.length_take,List.length_drop];omega
 have hf:0≤(rdP s).fr∧(rdP s).fr<4294967296:=wt s 12
 have hto:0≤(rdP s).to∧(rdP s).to<4294967296:=wt s 16
 have hst:0≤(rdP s).start:=Int.emod_nonneg _ (by decide)
 rw [e1] at hr
 rw [e2]
 clear e1 e2 he
 generalize rdP s=p at *
 have ht:=m6 p.data p.fr p.to hf hto hd
 have hl:=dS p.data p.fr p.to hf hto hd
 obtain ⟨tos,id,wh,mo,start,life,proto,fr,to,opt,data⟩:=p
 dsimp only at *
 by_cases h1:proto=6∨proto=17
 rotate_left
 ·have e3:edP ⟨tos,id,wh,mo,start,life,proto,fr,to,opt,data⟩=(fl0,7):=by unfold edP;rw [if_pos h1]
  rw [e3]
  clear e3
  unfold fl0
  refine z4 {} 0 Tryz.func59 fun Γ hW=>auC ?_
  repeat' first|refine auS ?_|(first|(with_reducible refine z0 hr ?_)|(with_reducible refine z0 ht ?_)|(with_reducible refine z0 hl ?_)|(with_reducible refine z0 w0 ?_)|(with_reducible refine z0 w2 ?_))|refine auD ?_|(refine auW ?_ ?_<;>intro h<;>try exact auH)|fail
  all_goals try exact auP
  all_goals first
   |(exfalso;simp_all;done)
   |skip
  all_goals refine auV ?_
  all_goals try exact z8
  all_goals try simp only [hsM] at *
  all_goals rfl
 by_cases h2:mo=true∨start≠0
 ·have e3:edP ⟨tos,id,wh,mo,start,life,proto,fr,to,opt,data⟩=(fl0,9):=by unfold edP;rw [if_neg (not_not_intro h1),if_pos h2]
  rw [e3]
  clear e3
  unfold fl0
  cases mo with
  |true=>
   clear h2
   rcases h1 with rfl|rfl
   ·skip
    refine z4 {} 0 Tryz.func59 fun Γ hW=>auC ?_
    repeat' first|refine auS ?_|(first|(with_reducible refine z0 hr ?_)|(with_reducible refine z0 ht ?_)|(with_reducible refine z0 hl ?_)|(with_reducible refine z0 w0 ?_)|(with_reducible refine z0 w2 ?_))|refine auD ?_|(refine auW ?_ ?_<;>intro h<;>try exact auH)|fail
    all_goals try exact auP
    all_goals first
     |(exfalso;simp_all;done)
     |skip
    all_goals refine auV ?_
    all_goals try exact z8
    all_goals try simp only [hsM] at *
    all_goals rfl
   ·skip
    refine z4 {} 0 Tryz.func59 fun Γ hW=>auC ?_
    repeat' first|refine auS ?_|(first|(with_reducible refine z0 hr ?_)|(with_reducible refine z0 ht ?_)|(with_reducible refine z0 hl ?_)|(with_reducible refine z0 w0 ?_)|(with_reducible refine z0 w2 ?_))|refine auD ?_|(refine auW ?_ ?_<;>intro h<;>try exact auH)|fail
    all_goals try exact auP
    all_goals first
     |(exfalso;simp_all;done)
     |skip
    all_goals refine auV ?_
    all_goals try exact z8
    all_goals try simp only [hsM] at *
    all_goals rfl
  |false=>
   have h3:start≠0:=h2.resolve_left (by simp)
   clear h2
   rcases h1 with rfl|rfl
   ·skip
    refine z4 {} 0 Tryz.func59 fun Γ hW=>auC ?_
    repeat' first|refine auS ?_|(first|(with_reducible refine z0 hr ?_)|(with_reducible refine z0 ht ?_)|(with_reducible refine z0 hl ?_)|(with_reducible refine z0 w0 ?_)|(with_reducible refine z0 w2 ?_))|refine auD ?_|(refine auW ?_ ?_<;>intro h<;>try exact auH)|fail
    all_goals try exact auP
    all_goals first
     |(exfalso;simp_all;done)
     |skip
    all_goals refine auV ?_
    all_goals try exact z8
    all_goals try simp only [hsM] at *
    all_goals rfl
   ·skip
    refine z4 {} 0 Tryz.func59 fun Γ hW=>auC ?_
    repeat' first|refine auS ?_|(first|(with_reducible refine z0 hr ?_)|(with_reducible refine z0 ht ?_)|(with_reducible refine z0 hl ?_)|(with_reducible refine z0 w0 ?_)|(with_reducible refine z0 w2 ?_))|refine auD ?_|(refine auW ?_ ?_<;>intro h<;>try exact auH)|fail
    all_goals try exact auP
    all_goals first
     |(exfalso;simp_all;done)
     |skip
    all_goals refine auV ?_
    all_goals try exact z8
    all_goals try simp only [hsM] at *
    all_goals rfl
 obtain ⟨rfl,rfl⟩:mo=false∧start=0:=⟨by simpa using fun q=>h2 (.inl q),Decidable.byContradiction fun q=>h2 (.inr q)⟩
 have e3:edP ⟨tos,id,wh,false,0,life,proto,fr,to,opt,data⟩=if proto=6 then (if (rdS data fr to).2=0 then (⟨fr,to,6,z3 data 0,z3 data 2⟩,0) else (fl0,(rdS data fr to).2)) else (if (rdL data fr to).2=0 then (⟨fr,to,17,z3 data 0,z3 data 2⟩,0) else (fl0,(rdL data fr to).2)):=by unfold edP;rw [if_neg (not_not_intro h1),if_neg h2]
 rw [e3]
 clear e3 h2
 rcases h1 with rfl|rfl
 ·rw [if_pos rfl]
  by_cases h4:(rdS data fr to).2=0
  ·obtain ⟨q1,q2,q3⟩:=i_ h4
   rw [if_pos h4]
   have w0:=zp data 0 (by omega) (by omega) 0 rfl
   have w2:=zp data 2 (by omega) (by omega) 2 rfl
   generalize z3 data 0=v0 at *
   generalize z3 data 2=v2 at *
   generalize rdS data fr to=r at *
   obtain ⟨g,ge⟩:=r
   dsimp only at *
   subst h4 q1 q2
   refine z4 {} 0 Tryz.func59 fun Γ hW=>auC ?_
   repeat' first|refine auS ?_|(first|(with_reducible refine z0 hr ?_)|(with_reducible refine z0 ht ?_)|(with_reducible refine z0 hl ?_)|(with_reducible refine z0 w0 ?_)|(with_reducible refine z0 w2 ?_))|refine auD ?_|(refine auW ?_ ?_<;>intro h<;>try exact auH)|fail
   all_goals try exact auP
   all_goals first
    |(exfalso;simp_all;done)
    |skip
   all_goals refine auV ?_
   all_goals try exact z8
   all_goals try simp only [hsM] at *
   all_goals rfl
  ·rw [if_neg h4]
   generalize rdS data fr to=r at *
   obtain ⟨g,ge⟩:=r
   dsimp only at *
   unfold fl0
   refine z4 {} 0 Tryz.func59 fun Γ hW=>auC ?_
   repeat' first|refine auS ?_|(first|(with_reducible refine z0 hr ?_)|(with_reducible refine z0 ht ?_)|(with_reducible refine z0 hl ?_)|(with_reducible refine z0 w0 ?_)|(with_reducible refine z0 w2 ?_))|refine auD ?_|(refine auW ?_ ?_<;>intro h<;>try exact auH)|fail
   all_goals try exact auP
   all_goals first
    |(exfalso;simp_all;done)
    |skip
   all_goals refine auV ?_
   all_goals try exact z8
   all_goals try simp only [hsM] at *
   all_goals rfl
 ·rw [if_neg (by decide)]
  by_cases h4:(rdL data fr to).2=0
  ·obtain ⟨q1,q2,q3⟩:=dI h4
   rw [if_pos h4]
   have w0:=zp data 0 (by omega) (by omega) 0 rfl
   have w2:=zp data 2 (by omega) (by omega) 2 rfl
   generalize z3 data 0=v0 at *
   generalize z3 data 2=v2 at *
   generalize rdL data fr to=r at *
   obtain ⟨⟨g1,g2,g3⟩,ge⟩:=r
   dsimp only at *
   subst h4 q1 q2
   refine z4 {} 0 Tryz.func59 fun Γ hW=>auC ?_
   repeat' first|refine auS ?_|(first|(with_reducible refine z0 hr ?_)|(with_reducible refine z0 ht ?_)|(with_reducible refine z0 hl ?_)|(with_reducible refine z0 w0 ?_)|(with_reducible refine z0 w2 ?_))|refine auD ?_|(refine auW ?_ ?_<;>intro h<;>try exact auH)|fail
   all_goals try exact auP
   all_goals first
    |(exfalso;simp_all;done)
    |skip
   all_goals refine auV ?_
   all_goals try exact z8
   all_goals try simp only [hsM] at *
   all_goals rfl
  ·rw [if_neg h4]
   generalize rdL data fr to=r at *
   obtain ⟨⟨g1,g2,g3⟩,ge⟩:=r
   dsimp only at *
   unfold fl0
   refine z4 {} 0 Tryz.func59 fun Γ hW=>auC ?_
   repeat' first|refine auS ?_|(first|(with_reducible refine z0 hr ?_)|(with_reducible refine z0 ht ?_)|(with_reducible refine z0 hl ?_)|(with_reducible refine z0 w0 ?_)|(with_reducible refine z0 w2 ?_))|refine auD ?_|(refine auW ?_ ?_<;>intro h<;>try exact auH)|fail
   all_goals try exact auP
   all_goals first
    |(exfalso;simp_all;done)
    |skip
   all_goals refine auV ?_
   all_goals try exact z8
   all_goals try simp only [hsM] at *
   all_goals rfl
set_option maxHeartbeats 4000000 in
theorem tN (s:List UInt8) (hs:s.length≤140737488351232):zd Tryz.prog 80 [.v (.string (mkS s))] (dFE (edR s)):=by
 have hr:=sX s hs
 by_cases he:zU s=0
 rotate_left
 ·have e1:rpR s=(pk0,zU s):=by unfold rpR;rw [if_neg he]
  have e2:edR s=(fl0,zU s):=by unfold edR;rw [if_neg he]
  rw [e1] at hr
  rw [e2]
  clear e1 e2
  generalize zU s=e at *
  unfold pk0 at hr
  unfold fl0
  refine z4 {} 0 Tryz.func80 fun Γ hW=>auC ?_
  repeat' first|refine auS ?_|(first|(with_reducible refine z0 hr ?_)|(with_reducible refine z0 ht ?_)|(with_reducible refine z0 hl ?_)|(with_reducible refine z0 w0 ?_)|(with_reducible refine z0 w2 ?_))|refine auD ?_|(refine auW ?_ ?_<;>intro h<;>try exact auH)|fail
  all_goals try exact auP
  all_goals first
   |(exfalso;simp_all;done)
   |skip
  all_goals refine auV ?_
  all_goals try exact z8
  all_goals try simp only [hsM] at *
  all_goals rfl
 have e1:rpR s=(rdP s,0):=by unfold rpR;rw [if_pos he]
 have e2:edR s=edP (rdP s):=by unfold edR;rw [if_pos he]
 have hd:(rdP s).data.length≤140737488351232:=by simp only [rdP,List.length_take,List.length_drop];omega
 have hf:0≤(rdP s).fr∧(rdP s).fr<4294967296:=wt s 12
 have hto:0≤(rdP s).to∧(rdP s).to<4294967296:=wt s 16
 have hst:0≤(rdP s).start:=Int.emod_nonneg _ (by decide)
 rw [e1] at hr
 rw [e2]
 clear e1 e2 he
 generalize rdP s=p at *
 have ht:=aa p.data p.fr p.to hf hto hd
 have hl:=jy p.data p.fr p.to hf hto hd
 obtain ⟨tos,id,wh,mo,start,life,proto,fr,to,opt,data⟩:=p
 dsimp only at *
 by_cases h1:proto=6∨proto=17
 rotate_left
 ·have e3:edP ⟨tos,id,wh,mo,start,life,proto,fr,to,opt,data⟩=(fl0,7):=by unfold edP;rw [if_pos h1]
  rw [e3]
  clear e3
  unfold fl0
  refine z4 {} 0 Tryz.func80 fun Γ hW=>auC ?_
  repeat' first|refine auS ?_|(first|(with_reducible refine z0 hr ?_)|(with_reducible refine z0 ht ?_)|(with_reducible refine z0 hl ?_)|(with_reducible refine z0 w0 ?_)|(with_reducible refine z0 w2 ?_))|refine auD ?_|(refine auW ?_ ?_<;>intro h<;>try exact auH)|fail
  all_goals try exact auP
  all_goals first
   |(exfalso;simp_all;done)
   |skip
  all_goals refine auV ?_
  all_goals try exact z8
  all_goals try simp only [hsM] at *
  all_goals rfl
 by_cases h2:mo=true∨start≠0
 ·have e3:edP ⟨tos,id,wh,mo,start,life,proto,fr,to,opt,data⟩=(fl0,9):=by unfold edP;rw [if_neg (not_not_intro h1),if_pos h2]
  rw [e3]
  clear e3
  unfold fl0
  cases mo with
  |true=>
   clear h2
   rcases h1 with rfl|rfl
   ·skip
    refine z4 {} 0 Tryz.func80 fun Γ hW=>auC ?_
    repeat' first|refine auS ?_|(first|(with_reducible refine z0 hr ?_)|(with_reducible refine z0 ht ?_)|(with_reducible refine z0 hl ?_)|(with_reducible refine z0 w0 ?_)|(with_reducible refine z0 w2 ?_))|refine auD ?_|(refine auW ?_ ?_<;>intro h<;>try exact auH)|fail
    all_goals try exact auP
    all_goals first
     |(exfalso;simp_all;done)
     |skip
    all_goals refine auV ?_
    all_goals try exact z8
    all_goals try simp only [hsM] at *
    all_goals rfl
   ·skip
    refine z4 {} 0 Tryz.func80 fun Γ hW=>auC ?_
    repeat' first|refine auS ?_|(first|(with_reducible refine z0 hr ?_)|(with_reducible refine z0 ht ?_)|(with_reducible refine z0 hl ?_)|(with_reducible refine z0 w0 ?_)|(with_reducible refine z0 w2 ?_))|refine auD ?_|(refine auW ?_ ?_<;>intro h<;>try exact auH)|fail
    all_goals try exact auP
    all_goals first
     |(exfalso;simp_all;done)
     |skip
    all_goals refine auV ?_
    all_goals try exact z8
    all_goals try simp only [hsM] at *
    all_goals rfl
  |false=>
   have h3:start≠0:=h2.resolve_left (by simp)
   clear h2
   rcases h1 with rfl|rfl
   ·skip
    refine z4 {} 0 Tryz.func80 fun Γ hW=>auC ?_
    repeat' first|refine auS ?_|(first|(with_reducible refine z0 hr ?_)|(with_reducible refine z0 ht ?_)|(with_reducible refine z0 hl ?_)|(with_reducible refine z0 w0 ?_)|(with_reducible refine z0 w2 ?_))|refine auD ?_|(refine auW ?_ ?_<;>intro h<;>try exact auH)|fail
    all_goals try exact auP
    all_goals first
     |(exfalso;simp_all;done)
     |skip
    all_goals refine auV ?_
    all_goals try exact z8
    all_goals try simp only [hsM] at *
    all_goals rfl
   ·skip
    refine z4 {} 0 Tryz.func80 fun Γ hW=>auC ?_
    repeat' first|refine auS ?_|(first|(with_reducible refine z0 hr ?_)|(with_reducible refine z0 ht ?_)|(with_reducible refine z0 hl ?_)|(with_reducible refine z0 w0 ?_)|(with_reducible refine z0 w2 ?_))|refine auD ?_|(refine auW ?_ ?_<;>intro h<;>try exact auH)|fail
    all_goals try exact auP
    all_goals first
     |(exfalso;simp_all;done)
     |skip
    all_goals refine auV ?_
    all_goals try exact z8
    all_goals try simp only [hsM] at *
    all_goals rfl
 obtain ⟨rfl,rfl⟩:mo=false∧start=0:=⟨by simpa using fun q=>h2 (.inl q),Decidable.byContradiction fun q=>h2 (.inr q)⟩
 have e3:edP ⟨tos,id,wh,false,0,life,proto,fr,to,opt,data⟩=if proto=6 then (if (rdS data fr to).2=0 then (⟨fr,to,6,z3 data 0,z3 data 2⟩,0) else (fl0,(rdS data fr to).2)) else (if (rdL data fr to).2=0 then (⟨fr,to,17,z3 data 0,z3 data 2⟩,0) else (fl0,(rdL data fr to).2)):=by unfold edP;rw [if_neg (not_not_intro h1),if_neg h2]
 rw [e3]
 clear e3 h2
 rcases h1 with rfl|rfl
 ·rw [if_pos rfl]
  by_cases h4:(rdS data fr to).2=0
  ·obtain ⟨q1,q2,q3⟩:=i_ h4
   rw [if_pos h4]
   have w0:=zp data 0 (by omega) (by omega) 0 rfl
   have w2:=zp data 2 (by omega) (by omega) 2 rfl
   generalize z3 data 0=v0 at *
   generalize z3 data 2=v2 at *
   generalize rdS data fr to=r at *
   obtain ⟨g,ge⟩:=r
   dsimp only at *
   subst h4 q1 q2
   refine z4 {} 0 Tryz.func80 fun Γ hW=>auC ?_
   repeat' first|refine auS ?_|(first|(with_reducible refine z0 hr ?_)|(with_reducible refine z0 ht ?_)|(with_reducible refine z0 hl ?_)|(with_reducible refine z0 w0 ?_)|(with_reducible refine z0 w2 ?_))|refine auD ?_|(refine auW ?_ ?_<;>intro h<;>try exact auH)|fail
   all_goals try exact auP
   all_goals first
    |(exfalso;simp_all;done)
    |skip
   all_goals refine auV ?_
   all_goals try exact z8
   all_goals try simp only [hsM] at *
   all_goals rfl
  ·rw [if_neg h4]
   generalize rdS data fr to=r at *
   obtain ⟨g,ge⟩:=r
   dsimp only at *
   unfold fl0
   refine z4 {} 0 Tryz.func80 fun Γ hW=>auC ?_
   repeat' first|refine auS ?_|(first|(with_reducible refine z0 hr ?_)|(with_reducible refine z0 ht ?_)|(with_reducible refine z0 hl ?_)|(with_reducible refine z0 w0 ?_)|(with_reducible refine z0 w2 ?_))|refine auD ?_|(refine auW ?_ ?_<;>intro h<;>try exact auH)|fail
   all_goals try exact auP
   all_goals first
    |(exfalso;simp_all;done)
    |skip
   all_goals refine auV ?_
   all_goals try exact z8
   all_goals try simp only [hsM] at *
   all_goals rfl
 ·rw [if_neg (by decide)]
  by_cases h4:(rdL data fr to).2=0
  ·obtain ⟨q1,q2,q3⟩:=dI h4
   rw [if_pos h4]
   have w0:=zp data 0 (by omega) (by omega) 0 rfl
   have w2:=zp data 2 (by omega) (by omega) 2 rfl
   generalize z3 data 0=v0 at *
   generalize z3 data 2=v2 at *
   generalize rdL data fr to=r at *
   obtain ⟨⟨g1,g2,g3⟩,ge⟩:=r
   dsimp only at *
   subst h4 q1 q2
   refine z4 {} 0 Tryz.func80 fun Γ hW=>auC ?_
   repeat' first|refine auS ?_|(first|(with_reducible refine z0 hr ?_)|(with_reducible refine z0 ht ?_)|(with_reducible refine z0 hl ?_)|(with_reducible refine z0 w0 ?_)|(with_reducible refine z0 w2 ?_))|refine auD ?_|(refine auW ?_ ?_<;>intro h<;>try exact auH)|fail
   all_goals try exact auP
   all_goals first
    |(exfalso;simp_all;done)
    |skip
   all_goals refine auV ?_
   all_goals try exact z8
   all_goals try simp only [hsM] at *
   all_goals rfl
  ·rw [if_neg h4]
   generalize rdL data fr to=r at *
   obtain ⟨⟨g1,g2,g3⟩,ge⟩:=r
   dsimp only at *
   unfold fl0
   refine z4 {} 0 Tryz.func80 fun Γ hW=>auC ?_
   repeat' first|refine auS ?_|(first|(with_reducible refine z0 hr ?_)|(with_reducible refine z0 ht ?_)|(with_reducible refine z0 hl ?_)|(with_reducible refine z0 w0 ?_)|(with_reducible refine z0 w2 ?_))|refine auD ?_|(refine auW ?_ ?_<;>intro h<;>try exact auH)|fail
   all_goals try exact auP
   all_goals first
    |(exfalso;simp_all;done)
    |skip
   all_goals refine auV ?_
   all_goals try exact z8
   all_goals try simp only [hsM] at *
   all_goals rfl
end Go.Proofs.YtmibknbmhcnemaaGreatDoor
