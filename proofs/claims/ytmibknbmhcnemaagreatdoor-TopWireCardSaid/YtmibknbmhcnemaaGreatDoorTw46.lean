import Derived.Test.YtmibknbmhcnemaaGreatDoorTw40
import Derived.Test.YtmibknbmhcnemaaGreatDoorTw45
set_option linter.unusedVariables false
set_option linter.unusedSimpArgs false
namespace Go.Proofs.YtmibknbmhcnemaaGreatDoor
attribute [local irreducible] zu Go
set_option maxRecDepth 100000
def mcB (m:E.Mc):List UInt8:=[u8 m.a,u8 m.b,u8 m.c,u8 m.d,u8 m.e,u8 m.f]
abbrev dFr (a b:E.Mc) (v t:Int) (d:List UInt8):DV:=.agg [.v (.int .u8 a.a),.v (.int .u8 a.b),.v (.int .u8 a.c),.v (.int .u8 a.d),.v (.int .u8 a.e),.v (.int .u8 a.f),.v (.int .u8 b.a),.v (.int .u8 b.b),.v (.int .u8 b.c),.v (.int .u8 b.d),.v (.int .u8 b.e),.v (.int .u8 b.f),.v (.int .i64 v),.v (.int .i64 t),.v (.string (mkS d))]
structure nP (m:E.Mc):Prop where
 a:0≤m.a∧m.a<256
 b:0≤m.b∧m.b<256
 c:0≤m.c∧m.c<256
 d:0≤m.d∧m.d<256
 e:0≤m.e∧m.e<256
 f:0≤m.f∧m.f<256
theorem o6 {a:Int} (h:0≤a∧a<256):UInt8.ofNat a.toNat=u8 a:=by
 unfold u8
 rw [Int.emod_eq_of_lt h.1 h.2]
theorem cQ {m:E.Mc} (h:nP m):vg [[.v (.int .u8 m.a)],[.v (.int .u8 m.b)],[.v (.int .u8 m.c)],[.v (.int .u8 m.d)],[.v (.int .u8 m.e)],[.v (.int .u8 m.f)]]=mkS (mcB m):=by
 have e:vg [[.v (.int .u8 m.a)],[.v (.int .u8 m.b)],[.v (.int .u8 m.c)],[.v (.int .u8 m.d)],[.v (.int .u8 m.e)],[.v (.int .u8 m.f)]]=mkS [UInt8.ofNat m.a.toNat,UInt8.ofNat m.b.toNat,UInt8.ofNat m.c.toNat,UInt8.ofNat m.d.toNat,UInt8.ofNat m.e.toNat,UInt8.ofNat m.f.toNat]:=rfl
 rw [e,o6 h.a,o6 h.b,o6 h.c,o6 h.d,o6 h.e,o6 h.f]
 rfl
theorem kg (n:Int):zc Tryz.prog 21 [.v (.int .i64 n)] (.v (.string (mkS (wd n)))):=by
 have h1:n.fdiv (2 ^ 8)=n / 256:=Int.fdiv_eq_ediv_of_nonneg _ (by decide)
 have hs:vg [[.v (.int .u8 (IntKind.u8.wrap (n / 256)))],[.v (.int .u8 (IntKind.u8.wrap n))]]=mkS (wd n):=by rw [lG,xD,xD];rfl
 refine z3 {} 0 Tryz.func21 fun Γ hW=>auC ?_
 repeat' first|refine auS ?_|(simp only [dD,h1,hs])|refine auD ?_|(refine auW ?_ ?_<;>intro h<;>try exact auH)|fail
 all_goals try exact auP
 all_goals refine auV ?_
 all_goals try exact z9
 all_goals try simp only [hsM] at *
def frW (a b:E.Mc) (d:List UInt8):List UInt8:=mcB a++mcB b++wd 2048++d
set_option maxHeartbeats 2000000 in
theorem ko (a b:E.Mc) (ha:nP a) (hb:nP b) (d:List UInt8) (hd:d.length≤140737488351232):zc Tryz.prog 6 [dFr a b (-1) 2048 d] (.tup [.v (.string (mkS (if 65535<d.length then [] else frW a b d))),.v (.int .i64 (if 65535<d.length then 2 else 0))]):=by
 have h1:=cQ ha
 have h2:=cQ hb
 have h3:=kg 2048
 by_cases hl:65535<d.length
 ·rw [if_pos hl,if_pos hl]
  refine z3 {} 0 Tryz.func6 fun Γ hW=>auC ?_
  repeat' first|refine auS ?_|(simp only [z5])|refine auD ?_|(refine auW ?_ ?_<;>intro h<;>try exact auH)|fail
  all_goals try exact auP
  all_goals try (exfalso;simp_all;done)
  all_goals refine auV ?_
  all_goals try exact z9
  all_goals try simp only [hsM] at *
  all_goals rfl
 ·rw [if_neg hl,if_neg hl]
  refine z3 {} 0 Tryz.func6 fun Γ hW=>auC ?_
  repeat' first|((with_reducible refine atR ⟨.d0,.d0,.d6⟩ ?_);(refine zV (zQ hW ⟨.d0,.d0,.d1⟩ rfl rfl ⟨rfl,rfl,Nat.succ_pos _⟩) ?_))|refine auS ?_|(first|(simp only [z5,zn,h1,h2])|(with_reducible refine z0 h3 ?_))|refine auD ?_|(refine auW ?_ ?_<;>intro h<;>try exact auH)|(refine z_ (by simp only [z5,zn,List.length_append,yq,mcB,List.length_cons,List.length_nil];omega) ?_)
  all_goals try exact auP
  all_goals try (exfalso;simp_all;done)
  all_goals refine auV ?_
  all_goals try exact z9
  all_goals try simp only [hsM] at *
  all_goals rfl
end Go.Proofs.YtmibknbmhcnemaaGreatDoor
namespace Go.Proofs.YtmibknbmhcnemaaGreatDoor
attribute [local irreducible] zu Go
set_option maxRecDepth 100000
open E (Mc Sn dB xF vM ym frE frD wI xK ye uQ pq sK nY)
theorem tI {a:Int} (h:0≤a∧a<256):((u8 a).toNat:Int)=a:=by
 rw [←o6 h,UInt8.toNat_ofNat']
 omega
theorem fb (a b:Mc) (d:List UInt8):(frW a b d).length=14+d.length:=by
 simp only [frW,mcB,List.length_append,yq,List.length_cons,List.length_nil]
theorem iU (a b:Mc) (d:List UInt8):frW a b d=u8 a.a::u8 a.b::u8 a.c::u8 a.d::u8 a.e::u8 a.f::u8 b.a::u8 b.b::u8 b.c::u8 b.d::u8 b.e::u8 b.f::8::0::d:=rfl
theorem bf {x:Mc} {a b c d e f:Int} (h1:a=x.a) (h2:b=x.b) (h3:c=x.c) (h4:d=x.d) (h5:e=x.e) (h6:f=x.f):(⟨a,b,c,d,e,f⟩:Mc)=x:=by subst h1 h2 h3 h4 h5 h6;rfl
theorem aQ {a:Mc} (b:Mc) (ha:nP a) (d:List UInt8):ym (frW a b d) 0=a:=by
 unfold ym
 rw [iU]
 obtain ⟨h1,h2,h3,h4,h5,h6⟩:=ha
 exact bf (tI h1) (tI h2) (tI h3) (tI h4) (tI h5) (tI h6)
theorem nk {b:Mc} (a:Mc) (hb:nP b) (d:List UInt8):ym (frW a b d) 6=b:=by
 unfold ym
 rw [iU]
 obtain ⟨h1,h2,h3,h4,h5,h6⟩:=hb
 exact bf (tI h1) (tI h2) (tI h3) (tI h4) (tI h5) (tI h6)
theorem ab (a b:Mc) (d:List UInt8):wI (frW a b d) 12=2048:=by
 unfold wI
 rw [iU]
 rfl
theorem bA {a b:Mc} {d:List UInt8} (h:¬65535<d.length):frE (frW a b d)=0:=by
 unfold frE
 rw [fb,ab,if_neg (by omega),if_neg (by decide),if_neg (by omega)]
theorem XB {a b:Mc} (ha:nP a) (hb:nP b) {d:List UInt8} (h:¬65535<d.length):frD (frW a b d)=dFr a b (-1) 2048 d:=by
 unfold frD
 rw [if_pos (bA h),ab,if_neg (by decide),aQ b ha,nk a hb]
 rfl
theorem qm {f:FuncId} {ds:List DV} {D:DV} (h:zc Tryz.prog f (dB 2 9 [] false::ds) D):zc Tryz.prog f (.agg [.v (.int .i64 2),.v (.int .i64 9),.v (.slice none 0 0)]::ds) D:=
 rj h (fun K w vs hv=>wu (d:=.agg [.v (.int .i64 2),.v (.int .i64 9),.v (.slice none 0 0)]) (fun v hv=>gZ hv _ ⟨.inl rfl,.inl rfl,.inr ⟨rfl,8,rfl⟩,rfl⟩) hv)
theorem Xk {f:List UInt8}:xF 2 9 0 5 [] f=if frE f≠0 then frE f else if (ym f 6).many then 4 else 0:=by
 unfold xF
 rw [if_neg (by decide +kernel),if_neg (by decide),if_neg (by decide)]
theorem YD (m:Mc):ye 9 ⟨m,0,5⟩ []=[⟨m,0,5⟩]:=rfl
theorem gj (m:Mc) (hm:nP m) (h:m.many=false):zc Tryz.prog 11 [dB 2 9 [⟨m,0,5⟩] false,.agg m.enc,.v (.int .i64 14)] (.tup [.v (.int .i64 0),.v (.int .i64 0)]):=by
 have h1:=E.wg 2 9 [⟨m,0,5⟩] false (fun s hs=>by cases List.mem_singleton.1 hs;exact hm.a)
 have h3:=E.mB 2 9 14 m [⟨m,0,5⟩] false (by simp) (fun s hs=>by cases List.mem_singleton.1 hs;exact ⟨(by decide:(0:Int)≤5),(by decide:(5:Int)≤1099511627776)⟩) (by decide)
 have e1:vM 2 9 [⟨m,0,5⟩]=0:=by
  unfold vM
  rw [if_neg (by omega),if_neg (by simp)]
  unfold yc E.okB
  simp [h,yc]
 have e2:[(⟨m,0,5⟩:Sn)].find? (xK 9 14 m)=some ⟨m,0,5⟩:=by simp [xK]
 rw [e1] at h1
 rw [e2] at h3
 dsimp only [Option.elim,Option.isSome] at h3
 refine z3 {} 0 Tryz.func11 fun Γ hW=>auC ?_
 repeat' first|refine auS ?_|(first|(with_reducible refine z0 h1 ?_)|(with_reducible refine z0 h3 ?_))|refine auD ?_|(refine auW ?_ ?_<;>intro h<;>try exact auH)|fail
 all_goals try exact auP
 all_goals refine auV ?_
 all_goals try exact z9
 all_goals try simp only [hsM] at *
 all_goals rfl
set_option maxHeartbeats 1000000 in
theorem fN (l:List Int) (c c':Bool) (hl:l.length≤maxLen):zc Tryz.prog 12 [.snap 1 (l.map nY) c,.snap 1 (l.map nY) c'] (.v (.bool true)):=by
 unfold maxLen at hl
 refine z3 {} 0 Tryz.func12 fun Γ hW=>auC ?_
 repeat' first|refine auS ?_|fail|refine auD ?_|(refine auW ?_ ?_<;>intro h<;>try exact auH)|fail
 refine zx (α:=Nat) (fun k=>[(⟨.d0,.d1,.d5⟩,.v (.int .i64 (k:Nat)))]) (fun _=>[]) (fun _=>Γ.g0) (fun k=>l.length-k) (fun k=>k≤l.length) 0 (Nat.zero_le _) ?_ ?_
 ·skip
  refine zp ?_ ?_ (Nat.le_refl _)
  all_goals first|refine auE ?_|exact zJ
  all_goals repeat' first|exact trivial|exact rfl|apply And.intro
 ·rintro k hk
  refine auL ?_
  by_cases hlt:k<l.length
  ·obtain ⟨t,ht⟩:∃t,l[k]?=some t:=⟨_,List.getElem?_eq_getElem hlt⟩
   have ex:=yn nY l k t ht
   repeat' first|refine auS ?_|fail|refine auD ?_|(refine auW ?_ ?_<;>intro h<;>try exact auH)|(simp only [Int.toNat_natCast,ex])
   all_goals try exact auP
   all_goals first
    |(exfalso;simp at h;done)
    |(refine zo ⟨k+1,Nat.succ_le_of_lt hlt,Nat.sub_lt_sub_left hlt (Nat.lt_succ_self k),?_⟩
      (refine zp ?_ ?_ (Nat.le_refl _));(all_goals first|refine auE ?_|exact zJ);(all_goals (repeat' (first|exact trivial|exact rfl|apply And.intro)))
      all_goals exact zL ((IntWalk.i64_in _ (by omega)).trans (by omega)))
  ·skip
   repeat' first|refine auS ?_|fail|refine auD ?_|(refine auW ?_ ?_<;>intro h<;>try exact auH)|fail
   all_goals try exact auP
   all_goals refine auV ?_
   all_goals try exact z9
   all_goals try simp only [hsM] at *
theorem YK (k n:Nat):zz Tryz.prog 12 [.snap 1 [[.v (.int .i64 1)]] false,.sl k n 1 0 1 true] [some ⟨n,1,[[.v (.int .i64 1)]]⟩] (fun d H=>d=.v (.bool true)∧H=[some ⟨n,1,[[.v (.int .i64 1)]]⟩]):=
 nL rfl (fun Γ K w vs hI ha=>⟨by simpa using ha.1,fun i x v hx hv=>by
  match i,hx with
  |0,hx=>exact (ha.2 0 x v hx hv).mono (uN K _ w)
  |1,hx=>
   obtain rfl:=Option.some.inj hx
   exact jw (i0:=0) hI rfl (by decide) rfl rfl (fun i x y hx hy=>by
    obtain rfl:x=y:=Option.some.inj (hx.symm.trans hy)
    refine ⟨?_,fun j e he=>⟨e,he,fun v hv=>hv.mono (uN K _ w)⟩⟩
    cases List.mem_singleton.1 (List.mem_of_getElem? hx)
    rfl) (ha.2 1 _ v rfl hv)⟩) (fN [1] false false (by decide))
end Go.Proofs.YtmibknbmhcnemaaGreatDoor
