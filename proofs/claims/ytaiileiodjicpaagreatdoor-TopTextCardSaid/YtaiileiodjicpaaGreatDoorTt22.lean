import Derived.Test.YtaiileiodjicpaaGreatDoorTt20
set_option linter.unusedVariables false
set_option linter.unusedSimpArgs false
namespace Go.Proofs.YtaiileiodjicpaaGreatDoor
attribute [local irreducible] zF Go
set_option maxRecDepth 100000
theorem cg (j:Nat) (hj:j≤62) (p:Int):bits .and .i64 p ((2 ^ j-1:Nat):Int)=p % ((2 ^ j:Nat):Int):=by
 have hp:2 ^ j≤2 ^ 62:=Nat.pow_le_pow_right (by decide) hj
 have hpos:0<2 ^ j:=Nat.two_pow_pos j
 show IntKind.i64.wrap ((BitVec.ofInt 64 p &&& BitVec.ofInt 64 ((2 ^ j-1:Nat):Int)).toNat:Int)=_
 rw [BitVec.ofInt_natCast,BitVec.toNat_and,BitVec.toNat_ofNat,Nat.mod_eq_of_lt (by omega:2 ^ j-1<2 ^ 64),Nat.and_two_pow_sub_one_eq_mod,BitVec.toNat_ofInt]
 have h2:((p % ((2 ^ 64:Nat):Int)).toNat:Int)=p % ((2 ^ 64:Nat):Int):=Int.toNat_of_nonneg (Int.emod_nonneg _ (by decide))
 have h3:(p % ((2 ^ 64:Nat):Int)) % ((2 ^ j:Nat):Int)=p % ((2 ^ j:Nat):Int):=by
  refine Int.emod_emod_of_dvd p ?_
  exact Int.natCast_dvd_natCast.2 (Nat.pow_dvd_pow 2 (by omega))
 have h4:0≤p % ((2 ^ j:Nat):Int):=Int.emod_nonneg _ (by omega)
 have h5:p % ((2 ^ j:Nat):Int)<((2 ^ j:Nat):Int):=Int.emod_lt_of_pos _ (by omega)
 rw [Int.natCast_emod,h2,h3,IntWalk.i64_in _ (by omega)]
theorem jP (p:Int):bits .and .i64 p 1=p % 2:=cg 1 (by decide) p
theorem vJ (p:Int):bits .and .i64 p 8191=p % 8192:=cg 13 (by decide) p
theorem dV (a b:Int):td [[.v (.int .u8 (IntKind.u8.wrap a))],[.v (.int .u8 (IntKind.u8.wrap b))]]=mkS [u8 a,u8 b]:=by rw [fx,vk,vk]
theorem UH (a b c d:Int):td [[.v (.int .u8 (IntKind.u8.wrap a))],[.v (.int .u8 (IntKind.u8.wrap b))],[.v (.int .u8 (IntKind.u8.wrap c))],[.v (.int .u8 (IntKind.u8.wrap d))]]=mkS [u8 a,u8 b,u8 c,u8 d]:=by rw [VI,vk,vk,vk,vk]
theorem wx (n:Int):zi Tryz.prog 65 [.v (.int .i64 n)] (.v (.string (mkS (wd n)))):=by
 have h1:n.fdiv (2 ^ 8)=n / 256:=Int.fdiv_eq_ediv_of_nonneg _ (by decide)
 have hs:td [[.v (.int .u8 (IntKind.u8.wrap (n / 256)))],[.v (.int .u8 (IntKind.u8.wrap n))]]=mkS (wd n):=by rw [fx,vk,vk];rfl
 refine z7 {} 0 Tryz.func65 fun Γ hW=>auC ?_
 repeat' first|refine auS ?_|(simp only [Xd,h1,hs])|refine auD ?_|(refine auW ?_ ?_<;>intro h<;>try exact auH)|fail
 all_goals try exact auP
 all_goals refine auV ?_
 all_goals try exact zc
 all_goals try simp only [hsM] at *
theorem Un (a:Int):[u8 (a / 16777216),u8 (a / 65536),u8 (a / 256),u8 a]=lg a:=by
 unfold lg wd
 rw [UO (show a / 16777216 % 256=a / 65536 / 256 % 256 by omega)]
 rfl
theorem o9 (a:Int) (h0:0≤a) (h1:a<4294967296):zi Tryz.prog 66 [.v (.int .u32 a)] (.v (.string (mkS (lg a)))):=by
 have m1:min 24 IntKind.u32.bits=24:=rfl
 have m2:min 16 IntKind.u32.bits=16:=rfl
 have m3:min 8 IntKind.u32.bits=8:=rfl
 have e1:a.fdiv (2 ^ 24)=a / 16777216:=Int.fdiv_eq_ediv_of_nonneg _ (by decide)
 have e2:a.fdiv (2 ^ 16)=a / 65536:=Int.fdiv_eq_ediv_of_nonneg _ (by decide)
 have e3:a.fdiv (2 ^ 8)=a / 256:=Int.fdiv_eq_ediv_of_nonneg _ (by decide)
 refine z7 {} 0 Tryz.func66 fun Γ hW=>auC ?_
 repeat' first|refine auS ?_|(simp only [m1,m2,m3,e1,e2,e3,UH,Un])|refine auD ?_|(refine auW ?_ ?_<;>intro h<;>try exact auH)|fail
 all_goals try exact auP
 all_goals refine auV ?_
 all_goals try exact zc
 all_goals try simp only [hsM] at *
theorem yE (l:List UInt8) (i:Nat) (hi:i+1<l.length) (hl:l.length≤9223372036854775806) (ii:Int) (hii:ii=(i:Nat)):zi Tryz.prog 102 [.v (.string (mkS l)),.v (.int .i64 ii)] (.v (.int .i64 (z8 l i))):=by
 subst hii
 have hb:=w_ l i
 have hb2:=w_ l (i+1)
 have e1:IntKind.i64.wrap (bN l i:Nat)=(bN l i:Nat):=IntWalk.i64_in _ (by omega)
 have e2:IntKind.i64.wrap (bN l (i+1):Nat)=(bN l (i+1):Nat):=IntWalk.i64_in _ (by omega)
 have e3:IntKind.i64.wrap ((i:Int)+1)=((i+1:Nat):Int):=by rw [IntWalk.i64_in _ (by omega)];omega
 have e5:bits .or .i64 (IntKind.i64.wrap ((bN l i:Nat)*2 ^ 8)) (bN l (i+1):Nat)=z8 l i:=mq _ _ (by omega) (by omega) (by omega) (by omega)
 refine z7 {} 0 Tryz.func102 fun Γ hW=>auC ?_
 repeat' first|refine auS ?_|(simp only [za,zW,Xd,e1,e2,e3,e5,Int.toNat_natCast])|refine auD ?_|(refine auW ?_ ?_<;>intro h<;>try exact auH)|fail
 all_goals try exact auP
 all_goals refine auV ?_
 all_goals try exact zc
 all_goals try simp only [hsM] at *
theorem rJ (l:List UInt8) (i:Nat) (hi:i+3<l.length) (hl:l.length≤9223372036854775800) (ii:Int) (hii:ii=(i:Nat)):zi Tryz.prog 132 [.v (.string (mkS l)),.v (.int .i64 ii)] (.v (.int .u32 (uT l i))):=by
 subst hii
 have h1:=yE l i (by omega) (by omega) i rfl
 have h2:=yE l (i+2) (by omega) (by omega) ((i:Int)+2) (by omega)
 have b1:=zD l i
 have b2:=zD l (i+2)
 have m2:min 16 IntKind.u32.bits=16:=rfl
 have e0:IntKind.i64.wrap ((i:Int)+2)=(i:Int)+2:=IntWalk.i64_in _ (by omega)
 have e1:IntKind.u32.wrap (z8 l i)=z8 l i:=IntWalk.u32_in _ (by omega)
 have e2:IntKind.u32.wrap (z8 l (i+2))=z8 l (i+2):=IntWalk.u32_in _ (by omega)
 have e3:bits .or .u32 (IntKind.u32.wrap (z8 l i*2 ^ 16)) (z8 l (i+2))=uT l i:=by
  rw [IntWalk.u32_in _ (by omega),qg 16 _ _ (by omega) (by omega) (by omega) (by omega) (by omega) (by omega)]
  unfold uT;omega
 refine z7 {} 0 Tryz.func132 fun Γ hW=>auC ?_
 repeat' first|refine auS ?_|(first|(simp only [m2,e0,e1,e2,e3])|(with_reducible refine z6 h1 ?_)|(with_reducible refine z6 h2 ?_))|refine auD ?_|(refine auW ?_ ?_<;>intro h<;>try exact auH)|fail
 all_goals try exact auP
 all_goals refine auV ?_
 all_goals try exact zc
 all_goals try simp only [hsM] at *
theorem x_ (n:Int):zi Tryz.prog 91 [.v (.int .i64 n)] (.v (.bool (decide (0≤n∧n≤255)))):=by
 refine z7 {} 0 Tryz.func91 fun Γ hW=>auC ?_
 repeat' first|refine auS ?_|fail|refine auD ?_|(refine auW ?_ ?_<;>intro h<;>try exact auH)|fail
 all_goals try exact auP
 all_goals refine auV ?_
 all_goals try exact zc
 all_goals try simp only [hsM] at *
 all_goals (refine xP ?_;first|(simp_all;done)|(simp_all;omega))
structure Pk where
 (tos id:Int) (wh mo:Bool) (start life proto fr to:Int) (opt data:List UInt8)
abbrev Pk.enc (p:Pk):List DV:=[.v (.int .i64 p.tos),.v (.int .i64 p.id),.v (.bool p.wh),.v (.bool p.mo),.v (.int .i64 p.start),.v (.int .i64 p.life),.v (.int .i64 p.proto),.v (.int .u32 p.fr),.v (.int .u32 p.to),.v (.string (mkS p.opt)),.v (.string (mkS p.data))]
abbrev dP (p:Pk):DV:=.agg p.enc
def Pk.arg (p:Pk):Prop:=(0≤p.tos∧p.tos≤255)∧(0≤p.life∧p.life≤255)∧(0≤p.proto∧p.proto≤255)∧(0≤p.id∧p.id≤65535)∧(0≤p.start∧p.start≤8191)∧p.opt.length≤40∧p.opt.length % 4=0
instance (p:Pk):Decidable p.arg:=by unfold Pk.arg;infer_instance
def Pk.form (p:Pk):Prop:=p.wh=true→p.mo=false∧p.start=0
instance (p:Pk):Decidable p.form:=by unfold Pk.form;infer_instance
def nM (p:Pk):Int:=if ¬p.arg then 1 else if ¬p.form then 4 else if 65515<p.data.length+p.opt.length then 2 else 0
theorem tn (n:Nat):((n:Nat):Int).tmod 4=((n % 4:Nat):Int):=(Int.ofNat_tmod n 4).symm
set_option maxHeartbeats 4000000 in
theorem pd (p:Pk) (ho:p.opt.length≤140737488351232) (hd:p.data.length≤140737488351232):zi Tryz.prog 64 [dP p] (.v (.int .i64 (nM p))):=by
 have e1:IntKind.i64.wrap (65515-(p.opt.length:Nat))=65515-(p.opt.length:Nat):=IntWalk.i64_in _ (by omega)
 obtain ⟨tos,id,wh,mo,start,life,proto,fr,to,opt,data⟩:=p
 unfold nM Pk.arg Pk.form
 dsimp only at ho hd e1 ⊢
 by_cases h1:0≤tos∧tos≤255
 rotate_left 1
 ·rw [if_pos (fun q=>h1 q.1)]
  refine z7 {} 0 Tryz.func64 fun Γ hW=>auC ?_
  repeat' first|refine auS ?_|(first|(simp only [za,tn,e1])|(with_reducible refine z6 (x_ _) ?_))|refine auD ?_|(refine auW ?_ ?_<;>intro h<;>try exact auH)|fail
  all_goals try exact auP
  all_goals refine auV ?_
  all_goals try exact zc
  all_goals try simp only [hsM] at *
 by_cases h2:0≤life∧life≤255
 rotate_left 1
 ·rw [if_pos (fun q=>h2 q.2.1)]
  refine z7 {} 0 Tryz.func64 fun Γ hW=>auC ?_
  repeat' first|refine auS ?_|(first|(simp only [za,tn,e1])|(with_reducible refine z6 (x_ _) ?_))|refine auD ?_|(refine auW ?_ ?_<;>intro h<;>try exact auH)|fail
  all_goals try exact auP
  all_goals refine auV ?_
  all_goals try exact zc
  all_goals try simp only [hsM] at *
 by_cases h3:0≤proto∧proto≤255
 rotate_left 1
 ·rw [if_pos (fun q=>h3 q.2.2.1)]
  refine z7 {} 0 Tryz.func64 fun Γ hW=>auC ?_
  repeat' first|refine auS ?_|(first|(simp only [za,tn,e1])|(with_reducible refine z6 (x_ _) ?_))|refine auD ?_|(refine auW ?_ ?_<;>intro h<;>try exact auH)|fail
  all_goals try exact auP
  all_goals refine auV ?_
  all_goals try exact zc
  all_goals try simp only [hsM] at *
 by_cases h4:0≤id∧id≤65535
 rotate_left 1
 ·rw [if_pos (fun q=>h4 q.2.2.2.1)]
  refine z7 {} 0 Tryz.func64 fun Γ hW=>auC ?_
  repeat' first|refine auS ?_|(first|(simp only [za,tn,e1])|(with_reducible refine z6 (x_ _) ?_))|refine auD ?_|(refine auW ?_ ?_<;>intro h<;>try exact auH)|fail
  all_goals try exact auP
  all_goals refine auV ?_
  all_goals try exact zc
  all_goals try simp only [hsM] at *
 by_cases h5:0≤start∧start≤8191
 rotate_left 1
 ·rw [if_pos (fun q=>h5 q.2.2.2.2.1)]
  refine z7 {} 0 Tryz.func64 fun Γ hW=>auC ?_
  repeat' first|refine auS ?_|(first|(simp only [za,tn,e1])|(with_reducible refine z6 (x_ _) ?_))|refine auD ?_|(refine auW ?_ ?_<;>intro h<;>try exact auH)|fail
  all_goals try exact auP
  all_goals refine auV ?_
  all_goals try exact zc
  all_goals try simp only [hsM] at *
 by_cases h6:opt.length≤40
 rotate_left 1
 ·rw [if_pos (fun q=>h6 q.2.2.2.2.2.1)]
  refine z7 {} 0 Tryz.func64 fun Γ hW=>auC ?_
  repeat' first|refine auS ?_|(first|(simp only [za,tn,e1])|(with_reducible refine z6 (x_ _) ?_))|refine auD ?_|(refine auW ?_ ?_<;>intro h<;>try exact auH)|fail
  all_goals try exact auP
  all_goals refine auV ?_
  all_goals try exact zc
  all_goals try simp only [hsM] at *
 by_cases h7:opt.length % 4=0
 rotate_left 1
 ·rw [if_pos (fun q=>h7 q.2.2.2.2.2.2)]
  refine z7 {} 0 Tryz.func64 fun Γ hW=>auC ?_
  repeat' first|refine auS ?_|(first|(simp only [za,tn,e1])|(with_reducible refine z6 (x_ _) ?_))|refine auD ?_|(refine auW ?_ ?_<;>intro h<;>try exact auH)|fail
  all_goals try exact auP
  all_goals refine auV ?_
  all_goals try exact zc
  all_goals try simp only [hsM] at *
 rw [if_neg (not_not_intro ⟨h1,h2,h3,h4,h5,h6,h7⟩)]
 cases wh with
 |true=>
  cases mo with
  |true=>
   rw [if_pos (by simp)]
   refine z7 {} 0 Tryz.func64 fun Γ hW=>auC ?_
   repeat' first|refine auS ?_|(first|(simp only [za,tn,e1])|(with_reducible refine z6 (x_ _) ?_))|refine auD ?_|(refine auW ?_ ?_<;>intro h<;>try exact auH)|fail
   all_goals try exact auP
   all_goals refine auV ?_
   all_goals try exact zc
   all_goals try simp only [hsM] at *
  |false=>
   by_cases h8:start=0
   ·rw [if_neg (by simp [h8])]
    by_cases h9:65515<data.length+opt.length
    ·rw [if_pos h9]
     refine z7 {} 0 Tryz.func64 fun Γ hW=>auC ?_
     repeat' first|refine auS ?_|(first|(simp only [za,tn,e1])|(with_reducible refine z6 (x_ _) ?_))|refine auD ?_|(refine auW ?_ ?_<;>intro h<;>try exact auH)|fail
     all_goals try exact auP
     all_goals refine auV ?_
     all_goals try exact zc
     all_goals try simp only [hsM] at *
    ·rw [if_neg h9]
     refine z7 {} 0 Tryz.func64 fun Γ hW=>auC ?_
     repeat' first|refine auS ?_|(first|(simp only [za,tn,e1])|(with_reducible refine z6 (x_ _) ?_))|refine auD ?_|(refine auW ?_ ?_<;>intro h<;>try exact auH)|fail
     all_goals try exact auP
     all_goals refine auV ?_
     all_goals try exact zc
     all_goals try simp only [hsM] at *
   ·rw [if_pos (by simp [h8])]
    refine z7 {} 0 Tryz.func64 fun Γ hW=>auC ?_
    repeat' first|refine auS ?_|(first|(simp only [za,tn,e1])|(with_reducible refine z6 (x_ _) ?_))|refine auD ?_|(refine auW ?_ ?_<;>intro h<;>try exact auH)|fail
    all_goals try exact auP
    all_goals refine auV ?_
    all_goals try exact zc
    all_goals try simp only [hsM] at *
 |false=>
  rw [if_neg (by simp)]
  by_cases h9:65515<data.length+opt.length
  ·rw [if_pos h9]
   refine z7 {} 0 Tryz.func64 fun Γ hW=>auC ?_
   repeat' first|refine auS ?_|(first|(simp only [za,tn,e1])|(with_reducible refine z6 (x_ _) ?_))|refine auD ?_|(refine auW ?_ ?_<;>intro h<;>try exact auH)|fail
   all_goals try exact auP
   all_goals refine auV ?_
   all_goals try exact zc
   all_goals try simp only [hsM] at *
  ·rw [if_neg h9]
   refine z7 {} 0 Tryz.func64 fun Γ hW=>auC ?_
   repeat' first|refine auS ?_|(first|(simp only [za,tn,e1])|(with_reducible refine z6 (x_ _) ?_))|refine auD ?_|(refine auW ?_ ?_<;>intro h<;>try exact auH)|fail
   all_goals try exact auP
   all_goals refine auV ?_
   all_goals try exact zc
   all_goals try simp only [hsM] at *
end Go.Proofs.YtaiileiodjicpaaGreatDoor
namespace Go.Proofs.YtaiileiodjicpaaGreatDoor
attribute [local irreducible] zF Go
set_option maxRecDepth 100000
abbrev dSI (r:List UInt8×Int):DV:=.tup [.v (.string (mkS r.1)),.v (.int .i64 r.2)]
def fl (p:Pk):Int:=(if p.wh then 16384 else p.start)+(if p.mo then 8192 else 0)
def hdA (p:Pk) (F:Int):List UInt8:=[u8 (64+(20+(p.opt.length:Int)) / 4),u8 p.tos]++wd (20+(p.opt.length:Int)+(p.data.length:Int))++wd p.id++wd F++[u8 p.life,u8 p.proto]
def hdB (p:Pk):List UInt8:=lg p.fr++lg p.to++p.opt
theorem nk (p:Pk) (F:Int):(hdA p F).length=10:=rfl
theorem oV (p:Pk):(hdB p).length=8+p.opt.length:=by unfold hdB;simp [xq];omega
def Vc (p:Pk) (F:Int):List UInt8:=hdA p F++wd (65535-yw (x8 (hdA p F++hdB p)))++hdB p++p.data
def pW (p:Pk):List UInt8×Int:=if nM p=0 then (Vc p (fl p),0) else ([],nM p)
theorem XE {p:Pk} (h:nM p=0):p.arg∧p.form∧p.data.length+p.opt.length≤65515:=by
 unfold nM at h
 split at h
 ·cases h
 ·rename_i h1
  split at h
  ·cases h
  ·rename_i h2
   split at h
   ·cases h
   ·rename_i h3
    exact ⟨Decidable.not_not.1 h1,Decidable.not_not.1 h2,by omega⟩
set_option maxHeartbeats 4000000 in
theorem i7 (p:Pk) (ho:p.opt.length≤140737488351232) (hd:p.data.length≤140737488351232) (hfr:0≤p.fr∧p.fr<4294967296) (hto:0≤p.to∧p.to<4294967296):zi Tryz.prog 39 [dP p] (dSI (pW p)):=by
 have hr:=pd p ho hd
 by_cases he:nM p=0
 ·obtain ⟨⟨-,-,-,-,hst,ho40,ho4⟩,hform,hsz⟩:=XE he
  unfold pW
  rw [if_pos he]
  rw [he] at hr
  have e1:IntKind.i64.wrap (20+(p.opt.length:Nat))=20+(p.opt.length:Int):=IntWalk.i64_in _ (by omega)
  have e2:bits .or .i64 64 (IntKind.i64.wrap ((20+(p.opt.length:Int)).tdiv 4))=64+(20+(p.opt.length:Int)) / 4:=by
   rw [Int.tdiv_eq_ediv_of_nonneg (by omega),IntWalk.i64_in _ (by omega)]
   exact qf 6 64 _ (by decide) (by decide) (by decide) (by omega) (by omega) (by omega)
  have e3:IntKind.i64.wrap (20+(p.opt.length:Int)+(p.data.length:Nat))=20+(p.opt.length:Int)+(p.data.length:Int):=IntWalk.i64_in _ (by omega)
  have hl1:=o9 p.fr hfr.1 hfr.2
  have hl2:=o9 p.to hto.1 hto.2
  have key:∀F:Int,zi Tryz.prog 62 [.v (.string (mkS (hdA p F++hdB p)))] (.v (.int .u16 (65535-yw (x8 (hdA p F++hdB p))))):=fun F=>dW _ (by unfold hdA hdB;simp only [List.length_append,List.length_cons,List.length_nil,xq,yP];omega)
  have hb:∀F:Int,IntKind.i64.wrap (65535-yw (x8 (hdA p F++hdB p)))=65535-yw (x8 (hdA p F++hdB p)):=fun F=>by
   have:=uf (x8 (hdA p F++hdB p)) (ri _).1
   exact IntWalk.i64_in _ (by omega)
  obtain ⟨tos,id,wh,mo,start,life,proto,fr,to,opt,data⟩:=p
  unfold Vc
  unfold hdA hdB at key hb ⊢
  dsimp only at *
  cases wh with
  |true=>
   obtain ⟨rfl,rfl⟩:=hform rfl
   have ef:bits .or .i64 0 16384=16384:=by decide
   have hfl:fl ⟨tos,id,true,false,0,life,proto,fr,to,opt,data⟩=16384:=rfl
   rw [hfl]
   have hs:=key 16384
   have e4:=hb 16384
   refine z7 {} 0 Tryz.func39 fun Γ hW=>auC ?_
   repeat' first|refine auS ?_|(first|(simp only [zu,za])|(simp only [e1,e2,e3])|(simp only [ef])|(simp only [dV])|(simp only [e4])|(with_reducible refine z6 hr ?_)|(with_reducible refine z6 (wx _) ?_)|(with_reducible refine z6 hl1 ?_)|(with_reducible refine z6 hl2 ?_)|(with_reducible refine z6 hs ?_))|refine auD ?_|(refine auW ?_ ?_<;>intro h<;>try exact auH)|(refine zf (by simp only [zu,za,List.length_append,List.length_cons,List.length_nil,zZ,xq,yP,nk,oV,List.length_take,List.length_drop];omega) ?_)
   all_goals try exact auP
   all_goals refine auV ?_
   all_goals try exact zc
   all_goals try simp only [hsM] at *
   all_goals rfl
  |false=>
   cases mo with
   |true=>
    have ef:bits .or .i64 start 8192=start+8192:=by
     rw [jb,qf 13 8192 start (by decide) (by decide) (by decide) (by omega) (by omega) (by omega)];omega
    have hfl:fl ⟨tos,id,false,true,start,life,proto,fr,to,opt,data⟩=start+8192:=rfl
    rw [hfl]
    have hs:=key (start+8192)
    have e4:=hb (start+8192)
    refine z7 {} 0 Tryz.func39 fun Γ hW=>auC ?_
    repeat' first|refine auS ?_|(first|(simp only [zu,za])|(simp only [e1,e2,e3])|(simp only [ef])|(simp only [dV])|(simp only [e4])|(with_reducible refine z6 hr ?_)|(with_reducible refine z6 (wx _) ?_)|(with_reducible refine z6 hl1 ?_)|(with_reducible refine z6 hl2 ?_)|(with_reducible refine z6 hs ?_))|refine auD ?_|(refine auW ?_ ?_<;>intro h<;>try exact auH)|(refine zf (by simp only [zu,za,List.length_append,List.length_cons,List.length_nil,zZ,xq,yP,nk,oV,List.length_take,List.length_drop];omega) ?_)
    all_goals try exact auP
    all_goals refine auV ?_
    all_goals try exact zc
    all_goals try simp only [hsM] at *
    all_goals rfl
   |false=>
    have ef:(0:Nat)=0:=rfl
    have hfl:fl ⟨tos,id,false,false,start,life,proto,fr,to,opt,data⟩=start:=Int.add_zero _
    rw [hfl]
    have hs:=key start
    have e4:=hb start
    refine z7 {} 0 Tryz.func39 fun Γ hW=>auC ?_
    repeat' first|refine auS ?_|(first|(simp only [zu,za])|(simp only [e1,e2,e3])|(simp only [ef])|(simp only [dV])|(simp only [e4])|(with_reducible refine z6 hr ?_)|(with_reducible refine z6 (wx _) ?_)|(with_reducible refine z6 hl1 ?_)|(with_reducible refine z6 hl2 ?_)|(with_reducible refine z6 hs ?_))|refine auD ?_|(refine auW ?_ ?_<;>intro h<;>try exact auH)|(refine zf (by simp only [zu,za,List.length_append,List.length_cons,List.length_nil,zZ,xq,yP,nk,oV,List.length_take,List.length_drop];omega) ?_)
    all_goals try exact auP
    all_goals refine auV ?_
    all_goals try exact zc
    all_goals try simp only [hsM] at *
    all_goals rfl
 ·unfold pW
  rw [if_neg he]
  refine z7 {} 0 Tryz.func39 fun Γ hW=>auC ?_
  repeat' first|refine auS ?_|(first|(simp only [zu,za])|(simp only [e1,e2,e3])|(simp only [ef])|(simp only [dV])|(simp only [e4])|(with_reducible refine z6 hr ?_)|(with_reducible refine z6 (wx _) ?_)|(with_reducible refine z6 hl1 ?_)|(with_reducible refine z6 hl2 ?_)|(with_reducible refine z6 hs ?_))|refine auD ?_|(refine auW ?_ ?_<;>intro h<;>try exact auH)|(refine zf (by simp only [zu,za,List.length_append,List.length_cons,List.length_nil,zZ,xq,yP,nk,oV,List.length_take,List.length_drop];omega) ?_)
  all_goals try exact auP
  all_goals refine auV ?_
  all_goals try exact zc
  all_goals try simp only [hsM] at *
  all_goals rfl
end Go.Proofs.YtaiileiodjicpaaGreatDoor
