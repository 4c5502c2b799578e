import Derived.Test.YtmibknbmhcnemaaGreatDoorHb19
set_option linter.unusedVariables false
set_option linter.unusedSimpArgs false
namespace Go.Proofs.YtmibknbmhcnemaaGreatDoor
attribute [local irreducible] zF Go
set_option maxRecDepth 100000
theorem bc (j:Nat) (hj:j≤62) (p:Int):bits .and .i64 p ((2 ^ j-1:Nat):Int)=p % ((2 ^ j:Nat):Int):=by
 have hp:2 ^ j≤2 ^ 62:=Nat.pow_le_pow_right (by decide) hj
 have hpos:0<2 ^ j:=Nat.two_pow_pos j
 show IntKind.i64.wrap ((BitVec.ofInt 64 p &&& BitVec.ofInt 64 ((2 ^ j-1:Nat):Int)).toNat:Int)=_
 rw [BitVec.ofInt_natCast,BitVec.toNat_and,BitVec.toNat_ofNat,Nat.mod_eq_of_lt (by omega:2 ^ j-1<2 ^ 64),Nat.and_two_pow_sub_one_eq_mod,BitVec.toNat_ofInt]
 have h2:((p % ((2 ^ 64:Nat):Int)).toNat:Int)=p % ((2 ^ 64:Nat):Int):=Int.toNat_of_nonneg (Int.emod_nonneg _ (by decide))
 have h3:(p % ((2 ^ 64:Nat):Int)) % ((2 ^ j:Nat):Int)=p % ((2 ^ j:Nat):Int):=by
  refine Int.emod_emod_of_dvd p ?_
  exact Int.natCast_dvd_natCast.2 (Nat.pow_dvd_pow 2 (by omega))
 have h4:0≤p % ((2 ^ j:Nat):Int):=Int.emod_nonneg _ (by omega)
 have h5:p % ((2 ^ j:Nat):Int)<((2 ^ j:Nat):Int):=Int.emod_lt_of_pos _ (by omega)
 rw [Int.natCast_emod,h2,h3,IntWalk.i64_in _ (by omega)]
theorem r_ (p:Int):bits .and .i64 p 1=p % 2:=bc 1 (by decide) p
theorem x8 (p:Int):bits .and .i64 p 8191=p % 8192:=bc 13 (by decide) p
theorem oN (n:Int):zd Tryz.prog 95 [.v (.int .i64 n)] (.v (.string (mkS (wd n)))):=by
 have h1:n.fdiv (2 ^ 8)=n / 256:=Int.fdiv_eq_ediv_of_nonneg _ (by decide)
 have hs:rE [[.v (.int .u8 (IntKind.u8.wrap (n / 256)))],[.v (.int .u8 (IntKind.u8.wrap n))]]=mkS (wd n):=by rw [ZQ,pA,pA];rfl
 refine z4 {} 0 Tryz.func95 fun Γ hW=>auC ?_
 repeat' first|refine auS ?_|(simp only [Yv,h1,hs])|refine auD ?_|(refine auW ?_ ?_<;>intro h<;>try exact auH)|fail
 all_goals try exact auP
 all_goals refine auV ?_
 all_goals try exact z8
 all_goals try simp only [hsM] at *
theorem yQ (l:List UInt8) (i:Nat) (hi:i+1<l.length) (hl:l.length≤9223372036854775806) (ii:Int) (hii:ii=(i:Nat)):zd Tryz.prog 100 [.v (.string (mkS l)),.v (.int .i64 ii)] (.v (.int .i64 (z3 l i))):=by
 subst hii
 have hb:=yg l i
 have hb2:=yg l (i+1)
 have e1:IntKind.i64.wrap (bN l i:Nat)=(bN l i:Nat):=IntWalk.i64_in _ (by omega)
 have e2:IntKind.i64.wrap (bN l (i+1):Nat)=(bN l (i+1):Nat):=IntWalk.i64_in _ (by omega)
 have e3:IntKind.i64.wrap ((i:Int)+1)=((i+1:Nat):Int):=by rw [IntWalk.i64_in _ (by omega)];omega
 have e5:bits .or .i64 (IntKind.i64.wrap ((bN l i:Nat)*2 ^ 8)) (bN l (i+1):Nat)=z3 l i:=mJ _ _ (by omega) (by omega) (by omega) (by omega)
 refine z4 {} 0 Tryz.func100 fun Γ hW=>auC ?_
 repeat' first|refine auS ?_|(simp only [z5,zj,Yv,e1,e2,e3,e5,Int.toNat_natCast])|refine auD ?_|(refine auW ?_ ?_<;>intro h<;>try exact auH)|fail
 all_goals try exact auP
 all_goals refine auV ?_
 all_goals try exact z8
 all_goals try simp only [hsM] at *
theorem qs (l:List UInt8) (i:Nat) (hi:i+3<l.length) (hl:l.length≤9223372036854775800) (ii:Int) (hii:ii=(i:Nat)):zd Tryz.prog 144 [.v (.string (mkS l)),.v (.int .i64 ii)] (.v (.int .u32 (yZ l i))):=by
 subst hii
 have h1:=yQ l i (by omega) (by omega) i rfl
 have h2:=yQ l (i+2) (by omega) (by omega) ((i:Int)+2) (by omega)
 have b1:=zh l i
 have b2:=zh l (i+2)
 have m2:min 16 IntKind.u32.bits=16:=rfl
 have e0:IntKind.i64.wrap ((i:Int)+2)=(i:Int)+2:=IntWalk.i64_in _ (by omega)
 have e1:IntKind.u32.wrap (z3 l i)=z3 l i:=IntWalk.u32_in _ (by omega)
 have e2:IntKind.u32.wrap (z3 l (i+2))=z3 l (i+2):=IntWalk.u32_in _ (by omega)
 have e3:bits .or .u32 (IntKind.u32.wrap (z3 l i*2 ^ 16)) (z3 l (i+2))=yZ l i:=by
  rw [IntWalk.u32_in _ (by omega),lE 16 _ _ (by omega) (by omega) (by omega) (by omega) (by omega) (by omega)]
  unfold yZ;omega
 refine z4 {} 0 Tryz.func144 fun Γ hW=>auC ?_
 repeat' first|refine auS ?_|(first|(simp only [m2,e0,e1,e2,e3])|(with_reducible refine z0 h1 ?_)|(with_reducible refine z0 h2 ?_))|refine auD ?_|(refine auW ?_ ?_<;>intro h<;>try exact auH)|fail
 all_goals try exact auP
 all_goals refine auV ?_
 all_goals try exact z8
 all_goals try simp only [hsM] at *
theorem xB (n:Int):zd Tryz.prog 143 [.v (.int .i64 n)] (.v (.bool (decide (0≤n∧n≤255)))):=by
 refine z4 {} 0 Tryz.func143 fun Γ hW=>auC ?_
 repeat' first|refine auS ?_|fail|refine auD ?_|(refine auW ?_ ?_<;>intro h<;>try exact auH)|fail
 all_goals try exact auP
 all_goals refine auV ?_
 all_goals try exact z8
 all_goals try simp only [hsM] at *
 all_goals (refine zQ ?_;first|(simp_all;done)|(simp_all;omega))
structure Pk where
 (tos id:Int) (wh mo:Bool) (start life proto fr to:Int) (opt data:List UInt8)
abbrev Pk.enc (p:Pk):List DV:=[.v (.int .i64 p.tos),.v (.int .i64 p.id),.v (.bool p.wh),.v (.bool p.mo),.v (.int .i64 p.start),.v (.int .i64 p.life),.v (.int .i64 p.proto),.v (.int .u32 p.fr),.v (.int .u32 p.to),.v (.string (mkS p.opt)),.v (.string (mkS p.data))]
abbrev dP (p:Pk):DV:=.agg p.enc
def Pk.arg (p:Pk):Prop:=(0≤p.tos∧p.tos≤255)∧(0≤p.life∧p.life≤255)∧(0≤p.proto∧p.proto≤255)∧(0≤p.id∧p.id≤65535)∧(0≤p.start∧p.start≤8191)∧p.opt.length≤40∧p.opt.length % 4=0
instance (p:Pk):Decidable p.arg:=by unfold Pk.arg;infer_instance
def Pk.form (p:Pk):Prop:=p.wh=true→p.mo=false∧p.start=0
instance (p:Pk):Decidable p.form:=by unfold Pk.form;infer_instance
def uu (p:Pk):Int:=if ¬p.arg then 1 else if ¬p.form then 4 else if 65515<p.data.length+p.opt.length then 2 else 0
theorem xF (n:Nat):((n:Nat):Int).tmod 4=((n % 4:Nat):Int):=(Int.ofNat_tmod n 4).symm
set_option maxHeartbeats 4000000 in
theorem iu (p:Pk) (ho:p.opt.length≤140737488351232) (hd:p.data.length≤140737488351232):zd Tryz.prog 94 [dP p] (.v (.int .i64 (uu p))):=by
 have e1:IntKind.i64.wrap (65515-(p.opt.length:Nat))=65515-(p.opt.length:Nat):=IntWalk.i64_in _ (by omega)
 obtain ⟨tos,id,wh,mo,start,life,proto,fr,to,opt,data⟩:=p
 unfold uu Pk.arg Pk.form
 dsimp only at ho hd e1 ⊢
 by_cases h1:0≤tos∧tos≤255
 rotate_left 1
 ·rw [if_pos (fun q=>h1 q.1)]
  refine z4 {} 0 Tryz.func94 fun Γ hW=>auC ?_
  repeat' first|refine auS ?_|(first|(simp only [z5,xF,e1])|(with_reducible refine z0 (xB _) ?_))|refine auD ?_|(refine auW ?_ ?_<;>intro h<;>try exact auH)|fail
  all_goals try exact auP
  all_goals refine auV ?_
  all_goals try exact z8
  all_goals try simp only [hsM] at *
 by_cases h2:0≤life∧life≤255
 rotate_left 1
 ·rw [if_pos (fun q=>h2 q.2.1)]
  refine z4 {} 0 Tryz.func94 fun Γ hW=>auC ?_
  repeat' first|refine auS ?_|(first|(simp only [z5,xF,e1])|(with_reducible refine z0 (xB _) ?_))|refine auD ?_|(refine auW ?_ ?_<;>intro h<;>try exact auH)|fail
  all_goals try exact auP
  all_goals refine auV ?_
  all_goals try exact z8
  all_goals try simp only [hsM] at *
 by_cases h3:0≤proto∧proto≤255
 rotate_left 1
 ·rw [if_pos (fun q=>h3 q.2.2.1)]
  refine z4 {} 0 Tryz.func94 fun Γ hW=>auC ?_
  repeat' first|refine auS ?_|(first|(simp only [z5,xF,e1])|(with_reducible refine z0 (xB _) ?_))|refine auD ?_|(refine auW ?_ ?_<;>intro h<;>try exact auH)|fail
  all_goals try exact auP
  all_goals refine auV ?_
  all_goals try exact z8
  all_goals try simp only [hsM] at *
 by_cases h4:0≤id∧id≤65535
 rotate_left 1
 ·rw [if_pos (fun q=>h4 q.2.2.2.1)]
  refine z4 {} 0 Tryz.func94 fun Γ hW=>auC ?_
  repeat' first|refine auS ?_|(first|(simp only [z5,xF,e1])|(with_reducible refine z0 (xB _) ?_))|refine auD ?_|(refine auW ?_ ?_<;>intro h<;>try exact auH)|fail
  all_goals try exact auP
  all_goals refine auV ?_
  all_goals try exact z8
  all_goals try simp only [hsM] at *
 by_cases h5:0≤start∧start≤8191
 rotate_left 1
 ·rw [if_pos (fun q=>h5 q.2.2.2.2.1)]
  refine z4 {} 0 Tryz.func94 fun Γ hW=>auC ?_
  repeat' first|refine auS ?_|(first|(simp only [z5,xF,e1])|(with_reducible refine z0 (xB _) ?_))|refine auD ?_|(refine auW ?_ ?_<;>intro h<;>try exact auH)|fail
  all_goals try exact auP
  all_goals refine auV ?_
  all_goals try exact z8
  all_goals try simp only [hsM] at *
 by_cases h6:opt.length≤40
 rotate_left 1
 ·rw [if_pos (fun q=>h6 q.2.2.2.2.2.1)]
  refine z4 {} 0 Tryz.func94 fun Γ hW=>auC ?_
  repeat' first|refine auS ?_|(first|(simp only [z5,xF,e1])|(with_reducible refine z0 (xB _) ?_))|refine auD ?_|(refine auW ?_ ?_<;>intro h<;>try exact auH)|fail
  all_goals try exact auP
  all_goals refine auV ?_
  all_goals try exact z8
  all_goals try simp only [hsM] at *
 by_cases h7:opt.length % 4=0
 rotate_left 1
 ·rw [if_pos (fun q=>h7 q.2.2.2.2.2.2)]
  refine z4 {} 0 Tryz.func94 fun Γ hW=>auC ?_
  repeat' first|refine auS ?_|(first|(simp only [z5,xF,e1])|(with_reducible refine z0 (xB _) ?_))|refine auD ?_|(refine auW ?_ ?_<;>intro h<;>try exact auH)|fail
  all_goals try exact auP
  all_goals refine auV ?_
  all_goals try exact z8
  all_goals try simp only [hsM] at *
 rw [if_neg (not_not_intro ⟨h1,h2,h3,h4,h5,h6,h7⟩)]
 cases wh with
 |true=>
  cases mo with
  |true=>
   rw [if_pos (by simp)]
   refine z4 {} 0 Tryz.func94 fun Γ hW=>auC ?_
   repeat' first|refine auS ?_|(first|(simp only [z5,xF,e1])|(with_reducible refine z0 (xB _) ?_))|refine auD ?_|(refine auW ?_ ?_<;>intro h<;>try exact auH)|fail
   all_goals try exact auP
   all_goals refine auV ?_
   all_goals try exact z8
   all_goals try simp only [hsM] at *
  |false=>
   by_cases h8:start=0
   ·rw [if_neg (by simp [h8])]
    by_cases h9:65515<data.length+opt.length
    ·rw [if_pos h9]
     refine z4 {} 0 Tryz.func94 fun Γ hW=>auC ?_
     repeat' first|refine auS ?_|(first|(simp only [z5,xF,e1])|(with_reducible refine z0 (xB _) ?_))|refine auD ?_|(refine auW ?_ ?_<;>intro h<;>try exact auH)|fail
     all_goals try exact auP
     all_goals refine auV ?_
     all_goals try exact z8
     all_goals try simp only [hsM] at *
    ·rw [if_neg h9]
     refine z4 {} 0 Tryz.func94 fun Γ hW=>auC ?_
     repeat' first|refine auS ?_|(first|(simp only [z5,xF,e1])|(with_reducible refine z0 (xB _) ?_))|refine auD ?_|(refine auW ?_ ?_<;>intro h<;>try exact auH)|fail
     all_goals try exact auP
     all_goals refine auV ?_
     all_goals try exact z8
     all_goals try simp only [hsM] at *
   ·rw [if_pos (by simp [h8])]
    refine z4 {} 0 Tryz.func94 fun Γ hW=>auC ?_
    repeat' first|refine auS ?_|(first|(simp only [z5,xF,e1])|(with_reducible refine z0 (xB _) ?_))|refine auD ?_|(refine auW ?_ ?_<;>intro h<;>try exact auH)|fail
    all_goals try exact auP
    all_goals refine auV ?_
    all_goals try exact z8
    all_goals try simp only [hsM] at *
 |false=>
  rw [if_neg (by simp)]
  by_cases h9:65515<data.length+opt.length
  ·rw [if_pos h9]
   refine z4 {} 0 Tryz.func94 fun Γ hW=>auC ?_
   repeat' first|refine auS ?_|(first|(simp only [z5,xF,e1])|(with_reducible refine z0 (xB _) ?_))|refine auD ?_|(refine auW ?_ ?_<;>intro h<;>try exact auH)|fail
   all_goals try exact auP
   all_goals refine auV ?_
   all_goals try exact z8
   all_goals try simp only [hsM] at *
  ·rw [if_neg h9]
   refine z4 {} 0 Tryz.func94 fun Γ hW=>auC ?_
   repeat' first|refine auS ?_|(first|(simp only [z5,xF,e1])|(with_reducible refine z0 (xB _) ?_))|refine auD ?_|(refine auW ?_ ?_<;>intro h<;>try exact auH)|fail
   all_goals try exact auP
   all_goals refine auV ?_
   all_goals try exact z8
   all_goals try simp only [hsM] at *
end Go.Proofs.YtmibknbmhcnemaaGreatDoor
namespace Go.Proofs.YtmibknbmhcnemaaGreatDoor
attribute [local irreducible] zF Go
set_option maxRecDepth 100000
abbrev dSI (r:List UInt8×Int):DV:=.tup [.v (.string (mkS r.1)),.v (.int .i64 r.2)]
def fl (p:Pk):Int:=(if p.wh then 16384 else p.start)+(if p.mo then 8192 else 0)
def hdA (p:Pk) (F:Int):List UInt8:=[u8 (64+(20+(p.opt.length:Int)) / 4),u8 p.tos]++wd (20+(p.opt.length:Int)+(p.data.length:Int))++wd p.id++wd F++[u8 p.life,u8 p.proto]
def hdB (p:Pk):List UInt8:=lg p.fr++lg p.to++p.opt
theorem xZ (p:Pk) (F:Int):(hdA p F).length=10:=rfl
theorem w9 (p:Pk):(hdB p).length=8+p.opt.length:=by unfold hdB;simp [zW];omega
def Vb (p:Pk) (F:Int):List UInt8:=hdA p F++wd (65535-zL (ya (hdA p F++hdB p)))++hdB p++p.data
def pW (p:Pk):List UInt8×Int:=if uu p=0 then (Vb p (fl p),0) else ([],uu p)
theorem Wj {p:Pk} (h:uu p=0):p.arg∧p.form∧p.data.length+p.opt.length≤65515:=by
 unfold uu at h
 split at h
 ·cases h
 ·rename_i h1
  split at h
  ·cases h
  ·rename_i h2
   split at h
   ·cases h
   ·rename_i h3
    exact ⟨Decidable.not_not.1 h1,Decidable.not_not.1 h2,by omega⟩
end Go.Proofs.YtmibknbmhcnemaaGreatDoor
