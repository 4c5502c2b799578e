import Derived.Test.YtmibknbmhcnemaaGreatDoorTw16
import Derived.Test.YtmibknbmhcnemaaGreatDoorTw17
set_option linter.unusedVariables false
set_option linter.unusedSimpArgs false
namespace Go.Proofs.YtmibknbmhcnemaaGreatDoor.T
attribute [local irreducible] zu Go
set_option maxRecDepth 100000
theorem zA {α:Type} (f:α→List DV) (l:List α):zC (zF (l.map f) 0) l.length=l.map f:=sa (by simp)
theorem j6 (l:List Tk) (x:Tk):l.map Tk.enc++[x.enc]=(l++[x]).map Tk.enc:=by rw [List.map_append];rfl
abbrev yng (l:List Tk) (now:Int):List Tk:=l.filter (fun t=>!t.old now)
def wC:List Tk→Int
 |[]=>0
 |[t]=>t.x
 |_::y::r=>wC (y::r)
abbrev opB (t:Tk) (a b c d:Int):Bool:=decide (t.a=a)&&(decide (t.b=b)&&(decide (t.c=c)&&decide (t.d=d)))
def pm (l:List Tk) (a b c d fl now:Int):Bool:=oZ a b c d&&decide ((0≤fl∧fl≤255)∧wC l≤now∧now≤1099511627776)
def sY (l:List Tk) (a b c d now:Int) (syn ack fin rst:Bool):List Tk×Bool×Int:=
 if (syn && !ack && !fin && !rst)=false then (yng l now,false,0) else if (yng l now).length=64 then (l,false,6) else (yng l now++[⟨a,b,c,d,1,0,now⟩],true,0)
def uT (l:List Tk) (a b c d now:Int) (syn ack fin rst:Bool) (i:Nat) (t:Tk):List Tk×Bool×Int:=
 if rst then ((yng l now).take i++(yng l now).drop (i+1),true,0)
 else if (pas t.s t.o syn ack fin (opB t a b c d)).1=false then (yng l now,false,0)
 else ((yng l now).take i++(yng l now).drop (i+1)++[⟨t.a,t.b,t.c,t.d,(pas t.s t.o syn ack fin (opB t a b c d)).2.1,(pas t.s t.o syn ack fin (opB t a b c d)).2.2,now⟩],true,0)
abbrev hD (r:List Tk×Bool×Int):DV:=.tup [.snap 7 (r.1.map Tk.enc) false,.v (.bool r.2.1),.v (.int .i64 r.2.2)]
theorem vz:∀(l:List Tk) (k:Nat) (t:Tk),l[k]?=some t→l.length=k+1→wC l=t.x
 |[],k,t,h,_=>by simp at h
 |[y],0,t,h,_=>by simp at h;rw [←h];rfl
 |[y],k+1,t,h,hl=>by simp at hl
 |y::z::r,0,t,h,hl=>by simp at hl
 |y::z::r,k+1,t,h,hl=>by
  rw [wC]
  exact vz (z::r) k t (by simpa using h) (by simpa using hl)
theorem kP {l:List Tk} (h:x_ [] l=true):0≤wC l:=by
 rcases Nat.eq_zero_or_pos l.length with h0|h0
 ·rw [List.eq_nil_of_length_eq_zero h0];exact Int.le_refl 0
 ·obtain ⟨z,hz⟩:∃z,l[l.length-1]?=some z:=⟨_,List.getElem?_eq_getElem (by omega)⟩
  rw [vz l (l.length-1) z hz (by omega)]
  exact (pD (tz h (List.mem_of_getElem? hz))).2.1
theorem pa (k:Nat) (l:List Tk) (hl:l.length≤maxLen) (n:Nat) (a b c d:Int):zz Tryz.prog 71 [.sl k n 7 0 l.length false,dR a b c d] [some ⟨n,7,l.map Tk.enc⟩] (fun D H=>D=.v (.int .i64 (ze (fun t=>t.along a b c d) l 0))∧H=[some ⟨n,7,l.map Tk.enc⟩]):=by
 refine zY k ?_
 have hi:=nV 0 (g:=115) (caps:=[.rptr [.v (.int .u32 a),.v (.int .u32 b),.v (.int .i64 c),.v (.int .i64 d)]]) (fun t=>t.along a b c d) l hl n (fun t _=>qV t.a t.b t.c t.d t.s t.o t.x a b c d)
 refine zw {} 1 Tryz.func71 fun Γ hN0 hL0=>auC ?_
 have hn:n<Γ.g0:=hN0 0 _ rfl
 repeat' first|(refine zV (uY hL0 ⟨.d0,.d0,.d3⟩ (k:=0) rfl rfl ⟨rfl,rfl,Nat.succ_pos _⟩ rfl) ?_)|refine auS ?_|(with_reducible refine z6 0 ?_ hi (fun _ _ _ h=>h) ?_);(exact rfl)|refine auD ?_|(refine auW ?_ ?_<;>intro h<;>try exact auH)|fail
 exact yi trivial trivial rfl rfl hn (zg (fun x=>by simp [nfL,nfD])) rfl
theorem o0 (t:Tk) (now:Int) (hx:0≤t.x∧t.x≤1099511627776) (hn:0≤now∧now≤1099511627776):zc Tryz.prog 181 [.agg t.enc,.rptr [.v (.int .i64 now)]] (.v (.bool (t.old now))):=by
 refine z3 {} 0 Tryz.func181 fun Γ hW=>auC ?_
 repeat' first|refine auS ?_|(with_reducible refine z0 (kG _ _ _ _ _ _ _ _ hx hn) ?_)|refine auD ?_|(refine auW ?_ ?_<;>intro h<;>try exact auH)|fail
 all_goals refine auV ?_
 all_goals try exact z9
 all_goals try simp only [hsM] at *
 rfl
set_option maxHeartbeats 2000000 in
theorem Y7 (l:List Tk) (a b c d fl now:Int) (hr:zW l.length 48) (he:yd l≠0):zc Tryz.prog 157 [.snap 7 (l.map Tk.enc) false,dR a b c d,.v (.int .i64 fl),.v (.int .i64 now)] (hD (l,false,yd l)):=by
 refine z3 {} 0 Tryz.func157 fun Γ hW=>auC ?_
 repeat' first|(first|(refine zV (zQ hW ⟨.d0,.d0,.d7⟩ rfl rfl ⟨rfl,rfl,Nat.succ_pos _⟩) ?_)|(refine zV (zi hW ⟨.d0,.d0,.d0⟩ rfl rfl ⟨rfl,rfl,by simp⟩) ?_))|refine auS ?_|(first|(with_reducible refine zB 10 (yt 10 l false hr) ?_)|(with_reducible refine z0 (ya l) ?_))|refine auD ?_|(refine auW ?_ ?_<;>intro h<;>try exact auH)|(simp only [zA])
 all_goals refine auV ?_
 all_goals try exact z9
 all_goals try simp only [hsM] at *
set_option maxHeartbeats 4000000 in
theorem bO (l:List Tk) (a b c d fl now:Int) (hr:zW l.length 48) (he:yd l=0) (hb:pm l a b c d fl now=false):zc Tryz.prog 157 [.snap 7 (l.map Tk.enc) false,dR a b c d,.v (.int .i64 fl),.v (.int .i64 now)] (hD (l,false,1)):=by
 have hb':(oZ a b c d=false)∨(oZ a b c d=true∧¬((0≤fl∧fl≤255)∧wC l≤now∧now≤1099511627776)):=by
  unfold pm at hb
  cases hq:oZ a b c d with
  |false=>exact .inl rfl
  |true=>rw [hq] at hb;exact .inr ⟨rfl,by simpa using hb⟩
 clear hb
 have hroad:=sB a b c d
 rcases hb' with hrb|⟨hrb,hb⟩
 all_goals
 rw [hrb] at hroad
 have hl:=(zI he).1
 have hz:∃z,(0<l.length→l[l.length-1]?=some z∧wC l=z.x):=by
  rcases Nat.eq_zero_or_pos l.length with h|h
  ·exact ⟨⟨0,0,0,0,0,0,0⟩,fun q=>by omega⟩
  ·obtain ⟨z,hz⟩:∃z,l[l.length-1]?=some z:=⟨_,List.getElem?_eq_getElem (by omega)⟩
   exact ⟨z,fun _=>⟨hz,vz l (l.length-1) z hz (by omega)⟩⟩
 obtain ⟨z,hz⟩:=hz
 refine z3 {} 0 Tryz.func157 fun Γ hW=>auC ?_
 repeat' first|(first|(refine zV (zQ hW ⟨.d0,.d0,.d7⟩ rfl rfl ⟨rfl,rfl,Nat.succ_pos _⟩) ?_)|(refine zV (zi hW ⟨.d0,.d0,.d0⟩ rfl rfl ⟨rfl,rfl,by simp⟩) ?_))|refine ek ?_|(first|(with_reducible refine zB 10 (yt 10 l false hr) ?_)|(with_reducible refine z0 (ya l) ?_))|refine auD ?_|(refine auW ?_ ?_<;>intro h<;>try exact auH)|(simp only [zA])
 refine wF ?_
 repeat' first|fail|refine ek ?_|(first|(with_reducible refine zB 10 (yt 10 l false hr) ?_)|(with_reducible refine z0 (ya l) ?_))|refine auD ?_|(refine auW ?_ ?_<;>intro h<;>try exact auH)|(simp only [zA])
 refine lY (α:=Unit) (fun _=>[(⟨.d0,.d1,.d4⟩,.v (.int .i64 (wC l)))]) (fun _=>[]) (fun _=>Γ.g0+3) (fun _=>True) ?_ ?_
 ·by_cases h0:0<l.length
  ·have ez:=ui (hz h0).1
   have hw:IntKind.i64.wrap ((l.length:Int)-1)=((l.length-1:Nat):Int):=(IntWalk.i64_in _ (by omega)).trans (by omega)
   repeat' first|refine auS ?_|fail|refine auD ?_|(refine auW ?_ ?_<;>intro h<;>try exact auH)|(simp only [List.length_map,hw,Int.toNat_natCast,ez])
   all_goals try exact auP
   refine zo ⟨(),trivial,?_⟩
   refine zp ?_ ?_ (Nat.le_refl _)
   all_goals first|refine auE ?_|exact zJ
   all_goals repeat' first|exact trivial|exact rfl|apply And.intro
   exact zL (hz h0).2.symm
  ·skip
   repeat' first|refine auS ?_|fail|refine auD ?_|(refine auW ?_ ?_<;>intro h<;>try exact auH)|fail
   all_goals try exact auP
   all_goals (refine zo ⟨(),trivial,?_⟩)
   all_goals ((refine zp ?_ ?_ (Nat.le_refl _));(all_goals first|refine auE ?_|exact zJ);(all_goals (repeat' (first|exact trivial|exact rfl|apply And.intro))))
   all_goals (rw [List.eq_nil_of_length_eq_zero (show l.length=0 by omega)];rfl)
 rintro _ -
 refine auL ?_
 repeat' first|refine auS ?_|(with_reducible refine z0 hroad ?_)|refine auD ?_|(refine auW ?_ ?_<;>intro h<;>try exact auH)|fail
 all_goals try exact auP
 all_goals refine auV ?_
 all_goals try exact z9
 all_goals try simp only [hsM] at *
set_option maxHeartbeats 4000000 in
theorem eZ (l:List Tk) (a b c d fl now:Int) (hr:zW l.length 48) (he:yd l=0) (hb:pm l a b c d fl now=true) (syn ack fin rst:Bool) (hf:sd fl syn ack fin rst) (hidx:ze (fun t=>t.along a b c d) (yng l now) 0 = -1):zc Tryz.prog 157 [.snap 7 (l.map Tk.enc) false,dR a b c d,.v (.int .i64 fl),.v (.int .i64 now)] (hD (sY l a b c d now syn ack fin rst)):=by
 have hlx:0≤wC l:=kP (zI he).2
 unfold pm at hb
 simp only [Bool.and_eq_true,decide_eq_true_eq] at hb
 have hyl:(yng l now).length≤l.length:=List.length_filter_le _ _
 have hp:=fun n=>pa 10 (yng l now) (by have:=(zI he).1;unfold maxLen;omega) n a b c d
 simp only [hidx] at hp
 have hg:∀t∈l,zc Tryz.prog 181 [.agg t.enc,.rptr [.v (.int .i64 now)]] (.v (.bool (t.old now))):=fun t ht=>o0 t now (pD (tz (zI he).2 ht)).2 (by omega)
 have hdel:=fun n=>s_ 10 (caps:=[.rptr [.v (.int .i64 now)]]) (fun t=>t.old now) l (by have:=(zI he).1;unfold maxLen;omega) n hg
 obtain ⟨f2,f16,f1,f4,-⟩:=hf
 have g2:(!decide (bits .and .i64 fl 2=0))=syn:=by rw [f2];cases syn<;>rfl
 have g16:(!decide (bits .and .i64 fl 16=0))=ack:=by rw [f16];cases ack<;>rfl
 have g1:(!decide (bits .and .i64 fl 1=0))=fin:=by rw [f1];cases fin<;>rfl
 have g4:(!decide (bits .and .i64 fl 4=0))=rst:=by rw [f4];cases rst<;>rfl
 have hroad:=sB a b c d
 rw [hb.1] at hroad
 have hl:=(zI he).1
 have hz:∃z,(0<l.length→l[l.length-1]?=some z∧wC l=z.x):=by
  rcases Nat.eq_zero_or_pos l.length with h|h
  ·exact ⟨⟨0,0,0,0,0,0,0⟩,fun q=>by omega⟩
  ·obtain ⟨z,hz⟩:∃z,l[l.length-1]?=some z:=⟨_,List.getElem?_eq_getElem (by omega)⟩
   exact ⟨z,fun _=>⟨hz,vz l (l.length-1) z hz (by omega)⟩⟩
 obtain ⟨z,hz⟩:=hz
 refine z3 {} 0 Tryz.func157 fun Γ hW=>auC ?_
 repeat' first|(first|(refine zV (zQ hW ⟨.d0,.d0,.d7⟩ rfl rfl ⟨rfl,rfl,Nat.succ_pos _⟩) ?_)|(refine zV (zi hW ⟨.d0,.d0,.d0⟩ rfl rfl ⟨rfl,rfl,by simp⟩) ?_))|refine ek ?_|(first|(with_reducible refine zB 10 (yt 10 l false hr) ?_)|(with_reducible refine z0 (ya l) ?_))|refine auD ?_|(refine auW ?_ ?_<;>intro h<;>try exact auH)|(simp only [zA])
 refine wF ?_
 repeat' first|fail|refine ek ?_|(first|(with_reducible refine zB 10 (yt 10 l false hr) ?_)|(with_reducible refine z0 (ya l) ?_))|refine auD ?_|(refine auW ?_ ?_<;>intro h<;>try exact auH)|(simp only [zA])
 refine lY (α:=Unit) (fun _=>[(⟨.d0,.d1,.d4⟩,.v (.int .i64 (wC l)))]) (fun _=>[]) (fun _=>Γ.g0+3) (fun _=>True) ?_ ?_
 ·by_cases h0:0<l.length
  ·have ez:=ui (hz h0).1
   have hw:IntKind.i64.wrap ((l.length:Int)-1)=((l.length-1:Nat):Int):=(IntWalk.i64_in _ (by omega)).trans (by omega)
   repeat' first|refine auS ?_|fail|refine auD ?_|(refine auW ?_ ?_<;>intro h<;>try exact auH)|(simp only [List.length_map,hw,Int.toNat_natCast,ez])
   all_goals try exact auP
   refine zo ⟨(),trivial,?_⟩
   refine zp ?_ ?_ (Nat.le_refl _)
   all_goals first|refine auE ?_|exact zJ
   all_goals repeat' first|exact trivial|exact rfl|apply And.intro
   exact zL (hz h0).2.symm
  ·skip
   repeat' first|refine auS ?_|fail|refine auD ?_|(refine auW ?_ ?_<;>intro h<;>try exact auH)|fail
   all_goals try exact auP
   all_goals (refine zo ⟨(),trivial,?_⟩)
   all_goals ((refine zp ?_ ?_ (Nat.le_refl _));(all_goals first|refine auE ?_|exact zJ);(all_goals (repeat' (first|exact trivial|exact rfl|apply And.intro))))
   all_goals (rw [List.eq_nil_of_length_eq_zero (show l.length=0 by omega)];rfl)
 rintro _ -
 refine auL ?_
 repeat' first|refine auS ?_|(first|(with_reducible refine z0 hroad ?_)|(with_reducible refine zB 10 (yt 10 l false hr) ?_)|((with_reducible refine z6 10 ?_ (hdel _) (fun _ _ _ h=>h) ?_);(exact rfl))|(simp only [g2,g16,g1,g4])|((with_reducible refine z6 10 ?_ (hp _) (fun _ _ _ h=>h) ?_);(exact rfl)))|refine auD ?_|(refine auW ?_ ?_<;>intro h<;>try exact auH)|fail
 all_goals try exact auP
 ·refine zl (zi hW ⟨.d0,.d1,.d0⟩ rfl rfl ⟨rfl,rfl,by simp⟩) ?_
  simp only [zA]
  all_goals refine auV ?_
  all_goals try exact z9
  all_goals try simp only [hsM] at *
  all_goals (cases syn<;>cases ack<;>cases fin<;>cases rst<;>first|rfl|(exfalso;simp_all;done))
 ·have e:sY l a b c d now syn ack fin rst=(l,false,6):=by
   have q:(List.filter (fun t=>!t.old now) l).length=64:=by (simp only [hsL,reduceCtorEq] at *<;>omega)
   unfold sY
   rw [if_neg (by cases syn<;>cases ack<;>cases fin<;>cases rst<;>simp_all),if_pos q]
  rw [e]
  all_goals refine auV ?_
  all_goals try exact z9
  all_goals try simp only [hsM] at *
 ·refine zl (zi hW ⟨.d0,.d1,.d0⟩ rfl rfl ⟨rfl,rfl,by simp⟩) ?_
  have e:sY l a b c d now syn ack fin rst=(yng l now++[⟨a,b,c,d,1,0,now⟩],true,0):=by
   have q:¬(List.filter (fun t=>!t.old now) l).length=64:=by (simp only [hsL,reduceCtorEq] at *<;>omega)
   unfold sY
   rw [if_neg (by cases syn<;>cases ack<;>cases fin<;>cases rst<;>simp_all),if_neg q]
  rw [e,sa (by simp)]
  ·rw [show List.map Tk.enc (yng l now)++[[.v (.int .u32 a),.v (.int .u32 b),.v (.int .i64 c),.v (.int .i64 d),.v (.int .i64 1),.v (.int .i64 0),.v (.int .i64 now)]]=List.map Tk.enc (yng l now++[⟨a,b,c,d,1,0,now⟩]) from j6 _ ⟨a,b,c,d,1,0,now⟩]
   all_goals refine auV ?_
   all_goals try exact z9
   all_goals try simp only [hsM] at *
set_option maxHeartbeats 4000000 in
theorem eg (l:List Tk) (a b c d fl now:Int) (hr:zW l.length 48) (he:yd l=0) (hb:pm l a b c d fl now=true) (syn ack fin rst:Bool) (hf:sd fl syn ack fin rst) (i:Nat) (t:Tk) (hi:(yng l now)[i]?=some t) (hidx:ze (fun t=>t.along a b c d) (yng l now) 0=i):zc Tryz.prog 157 [.snap 7 (l.map Tk.enc) false,dR a b c d,.v (.int .i64 fl),.v (.int .i64 now)] (hD (uT l a b c d now syn ack fin rst i t)):=by
 have hlx:0≤wC l:=kP (zI he).2
 unfold pm at hb
 simp only [Bool.and_eq_true,decide_eq_true_eq] at hb
 have hyl:(yng l now).length≤l.length:=List.length_filter_le _ _
 have hp:=fun n=>pa 10 (yng l now) (by have:=(zI he).1;unfold maxLen;omega) n a b c d
 simp only [hidx] at hp
 have hg:∀t∈l,zc Tryz.prog 181 [.agg t.enc,.rptr [.v (.int .i64 now)]] (.v (.bool (t.old now))):=fun t ht=>o0 t now (pD (tz (zI he).2 ht)).2 (by omega)
 have hdel:=fun n=>s_ 10 (caps:=[.rptr [.v (.int .i64 now)]]) (fun t=>t.old now) l (by have:=(zI he).1;unfold maxLen;omega) n hg
 obtain ⟨f2,f16,f1,f4,-⟩:=hf
 have g2:(!decide (bits .and .i64 fl 2=0))=syn:=by rw [f2];cases syn<;>rfl
 have g16:(!decide (bits .and .i64 fl 16=0))=ack:=by rw [f16];cases ack<;>rfl
 have g1:(!decide (bits .and .i64 fl 1=0))=fin:=by rw [f1];cases fin<;>rfl
 have g4:(!decide (bits .and .i64 fl 4=0))=rst:=by rw [f4];cases rst<;>rfl
 have hil:i<(List.filter (fun t=>!t.old now) l).length:=(List.getElem?_eq_some_iff.1 hi).1
 have hil2:i<(yng l now).length:=hil
 have ex:=ui hi
 have hw:IntKind.i64.wrap ((i:Int)+1)=((i+1:Nat):Int):=(IntWalk.i64_in _ (by have:=(zI he).1;omega)).trans (by omega)
 have hpas:=fun n op=>we 5 (jr n t.a t.b t.c t.d t.s t.o t.x syn ack fin rst op)
 have hcl:(List.take i (yng l now)++List.drop (i+1) (yng l now)).length≤64:=by have:=(zI he).1;rw [List.length_append,List.length_take,List.length_drop];omega
 have hcut:=fun n=>nQ 10 (yng l now) i (i+1) (by omega) (by omega) (by have:=(zI he).1;unfold maxLen;omega) n
 have hroad:=sB a b c d
 rw [hb.1] at hroad
 have hl:=(zI he).1
 have hz:∃z,(0<l.length→l[l.length-1]?=some z∧wC l=z.x):=by
  rcases Nat.eq_zero_or_pos l.length with h|h
  ·exact ⟨⟨0,0,0,0,0,0,0⟩,fun q=>by omega⟩
  ·obtain ⟨z,hz⟩:∃z,l[l.length-1]?=some z:=⟨_,List.getElem?_eq_getElem (by omega)⟩
   exact ⟨z,fun _=>⟨hz,vz l (l.length-1) z hz (by omega)⟩⟩
 obtain ⟨z,hz⟩:=hz
 refine z3 {} 0 Tryz.func157 fun Γ hW=>auC ?_
 repeat' first|(first|(refine zV (zQ hW ⟨.d0,.d0,.d7⟩ rfl rfl ⟨rfl,rfl,Nat.succ_pos _⟩) ?_)|(refine zV (zi hW ⟨.d0,.d0,.d0⟩ rfl rfl ⟨rfl,rfl,by simp⟩) ?_))|refine ek ?_|(first|(with_reducible refine zB 10 (yt 10 l false hr) ?_)|(with_reducible refine z0 (ya l) ?_))|refine auD ?_|(refine auW ?_ ?_<;>intro h<;>try exact auH)|(simp only [zA])
 refine wF ?_
 repeat' first|fail|refine ek ?_|(first|(with_reducible refine zB 10 (yt 10 l false hr) ?_)|(with_reducible refine z0 (ya l) ?_))|refine auD ?_|(refine auW ?_ ?_<;>intro h<;>try exact auH)|(simp only [zA])
 refine lY (α:=Unit) (fun _=>[(⟨.d0,.d1,.d4⟩,.v (.int .i64 (wC l)))]) (fun _=>[]) (fun _=>Γ.g0+3) (fun _=>True) ?_ ?_
 ·by_cases h0:0<l.length
  ·have ez:=ui (hz h0).1
   have hw:IntKind.i64.wrap ((l.length:Int)-1)=((l.length-1:Nat):Int):=(IntWalk.i64_in _ (by omega)).trans (by omega)
   repeat' first|refine auS ?_|fail|refine auD ?_|(refine auW ?_ ?_<;>intro h<;>try exact auH)|(simp only [List.length_map,hw,Int.toNat_natCast,ez])
   all_goals try exact auP
   refine zo ⟨(),trivial,?_⟩
   refine zp ?_ ?_ (Nat.le_refl _)
   all_goals first|refine auE ?_|exact zJ
   all_goals repeat' first|exact trivial|exact rfl|apply And.intro
   exact zL (hz h0).2.symm
  ·skip
   repeat' first|refine auS ?_|fail|refine auD ?_|(refine auW ?_ ?_<;>intro h<;>try exact auH)|fail
   all_goals try exact auP
   all_goals (refine zo ⟨(),trivial,?_⟩)
   all_goals ((refine zp ?_ ?_ (Nat.le_refl _));(all_goals first|refine auE ?_|exact zJ);(all_goals (repeat' (first|exact trivial|exact rfl|apply And.intro))))
   all_goals (rw [List.eq_nil_of_length_eq_zero (show l.length=0 by omega)];rfl)
 rintro _ -
 refine auL ?_
 repeat' first|refine auS ?_|(first|(with_reducible refine z0 hroad ?_)|(with_reducible refine zB 10 (yt 10 l false hr) ?_)|((with_reducible refine z6 10 ?_ (hdel _) (fun _ _ _ h=>h) ?_);(exact rfl))|(simp only [g2,g16,g1,g4])|((with_reducible refine z6 5 ?_ (hpas _ _) (fun _ _ _ h=>h) ?_);(exact rfl))|((with_reducible refine z6 10 ?_ (hcut _) (fun _ _ _ h=>h) ?_);(exact rfl))|((with_reducible refine z6 10 ?_ (hp _) (fun _ _ _ h=>h) ?_);(exact rfl)))|refine auD ?_|(refine auW ?_ ?_<;>intro h<;>try exact auH)|(first|(simp only [Int.toNat_natCast,ex,Nat.zero_add,hw])|(refine z_ ⟨by (simp only [List.length_map];omega),by trivial⟩ ?_)|(refine z_ ⟨by trivial,by (unfold zW maxLen;simp only [List.length_map];omega)⟩ ?_)|fail)
 all_goals try exact auP
 ·have e:uT l a b c d now syn ack fin rst i t=(yng l now,false,0):=by
   unfold uT
   rw [if_neg (by simp_all),if_pos (by simpa using h)]
  refine zl (zi hW ⟨.d0,.d1,.d0⟩ rfl rfl ⟨rfl,rfl,by simp⟩) ?_
  have e0:rst=false:=by simp_all
  first|rw [e]|(rw [e0] at e;rw [e])
  simp only [zA]
  all_goals refine auV ?_
  all_goals try exact z9
  all_goals try simp only [hsM] at *
 ·exfalso;simp_all
 ·have e:uT l a b c d now syn ack fin rst i t=((yng l now).take i++(yng l now).drop (i+1)++[⟨t.a,t.b,t.c,t.d,(pas t.s t.o syn ack fin (opB t a b c d)).2.1,(pas t.s t.o syn ack fin (opB t a b c d)).2.2,now⟩],true,0):=by
   unfold uT
   rw [if_neg (by simp_all),if_neg (by simp_all)]
  refine zl (zi hW ⟨.d0,.d1,.d0⟩ rfl rfl ⟨rfl,rfl,by (simp;try omega)⟩) ?_
  have e0:rst=false:=by simp_all
  first|rw [e]|(rw [e0] at e;rw [e])
  rw [sa (by (simp;try omega))]
  rw [show List.map Tk.enc (List.take i (yng l now)++List.drop (i+1) (yng l now))++[[.v (.int .u32 t.a),.v (.int .u32 t.b),.v (.int .i64 t.c),.v (.int .i64 t.d),.v (.int .i64 (pas t.s t.o syn ack fin (opB t a b c d)).2.1),.v (.int .i64 (pas t.s t.o syn ack fin (opB t a b c d)).2.2),.v (.int .i64 now)]]=List.map Tk.enc (List.take i (yng l now)++List.drop (i+1) (yng l now)++[⟨t.a,t.b,t.c,t.d,(pas t.s t.o syn ack fin (opB t a b c d)).2.1,(pas t.s t.o syn ack fin (opB t a b c d)).2.2,now⟩]) from j6 _ ⟨t.a,t.b,t.c,t.d,(pas t.s t.o syn ack fin (opB t a b c d)).2.1,(pas t.s t.o syn ack fin (opB t a b c d)).2.2,now⟩]
  all_goals refine auV ?_
  all_goals try exact z9
  all_goals try simp only [hsM] at *
 ·have e:uT l a b c d now syn ack fin rst i t=((yng l now).take i++(yng l now).drop (i+1),true,0):=by
   unfold uT
   rw [if_pos (by simp_all)]
  refine zl (zi hW ⟨.d0,.d1,.d0⟩ rfl rfl ⟨rfl,rfl,by simp⟩) ?_
  have e0:rst=true:=by simp_all
  first|rw [e]|(rw [e0] at e;rw [e])
  simp only [zA]
  all_goals refine auV ?_
  all_goals try exact z9
  all_goals try simp only [hsM] at *
 ·exfalso;simp_all
end Go.Proofs.YtmibknbmhcnemaaGreatDoor.T
