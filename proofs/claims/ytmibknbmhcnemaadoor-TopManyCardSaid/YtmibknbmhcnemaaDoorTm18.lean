import Derived.Test.YtmibknbmhcnemaaDoorTm16
import Derived.Test.YtmibknbmhcnemaaDoorTm17
set_option linter.unusedVariables false
set_option linter.unusedSimpArgs false
namespace Go.Proofs.YtmibknbmhcnemaaDoor.T
attribute [local irreducible] zz Go
set_option maxRecDepth 100000
theorem yF {α:Type} (f:α→List DV) (l:List α):zx (zD (l.map f) 0) l.length=l.map f:=qd (by simp)
theorem lT (l:List Tk) (x:Tk):l.map Tk.enc++[x.enc]=(l++[x]).map Tk.enc:=by rw [List.map_append];rfl
abbrev yng (l:List Tk) (now:Int):List Tk:=l.filter (fun t=>!t.old now)
def xO:List Tk→Int
 |[]=>0
 |[t]=>t.x
 |_::y::r=>xO (y::r)
abbrev opB (t:Tk) (a b c d:Int):Bool:=decide (t.a=a)&&(decide (t.b=b)&&(decide (t.c=c)&&decide (t.d=d)))
def qY (l:List Tk) (a b c d fl now:Int):Bool:=ov a b c d&&decide ((0≤fl∧fl≤255)∧xO l≤now∧now≤1099511627776)
def rd (l:List Tk) (a b c d now:Int) (syn ack fin rst:Bool):List Tk×Bool×Int:=
 if (syn && !ack && !fin && !rst)=false then (yng l now,false,0) else if (yng l now).length=64 then (l,false,6) else (yng l now++[⟨a,b,c,d,1,0,now⟩],true,0)
def uL (l:List Tk) (a b c d now:Int) (syn ack fin rst:Bool) (i:Nat) (t:Tk):List Tk×Bool×Int:=
 if rst then ((yng l now).take i++(yng l now).drop (i+1),true,0)
 else if (pas t.s t.o syn ack fin (opB t a b c d)).1=false then (yng l now,false,0)
 else ((yng l now).take i++(yng l now).drop (i+1)++[⟨t.a,t.b,t.c,t.d,(pas t.s t.o syn ack fin (opB t a b c d)).2.1,(pas t.s t.o syn ack fin (opB t a b c d)).2.2,now⟩],true,0)
abbrev hD (r:List Tk×Bool×Int):DV:=.tup [.snap 7 (r.1.map Tk.enc) false,.v (.bool r.2.1),.v (.int .i64 r.2.2)]
theorem vl:∀(l:List Tk) (k:Nat) (t:Tk),l[k]?=some t→l.length=k+1→xO l=t.x
 |[],k,t,h,_=>by simp at h
 |[y],0,t,h,_=>by simp at h;rw [←h];rfl
 |[y],k+1,t,h,hl=>by simp at hl
 |y::z::r,0,t,h,hl=>by simp at hl
 |y::z::r,k+1,t,h,hl=>by
  rw [xO]
  exact vl (z::r) k t (by simpa using h) (by simpa using hl)
theorem lV {l:List Tk} (h:yR [] l=true):0≤xO l:=by
 rcases Nat.eq_zero_or_pos l.length with h0|h0
 ·rw [List.eq_nil_of_length_eq_zero h0];exact Int.le_refl 0
 ·obtain ⟨z,hz⟩:∃z,l[l.length-1]?=some z:=⟨_,List.getElem?_eq_getElem (by omega)⟩
  rw [vl l (l.length-1) z hz (by omega)]
  exact (pp (t7 h (List.mem_of_getElem? hz))).2.1
theorem qy (k:Nat) (l:List Tk) (hl:l.length≤maxLen) (n:Nat) (a b c d:Int):zy Tryd.prog 55 [.sl k n 7 0 l.length false,dR a b c d] [some ⟨n,7,l.map Tk.enc⟩] (fun D H=>D=.v (.int .i64 (ze (fun t=>t.along a b c d) l 0))∧H=[some ⟨n,7,l.map Tk.enc⟩]):=by
 refine zL k ?_
 have hi:=nJ 0 (g:=76) (caps:=[.rptr [.v (.int .u32 a),.v (.int .u32 b),.v (.int .i64 c),.v (.int .i64 d)]]) (fun t=>t.along a b c d) l hl n (fun t _=>qP t.a t.b t.c t.d t.s t.o t.x a b c d)
 refine zv {} 1 Tryd.func55 fun Γ hN0 hL0=>auC ?_
 have hn:n<Γ.g0:=hN0 0 _ rfl
 repeat' first|(refine zY (mT hL0 ⟨.d0,.d0,.d3⟩ (k:=0) rfl rfl ⟨rfl,rfl,Nat.succ_pos _⟩ rfl) ?_)|refine auS ?_|(with_reducible refine z7 0 ?_ hi (fun _ _ _ h=>h) ?_);(exact rfl)|refine auD ?_|(refine auW ?_ ?_<;>intro h<;>try exact auH)|fail
 exact yI trivial trivial rfl rfl hn (zj (fun x=>by simp [nfL,nfD])) rfl
theorem oV (t:Tk) (now:Int) (hx:0≤t.x∧t.x≤1099511627776) (hn:0≤now∧now≤1099511627776):zf Tryd.prog 94 [.agg t.enc,.rptr [.v (.int .i64 now)]] (.v (.bool (t.old now))):=by
 refine z4 {} 0 Tryd.func94 fun Γ hW=>auC ?_
 repeat' first|refine auS ?_|(with_reducible refine z0 (kh _ _ _ _ _ _ _ _ hx hn) ?_)|refine auD ?_|(refine auW ?_ ?_<;>intro h<;>try exact auH)|fail
 all_goals refine auV ?_
 all_goals try exact z_
 all_goals try simp only [hsM] at *
 rfl
set_option maxHeartbeats 2000000 in
theorem Za (l:List Tk) (a b c d fl now:Int) (hr:y7 l.length 48) (he:zV l≠0):zf Tryd.prog 85 [.snap 7 (l.map Tk.enc) false,dR a b c d,.v (.int .i64 fl),.v (.int .i64 now)] (hD (l,false,zV l)):=by
 refine z4 {} 0 Tryd.func85 fun Γ hW=>auC ?_
 repeat' first|(first|(refine zY (zK hW ⟨.d0,.d0,.d7⟩ rfl rfl ⟨rfl,rfl,Nat.succ_pos _⟩) ?_)|(refine zY (zi hW ⟨.d0,.d0,.d0⟩ rfl rfl ⟨rfl,rfl,by simp⟩) ?_))|refine auS ?_|(first|(with_reducible refine yc 10 (yf 10 l false hr) ?_)|(with_reducible refine z0 (zW l) ?_))|refine auD ?_|(refine auW ?_ ?_<;>intro h<;>try exact auH)|(simp only [yF])
 all_goals refine auV ?_
 all_goals try exact z_
 all_goals try simp only [hsM] at *
set_option maxHeartbeats 4000000 in
theorem cn (l:List Tk) (a b c d fl now:Int) (hr:y7 l.length 48) (he:zV l=0) (hb:qY l a b c d fl now=false):zf Tryd.prog 85 [.snap 7 (l.map Tk.enc) false,dR a b c d,.v (.int .i64 fl),.v (.int .i64 now)] (hD (l,false,1)):=by
 have hb':(ov a b c d=false)∨(ov a b c d=true∧¬((0≤fl∧fl≤255)∧xO l≤now∧now≤1099511627776)):=by
  unfold qY at hb
  cases hq:ov a b c d with
  |false=>exact .inl rfl
  |true=>rw [hq] at hb;exact .inr ⟨rfl,by simpa using hb⟩
 clear hb
 have hroad:=sb a b c d
 rcases hb' with hrb|⟨hrb,hb⟩
 all_goals
 rw [hrb] at hroad
 have hl:=(zB he).1
 have hz:∃z,(0<l.length→l[l.length-1]?=some z∧xO l=z.x):=by
  rcases Nat.eq_zero_or_pos l.length with h|h
  ·exact ⟨⟨0,0,0,0,0,0,0⟩,fun q=>by omega⟩
  ·obtain ⟨z,hz⟩:∃z,l[l.length-1]?=some z:=⟨_,List.getElem?_eq_getElem (by omega)⟩
   exact ⟨z,fun _=>⟨hz,vl l (l.length-1) z hz (by omega)⟩⟩
 obtain ⟨z,hz⟩:=hz
 refine z4 {} 0 Tryd.func85 fun Γ hW=>auC ?_
 repeat' first|(first|(refine zY (zK hW ⟨.d0,.d0,.d7⟩ rfl rfl ⟨rfl,rfl,Nat.succ_pos _⟩) ?_)|(refine zY (zi hW ⟨.d0,.d0,.d0⟩ rfl rfl ⟨rfl,rfl,by simp⟩) ?_))|refine fZ ?_|(first|(with_reducible refine yc 10 (yf 10 l false hr) ?_)|(with_reducible refine z0 (zW l) ?_))|refine auD ?_|(refine auW ?_ ?_<;>intro h<;>try exact auH)|(simp only [yF])
 refine wA ?_
 repeat' first|fail|refine fZ ?_|(first|(with_reducible refine yc 10 (yf 10 l false hr) ?_)|(with_reducible refine z0 (zW l) ?_))|refine auD ?_|(refine auW ?_ ?_<;>intro h<;>try exact auH)|(simp only [yF])
 refine lx (α:=Unit) (fun _=>[(⟨.d0,.d1,.d4⟩,.v (.int .i64 (xO l)))]) (fun _=>[]) (fun _=>Γ.g0+3) (fun _=>True) ?_ ?_
 ·by_cases h0:0<l.length
  ·have ez:=vZ (hz h0).1
   have hw:IntKind.i64.wrap ((l.length:Int)-1)=((l.length-1:Nat):Int):=(IntWalk.i64_in _ (by omega)).trans (by omega)
   repeat' first|refine auS ?_|fail|refine auD ?_|(refine auW ?_ ?_<;>intro h<;>try exact auH)|(simp only [List.length_map,hw,Int.toNat_natCast,ez])
   all_goals try exact auP
   refine zp ⟨(),trivial,?_⟩
   refine zt ?_ ?_ (Nat.le_refl _)
   all_goals first|refine auE ?_|exact zR
   all_goals repeat' first|exact trivial|exact rfl|apply And.intro
   exact y8 (hz h0).2.symm
  ·skip
   repeat' first|refine auS ?_|fail|refine auD ?_|(refine auW ?_ ?_<;>intro h<;>try exact auH)|fail
   all_goals try exact auP
   all_goals (refine zp ⟨(),trivial,?_⟩)
   all_goals ((refine zt ?_ ?_ (Nat.le_refl _));(all_goals first|refine auE ?_|exact zR);(all_goals (repeat' (first|exact trivial|exact rfl|apply And.intro))))
   all_goals (rw [List.eq_nil_of_length_eq_zero (show l.length=0 by omega)];rfl)
 rintro _ -
 refine auL ?_
 repeat' first|refine auS ?_|(with_reducible refine z0 hroad ?_)|refine auD ?_|(refine auW ?_ ?_<;>intro h<;>try exact auH)|fail
 all_goals try exact auP
 all_goals refine auV ?_
 all_goals try exact z_
 all_goals try simp only [hsM] at *
set_option maxHeartbeats 4000000 in
theorem gN (l:List Tk) (a b c d fl now:Int) (hr:y7 l.length 48) (he:zV l=0) (hb:qY l a b c d fl now=true) (syn ack fin rst:Bool) (hf:tZ fl syn ack fin rst) (hidx:ze (fun t=>t.along a b c d) (yng l now) 0 = -1):zf Tryd.prog 85 [.snap 7 (l.map Tk.enc) false,dR a b c d,.v (.int .i64 fl),.v (.int .i64 now)] (hD (rd l a b c d now syn ack fin rst)):=by
 have hlx:0≤xO l:=lV (zB he).2
 unfold qY at hb
 simp only [Bool.and_eq_true,decide_eq_true_eq] at hb
 have hyl:(yng l now).length≤l.length:=List.length_filter_le _ _
 have hp:=fun n=>qy 10 (yng l now) (by have:=(zB he).1;unfold maxLen;omega) n a b c d
 simp only [hidx] at hp
 have hg:∀t∈l,zf Tryd.prog 94 [.agg t.enc,.rptr [.v (.int .i64 now)]] (.v (.bool (t.old now))):=fun t ht=>oV t now (pp (t7 (zB he).2 ht)).2 (by omega)
 have hdel:=fun n=>tI 10 (caps:=[.rptr [.v (.int .i64 now)]]) (fun t=>t.old now) l (by have:=(zB he).1;unfold maxLen;omega) n hg
 obtain ⟨f2,f16,f1,f4,-⟩:=hf
 have g2:(!decide (bits .and .i64 fl 2=0))=syn:=by rw [f2];cases syn<;>rfl
 have g16:(!decide (bits .and .i64 fl 16=0))=ack:=by rw [f16];cases ack<;>rfl
 have g1:(!decide (bits .and .i64 fl 1=0))=fin:=by rw [f1];cases fin<;>rfl
 have g4:(!decide (bits .and .i64 fl 4=0))=rst:=by rw [f4];cases rst<;>rfl
 have hroad:=sb a b c d
 rw [hb.1] at hroad
 have hl:=(zB he).1
 have hz:∃z,(0<l.length→l[l.length-1]?=some z∧xO l=z.x):=by
  rcases Nat.eq_zero_or_pos l.length with h|h
  ·exact ⟨⟨0,0,0,0,0,0,0⟩,fun q=>by omega⟩
  ·obtain ⟨z,hz⟩:∃z,l[l.length-1]?=some z:=⟨_,List.getElem?_eq_getElem (by omega)⟩
   exact ⟨z,fun _=>⟨hz,vl l (l.length-1) z hz (by omega)⟩⟩
 obtain ⟨z,hz⟩:=hz
 refine z4 {} 0 Tryd.func85 fun Γ hW=>auC ?_
 repeat' first|(first|(refine zY (zK hW ⟨.d0,.d0,.d7⟩ rfl rfl ⟨rfl,rfl,Nat.succ_pos _⟩) ?_)|(refine zY (zi hW ⟨.d0,.d0,.d0⟩ rfl rfl ⟨rfl,rfl,by simp⟩) ?_))|refine fZ ?_|(first|(with_reducible refine yc 10 (yf 10 l false hr) ?_)|(with_reducible refine z0 (zW l) ?_))|refine auD ?_|(refine auW ?_ ?_<;>intro h<;>try exact auH)|(simp only [yF])
 refine wA ?_
 repeat' first|fail|refine fZ ?_|(first|(with_reducible refine yc 10 (yf 10 l false hr) ?_)|(with_reducible refine z0 (zW l) ?_))|refine auD ?_|(refine auW ?_ ?_<;>intro h<;>try exact auH)|(simp only [yF])
 refine lx (α:=Unit) (fun _=>[(⟨.d0,.d1,.d4⟩,.v (.int .i64 (xO l)))]) (fun _=>[]) (fun _=>Γ.g0+3) (fun _=>True) ?_ ?_
 ·by_cases h0:0<l.length
  ·have ez:=vZ (hz h0).1
   have hw:IntKind.i64.wrap ((l.length:Int)-1)=((l.length-1:Nat):Int):=(IntWalk.i64_in _ (by omega)).trans (by omega)
   repeat' first|refine auS ?_|fail|refine auD ?_|(refine auW ?_ ?_<;>intro h<;>try exact auH)|(simp only [List.length_map,hw,Int.toNat_natCast,ez])
   all_goals try exact auP
   refine zp ⟨(),trivial,?_⟩
   refine zt ?_ ?_ (Nat.le_refl _)
   all_goals first|refine auE ?_|exact zR
   all_goals repeat' first|exact trivial|exact rfl|apply And.intro
   exact y8 (hz h0).2.symm
  ·skip
   repeat' first|refine auS ?_|fail|refine auD ?_|(refine auW ?_ ?_<;>intro h<;>try exact auH)|fail
   all_goals try exact auP
   all_goals (refine zp ⟨(),trivial,?_⟩)
   all_goals ((refine zt ?_ ?_ (Nat.le_refl _));(all_goals first|refine auE ?_|exact zR);(all_goals (repeat' (first|exact trivial|exact rfl|apply And.intro))))
   all_goals (rw [List.eq_nil_of_length_eq_zero (show l.length=0 by omega)];rfl)
 rintro _ -
 refine auL ?_
 repeat' first|refine auS ?_|(first|(with_reducible refine z0 hroad ?_)|(with_reducible refine yc 10 (yf 10 l false hr) ?_)|((with_reducible refine z7 10 ?_ (hdel _) (fun _ _ _ h=>h) ?_);(exact rfl))|(simp only [g2,g16,g1,g4])|((with_reducible refine z7 10 ?_ (hp _) (fun _ _ _ h=>h) ?_);(exact rfl)))|refine auD ?_|(refine auW ?_ ?_<;>intro h<;>try exact auH)|fail
 all_goals try exact auP
 ·refine zw (zi hW ⟨.d0,.d1,.d0⟩ rfl rfl ⟨rfl,rfl,by simp⟩) ?_
  simp only [yF]
  all_goals refine auV ?_
  all_goals try exact z_
  all_goals try simp only [hsM] at *
  all_goals (cases syn<;>cases ack<;>cases fin<;>cases rst<;>first|rfl|(exfalso;simp_all;done))
 ·have e:rd l a b c d now syn ack fin rst=(l,false,6):=by
   have q:(List.filter (fun t=>!t.old now) l).length=64:=by (simp only [hsL,reduceCtorEq] at *<;>omega)
   unfold rd
   rw [if_neg (by cases syn<;>cases ack<;>cases fin<;>cases rst<;>simp_all),if_pos q]
  rw [e]
  all_goals refine auV ?_
  all_goals try exact z_
  all_goals try simp only [hsM] at *
 ·refine zw (zi hW ⟨.d0,.d1,.d0⟩ rfl rfl ⟨rfl,rfl,by simp⟩) ?_
  have e:rd l a b c d now syn ack fin rst=(yng l now++[⟨a,b,c,d,1,0,now⟩],true,0):=by
   have q:¬(List.filter (fun t=>!t.old now) l).length=64:=by (simp only [hsL,reduceCtorEq] at *<;>omega)
   unfold rd
   rw [if_neg (by cases syn<;>cases ack<;>cases fin<;>cases rst<;>simp_all),if_neg q]
  rw [e,qd (by simp)]
  ·rw [show List.map Tk.enc (yng l now)++[[.v (.int .u32 a),.v (.int .u32 b),.v (.int .i64 c),.v (.int .i64 d),.v (.int .i64 1),.v (.int .i64 0),.v (.int .i64 now)]]=List.map Tk.enc (yng l now++[⟨a,b,c,d,1,0,now⟩]) from lT _ ⟨a,b,c,d,1,0,now⟩]
   all_goals refine auV ?_
   all_goals try exact z_
   all_goals try simp only [hsM] at *
set_option maxHeartbeats 4000000 in
theorem gJ (l:List Tk) (a b c d fl now:Int) (hr:y7 l.length 48) (he:zV l=0) (hb:qY l a b c d fl now=true) (syn ack fin rst:Bool) (hf:tZ fl syn ack fin rst) (i:Nat) (t:Tk) (hi:(yng l now)[i]?=some t) (hidx:ze (fun t=>t.along a b c d) (yng l now) 0=i):zf Tryd.prog 85 [.snap 7 (l.map Tk.enc) false,dR a b c d,.v (.int .i64 fl),.v (.int .i64 now)] (hD (uL l a b c d now syn ack fin rst i t)):=by
 have hlx:0≤xO l:=lV (zB he).2
 unfold qY at hb
 simp only [Bool.and_eq_true,decide_eq_true_eq] at hb
 have hyl:(yng l now).length≤l.length:=List.length_filter_le _ _
 have hp:=fun n=>qy 10 (yng l now) (by have:=(zB he).1;unfold maxLen;omega) n a b c d
 simp only [hidx] at hp
 have hg:∀t∈l,zf Tryd.prog 94 [.agg t.enc,.rptr [.v (.int .i64 now)]] (.v (.bool (t.old now))):=fun t ht=>oV t now (pp (t7 (zB he).2 ht)).2 (by omega)
 have hdel:=fun n=>tI 10 (caps:=[.rptr [.v (.int .i64 now)]]) (fun t=>t.old now) l (by have:=(zB he).1;unfold maxLen;omega) n hg
 obtain ⟨f2,f16,f1,f4,-⟩:=hf
 have g2:(!decide (bits .and .i64 fl 2=0))=syn:=by rw [f2];cases syn<;>rfl
 have g16:(!decide (bits .and .i64 fl 16=0))=ack:=by rw [f16];cases ack<;>rfl
 have g1:(!decide (bits .and .i64 fl 1=0))=fin:=by rw [f1];cases fin<;>rfl
 have g4:(!decide (bits .and .i64 fl 4=0))=rst:=by rw [f4];cases rst<;>rfl
 have hil:i<(List.filter (fun t=>!t.old now) l).length:=(List.getElem?_eq_some_iff.1 hi).1
 have hil2:i<(yng l now).length:=hil
 have ex:=vZ hi
 have hw:IntKind.i64.wrap ((i:Int)+1)=((i+1:Nat):Int):=(IntWalk.i64_in _ (by have:=(zB he).1;omega)).trans (by omega)
 have hpas:=fun n op=>xQ 5 (kj n t.a t.b t.c t.d t.s t.o t.x syn ack fin rst op)
 have hcl:(List.take i (yng l now)++List.drop (i+1) (yng l now)).length≤64:=by have:=(zB he).1;rw [List.length_append,List.length_take,List.length_drop];omega
 have hcut:=fun n=>nB 10 (yng l now) i (i+1) (by omega) (by omega) (by have:=(zB he).1;unfold maxLen;omega) n
 have hroad:=sb a b c d
 rw [hb.1] at hroad
 have hl:=(zB he).1
 have hz:∃z,(0<l.length→l[l.length-1]?=some z∧xO l=z.x):=by
  rcases Nat.eq_zero_or_pos l.length with h|h
  ·exact ⟨⟨0,0,0,0,0,0,0⟩,fun q=>by omega⟩
  ·obtain ⟨z,hz⟩:∃z,l[l.length-1]?=some z:=⟨_,List.getElem?_eq_getElem (by omega)⟩
   exact ⟨z,fun _=>⟨hz,vl l (l.length-1) z hz (by omega)⟩⟩
 obtain ⟨z,hz⟩:=hz
 refine z4 {} 0 Tryd.func85 fun Γ hW=>auC ?_
 repeat' first|(first|(refine zY (zK hW ⟨.d0,.d0,.d7⟩ rfl rfl ⟨rfl,rfl,Nat.succ_pos _⟩) ?_)|(refine zY (zi hW ⟨.d0,.d0,.d0⟩ rfl rfl ⟨rfl,rfl,by simp⟩) ?_))|refine fZ ?_|(first|(with_reducible refine yc 10 (yf 10 l false hr) ?_)|(with_reducible refine z0 (zW l) ?_))|refine auD ?_|(refine auW ?_ ?_<;>intro h<;>try exact auH)|(simp only [yF])
 refine wA ?_
 repeat' first|fail|refine fZ ?_|(first|(with_reducible refine yc 10 (yf 10 l false hr) ?_)|(with_reducible refine z0 (zW l) ?_))|refine auD ?_|(refine auW ?_ ?_<;>intro h<;>try exact auH)|(simp only [yF])
 refine lx (α:=Unit) (fun _=>[(⟨.d0,.d1,.d4⟩,.v (.int .i64 (xO l)))]) (fun _=>[]) (fun _=>Γ.g0+3) (fun _=>True) ?_ ?_
 ·by_cases h0:0<l.length
  ·have ez:=vZ (hz h0).1
   have hw:IntKind.i64.wrap ((l.length:Int)-1)=((l.length-1:Nat):Int):=(IntWalk.i64_in _ (by omega)).trans (by omega)
   repeat' first|refine auS ?_|fail|refine auD ?_|(refine auW ?_ ?_<;>intro h<;>try exact auH)|(simp only [List.length_map,hw,Int.toNat_natCast,ez])
   all_goals try exact auP
   refine zp ⟨(),trivial,?_⟩
   refine zt ?_ ?_ (Nat.le_refl _)
   all_goals first|refine auE ?_|exact zR
   all_goals repeat' first|exact trivial|exact rfl|apply And.intro
   exact y8 (hz h0).2.symm
  ·skip
   repeat' first|refine auS ?_|fail|refine auD ?_|(refine auW ?_ ?_<;>intro h<;>try exact auH)|fail
   all_goals try exact auP
   all_goals (refine zp ⟨(),trivial,?_⟩)
   all_goals ((refine zt ?_ ?_ (Nat.le_refl _));(all_goals first|refine auE ?_|exact zR);(all_goals (repeat' (first|exact trivial|exact rfl|apply And.intro))))
   all_goals (rw [List.eq_nil_of_length_eq_zero (show l.length=0 by omega)];rfl)
 rintro _ -
 refine auL ?_
 repeat' first|refine auS ?_|(first|(with_reducible refine z0 hroad ?_)|(with_reducible refine yc 10 (yf 10 l false hr) ?_)|((with_reducible refine z7 10 ?_ (hdel _) (fun _ _ _ h=>h) ?_);(exact rfl))|(simp only [g2,g16,g1,g4])|((with_reducible refine z7 5 ?_ (hpas _ _) (fun _ _ _ h=>h) ?_);(exact rfl))|((with_reducible refine z7 10 ?_ (hcut _) (fun _ _ _ h=>h) ?_);(exact rfl))|((with_reducible refine z7 10 ?_ (hp _) (fun _ _ _ h=>h) ?_);(exact rfl)))|refine auD ?_|(refine auW ?_ ?_<;>intro h<;>try exact auH)|(first|(simp only [Int.toNat_natCast,ex,Nat.zero_add,hw])|(refine za ⟨by (simp only [List.length_map];omega),by trivial⟩ ?_)|(refine za ⟨by trivial,by (unfold y7 maxLen;simp only [List.length_map];omega)⟩ ?_)|fail)
 all_goals try exact auP
 ·have e:uL l a b c d now syn ack fin rst i t=(yng l now,false,0):=by
   unfold uL
   rw [if_neg (by simp_all),if_pos (by simpa using h)]
  refine zw (zi hW ⟨.d0,.d1,.d0⟩ rfl rfl ⟨rfl,rfl,by simp⟩) ?_
  have e0:rst=false:=by simp_all
  first|rw [e]|(rw [e0] at e;rw [e])
  simp only [yF]
  all_goals refine auV ?_
  all_goals try exact z_
  all_goals try simp only [hsM] at *
 ·exfalso;simp_all
 ·have e:uL l a b c d now syn ack fin rst i t=((yng l now).take i++(yng l now).drop (i+1)++[⟨t.a,t.b,t.c,t.d,(pas t.s t.o syn ack fin (opB t a b c d)).2.1,(pas t.s t.o syn ack fin (opB t a b c d)).2.2,now⟩],true,0):=by
   unfold uL
   rw [if_neg (by simp_all),if_neg (by simp_all)]
  refine zw (zi hW ⟨.d0,.d1,.d0⟩ rfl rfl ⟨rfl,rfl,by (simp;try omega)⟩) ?_
  have e0:rst=false:=by simp_all
  first|rw [e]|(rw [e0] at e;rw [e])
  rw [qd (by (simp;try omega))]
  rw [show List.map Tk.enc (List.take i (yng l now)++List.drop (i+1) (yng l now))++[[.v (.int .u32 t.a),.v (.int .u32 t.b),.v (.int .i64 t.c),.v (.int .i64 t.d),.v (.int .i64 (pas t.s t.o syn ack fin (opB t a b c d)).2.1),.v (.int .i64 (pas t.s t.o syn ack fin (opB t a b c d)).2.2),.v (.int .i64 now)]]=List.map Tk.enc (List.take i (yng l now)++List.drop (i+1) (yng l now)++[⟨t.a,t.b,t.c,t.d,(pas t.s t.o syn ack fin (opB t a b c d)).2.1,(pas t.s t.o syn ack fin (opB t a b c d)).2.2,now⟩]) from lT _ ⟨t.a,t.b,t.c,t.d,(pas t.s t.o syn ack fin (opB t a b c d)).2.1,(pas t.s t.o syn ack fin (opB t a b c d)).2.2,now⟩]
  all_goals refine auV ?_
  all_goals try exact z_
  all_goals try simp only [hsM] at *
 ·have e:uL l a b c d now syn ack fin rst i t=((yng l now).take i++(yng l now).drop (i+1),true,0):=by
   unfold uL
   rw [if_pos (by simp_all)]
  refine zw (zi hW ⟨.d0,.d1,.d0⟩ rfl rfl ⟨rfl,rfl,by simp⟩) ?_
  have e0:rst=true:=by simp_all
  first|rw [e]|(rw [e0] at e;rw [e])
  simp only [yF]
  all_goals refine auV ?_
  all_goals try exact z_
  all_goals try simp only [hsM] at *
 ·exfalso;simp_all
end Go.Proofs.YtmibknbmhcnemaaDoor.T
