import Derived.Test.YtmibknbmhcnemaaGreatDoorHb28
set_option linter.unusedVariables false
set_option linter.unusedSimpArgs false
namespace Go.Proofs.YtmibknbmhcnemaaGreatDoor
attribute [local irreducible] zF Go
set_option maxRecDepth 100000
set_option maxHeartbeats 1000000 in
theorem U7 (c:Int) (l:List Int) (fu:Bool) (n:Nat) (hev:l.length % 2=0) (hl:l.length≤1000) (hx:∀x∈l,0≤x∧x≤65535) (hc:0≤c∧c≤65535):zR Tryz.prog 138 [.v (.int .i64 c),.sl 0 n 1 0 l.length fu] [some ⟨n,1,l.map wv⟩] (fun d H=>d=.v (.int .i64 (uA c l))∧H=[some ⟨n,1,l.map wv⟩]):=by
 refine zY {} 0 Tryz.func138 fun Γ hN0 hL0=>auC ?_
 have hn:n<Γ.g0:=hN0 0 _ rfl
 repeat' first|refine auS ?_|fail|refine auD ?_|(refine auW ?_ ?_<;>intro h<;>try exact auH)|fail
 refine ze (α:=Nat×Int) (fun x=>[(⟨.d0,.d0,.d5⟩,.v (.int .i64 (x.1:Nat))),(⟨.d0,.d0,.d0⟩,.v (.int .i64 x.2))]) (fun _=>[]) (fun _=>Γ.g0) (fun x=>l.length-x.1) (fun x=>x.1 % 2=0∧x.1≤l.length∧(0≤x.2∧x.2≤65535)∧uA x.2 (l.drop x.1)=uA c l) (0,c) ⟨rfl,Nat.zero_le _,hc,rfl⟩ ?_ ?_
 ·skip
  refine zb ?_ ?_ (Nat.le_refl _)
  all_goals first|refine auE ?_|exact zi
  all_goals repeat' first|exact trivial|exact rfl|apply And.intro
 rintro ⟨i,x⟩ ⟨hi2,hi,hxb,hf⟩
 dsimp only at hi2 hi hxb hf ⊢
 refine auL ?_
 by_cases hlt:i<l.length
 ·have hlt1:i+1<l.length:=by omega
  obtain ⟨o,ho⟩:∃o,l[i]?=some o:=⟨_,List.getElem?_eq_getElem hlt⟩
  obtain ⟨w,hw⟩:∃w,l[i+1]?=some w:=⟨_,List.getElem?_eq_getElem hlt1⟩
  have y0:=zT wv l i o ho
  have y1:=zT wv l (i+1) w hw
  have bo:=hx o (List.mem_of_getElem? ho)
  have bw:=hx w (List.mem_of_getElem? hw)
  have hdr:l.drop i=o::w::l.drop (i+2):=by
   rw [List.drop_eq_getElem_cons hlt,List.drop_eq_getElem_cons hlt1]
   congr 1
   ·exact Option.some.inj ((List.getElem?_eq_getElem hlt).symm.trans ho)
   congr 1
   exact Option.some.inj ((List.getElem?_eq_getElem hlt1).symm.trans hw)
  rw [hdr,uA] at hf
  have hfb:=sy x o w hxb.2 bo.2 bw.1
  have e1:IntKind.i64.wrap (65535-x)=65535-x:=IntWalk.i64_in _ (by omega)
  have e2:IntKind.i64.wrap (65535-o)=65535-o:=IntWalk.i64_in _ (by omega)
  have hb1:=xE (65535-x+(65535-o)) (by omega)
  have he1:=wn (65535-x) (65535-o) (by omega) (by omega)
  have he2:=wn (zL (65535-x+(65535-o))) w hb1 bw
  rw [rX _ _ (by omega) bw.1] at he2
  have e3:IntKind.i64.wrap (65535-zL (65535-x+(65535-o)+w))=r9 x o w:=IntWalk.i64_in _ (by unfold r9 at hfb;omega)
  have ei:IntKind.i64.wrap ((i:Int)+1)=((i+1:Nat):Int):=by rw [IntWalk.i64_in _ (by omega)];omega
  repeat' first|refine auS ?_|(first|(simp only [ei,Int.toNat_natCast,Nat.zero_add,y0,y1])|(simp only [e1,e2])|(simp only [e3])|(with_reducible refine z0 he1 ?_)|(with_reducible refine z0 he2 ?_))|refine auD ?_|(refine auW ?_ ?_<;>intro h<;>try exact auH)|fail
  all_goals try exact auP
  refine za ⟨(i+2,r9 x o w),⟨by dsimp only;omega,by dsimp only;omega,hfb,hf⟩,by dsimp only;omega,?_⟩
  refine zb ?_ ?_ (Nat.le_refl _)
  all_goals first|refine auE ?_|exact zi
  all_goals repeat' first|exact trivial|exact rfl|apply And.intro
  all_goals exact zB ((IntWalk.i64_in _ (by omega)).trans (by omega))
 ·obtain rfl:i=l.length:=by omega
  rw [List.drop_length,uA] at hf
  ·rw [←hf]
   repeat' first|refine auS ?_|fail|refine auD ?_|(refine auW ?_ ?_<;>intro h<;>try exact auH)|fail
   all_goals try exact auP
   refine xp trivial trivial ?_ rfl hn (zn (fun x=>by simp [nfL,nfD])) rfl
   rfl
  ·intro o n r q;cases q
theorem cB (c:Int) (l:List Int) (fu:Bool) (k n:Nat) (hev:l.length % 2=0) (hl:l.length≤1000) (hx:∀x∈l,0≤x∧x≤65535) (hc:0≤c∧c≤65535):zR Tryz.prog 138 [.v (.int .i64 c),.sl k n 1 0 l.length fu] [some ⟨n,1,l.map wv⟩] (fun d H=>d=.v (.int .i64 (uA c l))∧H=[some ⟨n,1,l.map wv⟩]):=by
 refine sN (U7 c l fu n hev hl hx hc) (fun K w vs hv=>gz hv rfl (fun i d e h1 h2 v hv=>?_))
 match i,h1,h2 with
 |0,h1,h2=>
  obtain rfl:=Option.some.inj h1
  obtain rfl:=Option.some.inj h2
  exact hv
 |1,h1,h2=>
  obtain rfl:=Option.some.inj h1
  obtain rfl:=Option.some.inj h2
  exact vh hv
 |i+2,h1,_=>simp at h1
theorem ZR (c a1 a2 a3 a4:Int) (fu:Bool) (k n:Nat) (hx:∀x∈[a1,a2,a3,a4],0≤x∧x≤65535) (hc:0≤c∧c≤65535):zR Tryz.prog 138 [.v (.int .i64 c),.sl k n 1 0 4 fu] [some ⟨n,1,[[.v (.int .i64 a1)],[.v (.int .i64 a2)],[.v (.int .i64 a3)],[.v (.int .i64 a4)]]⟩] (fun d H=>d=.v (.int .i64 (uA c [a1,a2,a3,a4]))∧H=[some ⟨n,1,[[.v (.int .i64 a1)],[.v (.int .i64 a2)],[.v (.int .i64 a3)],[.v (.int .i64 a4)]]⟩]):=
 cB c [a1,a2,a3,a4] fu k n (show 4 % 2=0 by decide) (show 4≤1000 by decide) hx hc
theorem ZF (c a1 a2 a3 a4 a5 a6:Int) (fu:Bool) (k n:Nat) (hx:∀x∈[a1,a2,a3,a4,a5,a6],0≤x∧x≤65535) (hc:0≤c∧c≤65535):zR Tryz.prog 138 [.v (.int .i64 c),.sl k n 1 0 6 fu] [some ⟨n,1,[[.v (.int .i64 a1)],[.v (.int .i64 a2)],[.v (.int .i64 a3)],[.v (.int .i64 a4)],[.v (.int .i64 a5)],[.v (.int .i64 a6)]]⟩] (fun d H=>d=.v (.int .i64 (uA c [a1,a2,a3,a4,a5,a6]))∧H=[some ⟨n,1,[[.v (.int .i64 a1)],[.v (.int .i64 a2)],[.v (.int .i64 a3)],[.v (.int .i64 a4)],[.v (.int .i64 a5)],[.v (.int .i64 a6)]]⟩]):=
 cB c [a1,a2,a3,a4,a5,a6] fu k n (show 6 % 2=0 by decide) (show 6≤1000 by decide) hx hc
def rnR (s:List UInt8) (a port:Int) (at' off:Nat):List UInt8×Int:=
 if ¬(edR s).2=0 then ([],(edR s).2)
 else if ¬(0≤port∧port≤65535) then ([],1)
 else ((rnW s (hN s) (bN s 9:Nat) a port at' off).take (pL s),0)
theorem xtE (l:List UInt8) (j:Nat):(mkS l).extract 0 j=mkS (l.take j):=by rw [zS];rfl
theorem xdE (l:List UInt8) (i:Nat):(mkS l).extract i l.length=mkS (l.drop i):=by rw [zS,List.take_of_length_le (by simp)]
set_option maxHeartbeats 4000000 in
theorem oK (s:List UInt8) (a port:Int) (fr:Bool) (hs:s.length≤140737488351232) (hb:¬(edR s).2=0∨¬(0≤port∧port≤65535)) (at' off:Nat):zd Tryz.prog 87 [.v (.string (mkS s)),.v (.int .u32 a),.v (.int .i64 port),.v (.bool fr)] (.tup [.v (.string (mkS (rnR s a port at' off).1)),.v (.int .i64 (rnR s a port at' off).2)]):=by
 have he:=tN s hs
 by_cases h1:(edR s).2=0
 rotate_left
 ·have e:rnR s a port at' off=([],(edR s).2):=by unfold rnR;rw [if_pos h1]
  rw [e]
  clear e hb
  generalize edR s=r at *
  obtain ⟨f,e⟩:=r
  dsimp only at *
  refine z4 {} 0 Tryz.func87 fun Γ hW=>auC ?_
  repeat' first|refine auS ?_|(first|(simp only [z5,zj,zf,Int.toNat_natCast])|(simp only [c0,c4,cs])|(simp only [x1,x2])|(simp only [k1,k2,k3,k4,k5,k6])|(simp only [xtE])|(simp only [xdE])|(simp only [x3])|(simp only [hA])|(simp only [hB])|(simp only [e18,e8])|(with_reducible refine z0 (z6 _ _ _) ?_)|(with_reducible refine z0 he ?_)|(with_reducible refine z0 h2 ?_)|(with_reducible refine z0 w10 ?_)|(with_reducible refine z0 ht ?_)|(with_reducible refine z0 hq ?_)|(with_reducible refine z0 ha ?_)|(with_reducible refine z0 wB ?_)|(with_reducible refine z0 hc ?_)|((with_reducible refine z9 1 ?_ (hf1 _) (fun _ _ _ h=>h) ?_);(exact rfl))|((with_reducible refine z9 3 ?_ (hf2 _ _) (fun _ _ _ h=>h) ?_);(exact rfl)))|refine auD ?_|(refine auW ?_ ?_<;>intro h<;>try exact auH)|(first|(refine z7 (by simp only [z5,List.length_append,List.length_take,List.length_drop,zE,zW];omega) ?_)|(refine z7 (by omega) ?_)|fail)
  all_goals try exact auP
  all_goals first
   |(exfalso;simp_all;done)
   |skip
  all_goals refine auV ?_
  all_goals try exact z8
  all_goals try simp only [hsM] at *
  all_goals rfl
 ·have h3:=hb.resolve_left (not_not_intro h1)
  have e:rnR s a port at' off=([],1):=by unfold rnR;rw [if_neg (not_not_intro h1),if_pos h3]
  rw [e]
  clear e hb
  generalize edR s=r at *
  obtain ⟨f,e⟩:=r
  dsimp only at *
  subst h1
  refine z4 {} 0 Tryz.func87 fun Γ hW=>auC ?_
  repeat' first|refine auS ?_|(first|(simp only [z5,zj,zf,Int.toNat_natCast])|(simp only [c0,c4,cs])|(simp only [x1,x2])|(simp only [k1,k2,k3,k4,k5,k6])|(simp only [xtE])|(simp only [xdE])|(simp only [x3])|(simp only [hA])|(simp only [hB])|(simp only [e18,e8])|(with_reducible refine z0 (z6 _ _ _) ?_)|(with_reducible refine z0 he ?_)|(with_reducible refine z0 h2 ?_)|(with_reducible refine z0 w10 ?_)|(with_reducible refine z0 ht ?_)|(with_reducible refine z0 hq ?_)|(with_reducible refine z0 ha ?_)|(with_reducible refine z0 wB ?_)|(with_reducible refine z0 hc ?_)|((with_reducible refine z9 1 ?_ (hf1 _) (fun _ _ _ h=>h) ?_);(exact rfl))|((with_reducible refine z9 3 ?_ (hf2 _ _) (fun _ _ _ h=>h) ?_);(exact rfl)))|refine auD ?_|(refine auW ?_ ?_<;>intro h<;>try exact auH)|(first|(refine z7 (by simp only [z5,List.length_append,List.length_take,List.length_drop,zE,zW];omega) ?_)|(refine z7 (by omega) ?_)|fail)
  all_goals try exact auP
  all_goals first
   |(exfalso;simp_all;done)
   |skip
  all_goals refine auV ?_
  all_goals try exact z8
  all_goals try simp only [hsM] at *
  all_goals rfl
end Go.Proofs.YtmibknbmhcnemaaGreatDoor
