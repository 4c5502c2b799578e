import Derived.Test.YtmibknbmhcnemaaGreatDoorTw46
import Derived.Test.YtmibknbmhcnemaaGreatDoorTw48
set_option linter.unusedVariables false
set_option linter.unusedSimpArgs false
namespace Go.Proofs.YtmibknbmhcnemaaGreatDoor
attribute [local irreducible] zu Go
set_option maxRecDepth 100000
def plO:R.Pl:=⟨3325256705,1024,2048,100,100000,1000000,[],true⟩
theorem qq:zc Tryz.prog 28 [] (R.dPl plO false):=by
 refine xN (D:=.agg [.v (.int .u32 3325256705),.v (.int .i64 1024),.v (.int .i64 2048),.v (.int .i64 100),.v (.int .i64 100000),.v (.int .i64 1000000),.v (.slice none 0 0),.v (.bool true)]) ?_ ⟨.inl rfl,.inl rfl,.inl rfl,.inl rfl,.inl rfl,.inl rfl,.inr ⟨rfl,10,rfl⟩,.inl rfl,rfl⟩
 refine z3 {} 0 Tryz.func28 fun Γ hW=>auC ?_
 repeat' first|refine auS ?_|fail|refine auD ?_|(refine auW ?_ ?_<;>intro h<;>try exact auH)|fail
 all_goals try exact auP
 all_goals refine auV ?_
 all_goals try exact z9
 all_goals try simp only [hsM] at *
 all_goals rfl
def pkL (a b:Int) (d:List UInt8):Pk:=⟨0,0,false,false,0,9,17,a,b,[],d⟩
def ai (f t:Int) (d:List UInt8) (a b:Int):List UInt8×Bool:=((pW (pkL a b (sJ f t d a b).1)).1,decide ((sJ f t d a b).2=0)&&decide ((pW (pkL a b (sJ f t d a b).1)).2=0))
theorem am (f t:Int) (d:List UInt8) (a b:Int):(sJ f t d a b).1.length≤65515:=by
 unfold sJ
 split
 ·simp
 ·split
  ·simp
  ·simp only [List.length_append,wE,yq]
   omega
theorem jk (f t:Int) (d:List UInt8) (a b:Int) (ha:0≤a∧a<4294967296) (hb:0≤b∧b<4294967296) (hd:d.length≤140737488351232):zc Tryz.prog 29 [dL f t d,.v (.int .u32 a),.v (.int .u32 b)] (.tup [.v (.string (mkS (ai f t d a b).1)),.v (.bool (ai f t d a b).2)]):=by
 have h1:=jl f t d a b ha hb hd
 have hl:=am f t d a b
 have h2:=kb (pkL a b (sJ f t d a b).1) (by simp [pkL]) (by simp only [pkL];omega) ha hb
 unfold ai
 unfold pkL at *
 generalize sJ f t d a b=L at *
 obtain ⟨s,e⟩:=L
 dsimp only at *
 generalize pW _=P at *
 obtain ⟨t',e'⟩:=P
 dsimp only at *
 change zc _ _ [.agg [.v (.int .i64 0),.v (.int .i64 0),.v (.bool false),.v (.bool false),.v (.int .i64 0),.v (.int .i64 9),.v (.int .i64 17),.v (.int .u32 a),.v (.int .u32 b),.v (.string ⟨#[]⟩),.v (.string (mkS s))]] _ at h2
 refine z3 {} 0 Tryz.func29 fun Γ hW=>auC ?_
 repeat' first|refine auS ?_|(first|(with_reducible refine z0 h1 ?_)|(with_reducible refine z0 h2 ?_))|refine auD ?_|(refine auW ?_ ?_<;>intro h<;>try exact auH)|fail
 all_goals try exact auP
 all_goals refine auV ?_
 all_goals try exact z9
 all_goals try simp only [hsM] at *
 all_goals first
  |rfl
  |exact congrArg₂ (fun x y=>DV.tup [x,y]) rfl (yg (by simp_all))
  |skip
def lpk:List UInt8:=(ai 1030 53 [120] 5 6).1
theorem iY:(ai 1030 53 [120] 5 6).2=true∧lpk.length=29:=by decide +kernel
theorem aK:(mV (k9 plO) true lpk 0).2.1.length=29∧(mV (k9 plO) true lpk 0).2.2=(0,0):=by decide +kernel
theorem az:plO.wf:=⟨by decide,fun r hr=>by cases hr⟩
theorem Yx:R.plE plO=0:=by decide +kernel
theorem ZJ:(k9 plO).wf:=by
 have h0:zW 0 40∧zW 0 48∧zW 0 80:=by unfold zW maxLen;omega
 have e:k9 plO=⟨plO,[],[],⟨plO.lf,plO.lt,0,plO.st,0,[]⟩⟩:=by unfold k9;rw [if_pos Yx]
 rw [e]
 exact ⟨az,h0.2.2,h0.1,h0.2.1,⟨by simp,by simp,by simp,fun m hm=>(by cases hm)⟩⟩
theorem iK:zc Tryz.prog 8 [] (.v (.bool true)):=by
 have h1:=qq
 have h2:=bi plO az (by unfold zW maxLen;decide)
 have h3:=jk 1030 53 [120] 5 6 (by decide) (by decide) (by decide)
 have h4:=sF (k9 plO) ZJ true lpk (by rw [iY.2];decide) 0
 rw [Yx] at h2
 rw [iY.1] at h3
 have e1:=iY.2
 have e2:=aK
 change zc _ _ [.agg [.v (.int .i64 1030),.v (.int .i64 53),.v (.string ⟨#[120]⟩)],.v (.int .u32 5),.v (.int .u32 6)] (.tup [.v (.string (mkS lpk)),.v (.bool true)]) at h3
 generalize lpk=p at *
 generalize k9 plO=N at *
 generalize mV N true p 0=x at *
 obtain ⟨v,o,y,z⟩:=x
 dsimp only [ba] at h4 e2
 obtain ⟨e2,e3⟩:=e2
 obtain ⟨rfl,rfl⟩:=Prod.mk.inj e3
 clear e3
 refine z3 {} 0 Tryz.func8 fun Γ hW=>auC ?_
 repeat' first|refine auS ?_|(first|(simp only [z5,e1,e2])|(with_reducible refine z0 h1 ?_)|(with_reducible refine z0 h2 ?_)|(with_reducible refine z0 h3 ?_)|(with_reducible refine z0 h4 ?_))|refine auD ?_|(refine auW ?_ ?_<;>intro h<;>try exact auH)|fail
 all_goals try exact auP
 all_goals try (exfalso;simp_all;done)
 all_goals refine auV ?_
 all_goals try exact z9
 all_goals try simp only [hsM] at *
 all_goals rfl
end Go.Proofs.YtmibknbmhcnemaaGreatDoor
namespace Go.Proofs.YtmibknbmhcnemaaGreatDoor
attribute [local irreducible] zu Go
set_option maxRecDepth 100000
open Go.ChangeShapes Go.WideShapes Go.ChangeAt Go.RowKit
open E (Mc Sn dB xF vM ym frE frD wI xK ye uQ pq sK nY)
def vW:List Sh:=[.cons (.cons (.int .u32) (.cons (.int .i64) (.cons (.int .i64) (.cons (.int .i64) (.cons (.int .i64) (.cons (.int .i64) (.cons (.slice 80 10 (.cons (.cons (.int .u32) (.cons (.int .i64) (.nil))) (.cons (.cons (.int .u32) (.cons (.int .i64) (.nil))) (.cons (.int .i64) (.cons (.int .i64) (.cons (.int .i64) (.cons (.int .i64) (.cons (.int .i64) (.cons (.bool) (.nil)))))))))) (.cons (.bool) (.nil))))))))) (.cons (.slice 40 5 (.cons (.int .u32) (.cons (.cons (.int .i64) (.cons (.int .i64) (.cons (.int .i64) (.cons (.int .i64) (.nil))))) (.nil)))) (.cons (.slice 48 7 (.cons (.cons (.int .u32) (.cons (.int .u32) (.cons (.int .i64) (.cons (.int .i64) (.nil))))) (.cons (.int .i64) (.cons (.int .i64) (.cons (.int .i64) (.nil)))))) (.cons (.cons (.int .i64) (.cons (.cons (.int .i64) (.cons (.int .u64) (.nil))) (.cons (.cons (.int .i64) (.cons (.int .u64) (.nil))) (.cons (.slice 40 5 (.cons (.int .i64) (.cons (.int .u32) (.cons (.int .i64) (.cons (.int .i64) (.cons (.int .i64) (.nil))))))) (.nil))))) (.nil)))),.str,.int .i64,.cons (.int .u8) (.cons (.int .u8) (.cons (.int .u8) (.cons (.int .u8) (.cons (.int .u8) (.cons (.int .u8) (.nil)))))),.cons (.int .u8) (.cons (.int .u8) (.cons (.int .u8) (.cons (.int .u8) (.cons (.int .u8) (.cons (.int .u8) (.nil))))))]
set_option maxHeartbeats 8000000 in
theorem bg (u:Hs) (hu:u.wf) (s:List UInt8) (hs:s.length≤140737488351232) (now:Int) (a b:Mc) (ha:nP a) (hb:nP b):zc Tryz.prog 3 [dH u,.v (.string (mkS s)),.v (.int .i64 now),.agg a.enc,.agg b.enc] (.v (.bool true)):=by
 have h1:=ko b a hb ha s hs
 have h3:=iK
 have hsm:=E.lP a b
 by_cases hl:65535<s.length
 ·rw [if_pos hl,if_pos hl] at h1
  have hE:xF 2 9 0 5 [] []=3:=by decide +kernel
  have h2:=qm (E.kE 2 9 0 5 [] [] false (by decide) (by decide) (fun s hs=>by cases hs) (by rw [hE];decide))
  rw [hE] at h2
  have h4:=h3
  have h5:=h3
  have h6:=h3
  refine z3 {} 0 Tryz.func3 fun Γ hW=>auC ?_
  repeat' first|refine auS ?_|(first|(simp only [hsm])|(simp only [eq_self,decide_true,beq_self_eq_true,Bool.and_self])|(with_reducible refine z0 h1 ?_)|(with_reducible refine z0 h2 ?_)|(with_reducible refine z0 h3 ?_)|(with_reducible refine z0 h4 ?_)|(with_reducible refine z0 h5 ?_)|(with_reducible refine z0 h6 ?_))|refine auD ?_|(refine auW ?_ ?_<;>intro h<;>try exact auH)|fail
  all_goals try exact auP
  all_goals try (exfalso;simp_all;done)
  all_goals refine auV ?_
  all_goals try exact z9
  all_goals try simp only [hsM] at *
  all_goals first
   |rfl
   |exact yg (by simp)
 rw [if_neg hl,if_neg hl] at h1
 have hfl:(frW b a s).length≤140737488351232:=by rw [fb];omega
 have hE:xF 2 9 0 5 [] (frW b a s)=if a.many then 4 else 0:=by rw [Xk,bA hl,nk b ha];rfl
 cases hm:a.many with
 |true=>
  rw [hm] at hE
  have h2:=qm (E.kE 2 9 0 5 [] (frW b a s) false (by decide) hfl (fun s hs=>by cases hs) (by rw [hE];decide))
  rw [hE] at h2
  have h4:=h3
  have h5:=h3
  have h6:=h3
  generalize frW b a s=t at *
  refine z3 {} 0 Tryz.func3 fun Γ hW=>auC ?_
  repeat' first|refine auS ?_|(first|(simp only [hsm])|(simp only [eq_self,decide_true,beq_self_eq_true,Bool.and_self])|(with_reducible refine z0 h1 ?_)|(with_reducible refine z0 h2 ?_)|(with_reducible refine z0 h3 ?_)|(with_reducible refine z0 h4 ?_)|(with_reducible refine z0 h5 ?_)|(with_reducible refine z0 h6 ?_))|refine auD ?_|(refine auW ?_ ?_<;>intro h<;>try exact auH)|fail
  all_goals try exact auP
  all_goals try (exfalso;simp_all;done)
  all_goals refine auV ?_
  all_goals try exact z9
  all_goals try simp only [hsM] at *
  all_goals first
   |rfl
   |exact yg (by simp)
 |false=>
  rw [hm] at hE
  have h2:=qm (E.ZG 2 9 0 5 [] (frW b a s) false hfl (fun s hs=>by cases hs) hE)
  rw [nk b ha,aQ a hb,YD] at h2
  by_cases hq:a=b
  ·have h4:=h3
   have h5:=h3
   have h6:=h3
   rw [decide_eq_true hq] at hsm
   generalize frW b a s=t at *
   generalize pq _ _ _ _=o at *
   refine z3 {} 0 Tryz.func3 fun Γ hW=>auC ?_
   repeat' first|refine auS ?_|(first|(simp only [hsm])|(simp only [eq_self,decide_true,beq_self_eq_true,Bool.and_self])|(with_reducible refine z0 h1 ?_)|(with_reducible refine z0 h2 ?_)|(with_reducible refine z0 h3 ?_)|(with_reducible refine z0 h4 ?_)|(with_reducible refine z0 h5 ?_)|(with_reducible refine z0 h6 ?_))|refine auD ?_|(refine auW ?_ ?_<;>intro h<;>try exact auH)|fail
   all_goals try exact auP
   all_goals try (exfalso;simp_all;done)
   all_goals refine auV ?_
   all_goals try exact z9
   all_goals try simp only [hsM] at *
   all_goals first
    |rfl
    |exact yg (by simp)
  ·rw [decide_eq_false hq] at hsm
   have e1:[(⟨a,0,5⟩:Sn)].find? (xK 9 5 b)=none:=by simp [xK,hq]
   have e2:∀m,pq 2 0 m none=[1]:=fun m=>rfl
   rw [e1,e2] at h2
   have h4:=E.r5 (frW b a s) hfl
   rw [bA hl,XB hb ha hl] at h4
   have h5:=sF u hu true s hs now
   have h6:=gj a ha hm
   have h7:=YK
   generalize frW b a s=t at *
   generalize mV u true s now=x at *
   obtain ⟨v,o,y,z⟩:=x
   dsimp only [ba] at h5
   dsimp only [List.map] at h2
   refine z3 {} 0 Tryz.func3 fun Γ hW=>auC ?_
   repeat' first|refine auS ?_|(first|(simp only [hsm])|(simp only [eq_self,decide_true,beq_self_eq_true,Bool.and_self])|(with_reducible refine z0 h1 ?_)|(with_reducible refine z0 h2 ?_)|(with_reducible refine z0 h3 ?_)|(with_reducible refine z0 h4 ?_)|(with_reducible refine z0 h5 ?_)|(with_reducible refine z0 h6 ?_)|((with_reducible refine zD 12 ?_);(refine zk [7] (by decide) rfl rfl (h7 _ _) ?_)))|refine auD ?_|(refine auW ?_ ?_<;>intro h<;>try exact auH)|fail
   all_goals try exact auP
   all_goals try (exfalso;simp_all;done)
   all_goals refine auV ?_
   all_goals try exact z9
   all_goals try simp only [hsM] at *
   all_goals first
    |rfl
    |exact yg (by simp)
abbrev mcT:=Int×Int×Int×Int×Int×Int×Unit
abbrev ZP (t:mcT):Mc:=⟨t.1,t.2.1,t.2.2.1,t.2.2.2.1,t.2.2.2.2.1,t.2.2.2.2.2.1⟩
theorem tB {x:Int} (h:(Lit.int .u8 x).wf=true):0≤x∧x<256:=by
 have h2:IntKind.u8.min≤x∧x≤IntKind.u8.max:=by simpa [Lit.wf] using h
 have e1:IntKind.u8.min=0:=by decide
 have e2:IntKind.u8.max=255:=by decide
 rw [e1,e2] at h2
 omega
theorem jZ (a1 c1 d1 e1 f1 g1:Int) (rl1:List rlT) (o1:Bool) (ms:List mtT) (tr:List tkT) (l b1:Int) (n1:Nat) (b2:Int) (n2:Nat) (mp:List mpT) (s:ByteArray) (now:Int) (fr to:mcT) (u2 u3 u4 u5 u6 u7:Unit) :
  rX vW (((a1,c1,d1,e1,f1,g1,rl1,o1,u2),ms,tr,(l,(b1,(n1:Int),u3),(b2,(n2:Int),u4),mp,u5),u6),s,now,fr,to,u7)=[dH (Yz a1 c1 d1 e1 f1 g1 rl1 o1 ms tr l b1 n1 b2 n2 mp),.v (.string (mkS s.data.toList)),.v (.int .i64 now),.agg (ZP fr).enc,.agg (ZP to).enc]:=by
 rw [dQ]
 simp only [dH,Hs.row,msD,Yz,List.map_map]
 rfl
theorem jf (W:World) (args:Array Value) (hL:laidMetH Tryz.prog Rows.topWireRow.laid W) (hsh:W.ShapedOpen Tryz.prog) (h:qo W W.heap.size vW args.toList) :
  Calls Tryz.prog 3 args W fun e W'=>e=.returned (.bool true)∧Below W.heap.size W W':=by
 refine bU rfl h (fun x hx=>?_) (eW (List.mem_of_getElem? (i:=0) rfl) (fun h=>by rw [MakeChecks.laidMetH_plain _ _ _ (by kernel_rfl)] at h;exact h) hL)
 obtain ⟨⟨⟨a1,c1,d1,e1,f1,g1,rl1,o1,u2⟩,ms,tr,⟨l,⟨b1,t1,u3⟩,⟨b2,t2,u4⟩,mp,u5⟩,u6⟩,s,now,fr,to,u7⟩:=x
 obtain ⟨⟨⟨ha',-,-,-,-,-,⟨hb',hl',hd'⟩,-⟩,⟨m1,m2,-⟩,⟨k1,k2,-⟩,⟨-,⟨-,h1,-⟩,⟨-,h2,-⟩,⟨q1,q2,q3⟩,-⟩,-⟩,hs,-,⟨x1,x2,x3,x4,x5,x6,-⟩,⟨y1,y2,y3,y4,y5,y6,-⟩,-⟩:=hx
 have g1':=cJ h1
 have g2':=cJ h2
 obtain ⟨n1,rfl⟩:=Int.eq_ofNat_of_zero_le g1'.1
 obtain ⟨n2,rfl⟩:=Int.eq_ofNat_of_zero_le g2'.1
 refine Eq.mpr (congrArg (fun l=>zc Tryz.prog 3 l (.v (.bool true))) (jZ a1 c1 d1 e1 f1 g1 rl1 o1 ms tr l b1 n1 b2 n2 mp s now fr to u2 u3 u4 u5 u6 u7)) (bg (Yz a1 c1 d1 e1 f1 g1 rl1 o1 ms tr l b1 n1 b2 n2 mp) ⟨⟨k7 ha',fun t ht=>?_⟩,gz hb' hl',gz m1 m2,gz k1 k2,⟨by show n1<_;omega,by show n2<_;omega,Nat.le_trans (Nat.le_of_eq (congrArg (· * 40) (List.length_map ..))) q1,fun t ht=>?_⟩⟩ s.data.toList (Nat.le_trans (Nat.le_of_eq (aL s)) hs) now (ZP fr) (ZP to) ⟨tB x1,tB x2,tB x3,tB x4,tB x5,tB x6⟩ ⟨tB y1,tB y2,tB y3,tB y4,tB y5,tB y6⟩)
 ·obtain ⟨y,hy,rfl⟩:=List.mem_map.1 ht
  exact ⟨k7 (hd' y hy).1.1,k7 (hd' y hy).2.1.1⟩
 ·obtain ⟨y,hy,rfl⟩:=List.mem_map.1 ht
  exact k7 (q3 y hy).2.1
theorem go:ownKnob Tryz.prog.godebug=none:=by kernel_rfl
theorem jR:(List.range vW.length).all (fun i=>match vW[i]?,Tryz.f3.params.toList[i]? with|some s,some t=>s.fit Tryz.prog none t|_,_=>false)=true:=by kernel_rfl
theorem kQ:laidOutB Tryz.prog=true:=by kernel_rfl
theorem kW:Tryz.f3.params.toList.all (fun t=>Tryz.prog.readableRec t&&decide (t<Tryz.prog.types.size))=true:=by kernel_rfl
theorem gk (os:Os) (args:Array Value):laidMetH Tryz.prog Rows.topWireRow.laid ((World.laidAll Tryz.prog os Rows.topWireRow.laid).forCall (fun _ _=>0) ⟨#[],args,[]⟩).memory:=
 (MakeChecks.laidMetH_plain _ _ _ (by kernel_rfl)).mpr (laidMet_laidAll _ (by kernel_rfl) (by kernel_rfl))
theorem nT (os:Os) (started:os.Started) (H:Type) (enc:TypeId×Value→H) :
  ReturnsInHanded {} Tryz.checked os 3 .any (fun w args=>(Rows.topWireSpec.pre enc Tryz.prog Tryz.f3 [] false w args∧laidMetH Tryz.prog Rows.topWireRow.laid w)∧sizedMet enc Tryz.prog Tryz.f3 (OpenSpec.ofChange Rows.topWireSpec) false w args) (Rows.topWireSpec.post enc Tryz.prog Tryz.f3 false true false false):=
 qE (C:=Tryz.checked) (enc:=enc) go started (by kernel_rfl) Tryz.func3
  (ChangeSpec.witness_shaped (enc:=enc) (C:=Tryz.checked) (os:=os) (X:=fun w _=>laidMetH Tryz.prog Rows.topWireRow.laid w) false (World.laidAll Tryz.prog os Rows.topWireRow.laid) #[.agg #[.int .u32 0,.int .i64 0,.int .i64 0,.int .i64 0,.int .i64 0,.int .i64 0,.slice none 0 0,.bool false,.slice none 0 0,.slice none 0 0,.int .i64 0,.int .i64 0,.int .u64 0,.int .i64 0,.int .u64 0,.slice none 0 0],.string ByteArray.empty,.int .i64 0,.agg #[.int .u8 0,.int .u8 0,.int .u8 0,.int .u8 0,.int .u8 0,.int .u8 0],.agg #[.int .u8 0,.int .u8 0,.int .u8 0,.int .u8 0,.int .u8 0,.int .u8 0]] 8 rfl (World.shaped_of_ZipB (by kernel_rfl) (by kernel_rfl)) (by kernel_rfl) (by kernel_rfl) (by kernel_rfl) (gk os _))
  vW (by kernel_rfl) jR rfl (fun ds h=>by
   match ds,h with
   |[d0,d1,d2,d3,d4],_=>exact ⟨rfl,rfl,rfl⟩) 4 (by kernel_rfl) Tryz.underlying4 kQ kW jf
theorem j7:Rows.topWireRow.holds Tryz.pinned (OpenSpec.ofChange Rows.topWireSpec):=
 OpenClaim.holds_of_wide 3 Tryz.f3 rfl rfl rfl rfl rfl rfl rfl ⟨rfl,rfl,rfl,rfl,rfl⟩ rfl rfl rfl rfl rfl (by kernel_rfl) Tryz.func3 (by kernel_rfl)
  (of_decide_eq_true (by kernel_rfl)) (by unfold Func.isWrapper;rw [if_neg (of_decide_eq_false (by kernel_rfl))];exact ⟨rfl,rfl⟩)
  (fun os started H enc _=>nT os started H enc)
theorem provedTopWire:Rows.TopWireCardSaid:=
 Claim7.holds_tied_plain_at .later [] [.data] true (true, "2fc5d920b02e38c90cdd55921fcc0babc64b43151b2dcd7c62f3464600d725ca") false
  j7 (fun _ h=>by cases h) (by kernel_rfl) (fun _ h=>by cases h) topWire_row_tie rfl ⟨rfl,rfl⟩ (by kernel_rfl) rfl
  (fun f fn hf hfn=>by
   obtain rfl:f=3:=Option.some.inj ((show Tryz.prog.funcNamed Rows.topWireRow.func=some 3 by kernel_rfl).symm.trans hf) |>.symm
   obtain rfl:fn=Tryz.f3:=(Option.some.inj (Tryz.func3.symm.trans hfn)).symm
   exact ⟨by kernel_rfl,fun j t ht=>by
    have hall:(Tryz.f3.params.toList.all fun u=>!Tryz.prog.wantsStandIn u)=true:=by kernel_rfl
    have hm:t∈Tryz.f3.params.toList:=by simpa using Array.mem_of_getElem? ht
    exact (show Tryz.prog.wantsStandIn t=false by simpa using List.all_eq_true.1 hall t hm)⟩)
  (by kernel_rfl)
#print axioms provedTopWire
end Go.Proofs.YtmibknbmhcnemaaGreatDoor
