import Derived.Test.YtmibknbmhcnemaaGreatDoorTw05
set_option linter.unusedVariables false
set_option linter.unusedSimpArgs false
namespace Go.Proofs.YtmibknbmhcnemaaGreatDoor.E
def iH {α:Type} (key:α→Value) (r:List (List DV)) (a:α):List (List DV):=
 uH r (key a) (.int .i64 (match xH r (key a) with|some (.int _ n)=>n+1|_=>1))
def l8 {α:Type} (key:α→Value) (l:List α):List (List DV):=l.foldl (iH key) []
section
variable {α:Type} [DecidableEq α] {kt:KT} {key:α→Value} (hk:∀a,zq kt (key a)=true) (hinj:∀a b,key a=key b→a=b)
include hk in
omit [DecidableEq α] in
theorem bn (r:List (List DV)) (a:α) (h:∀x∈r,∃a b,x=[.v a,.v b]∧zq kt a=true):∀x∈iH key r a,∃a b,x=[.v a,.v b]∧zq kt a=true:=
 qK (p:=fun a=>zq kt a=true) (hk a) r h
include hk hinj in
theorem aO (f:α→Nat):∀(l:List α) (r:List (List DV)) (f:α→Nat),(∀x∈r,∃a b,x=[.v a,.v b]∧zq kt a=true)→(∀b,xH r (key b)=if f b=0 then none else some (.int .i64 (f b:Nat)))→
  ∀b,xH (l.foldl (iH key) r) (key b)=if f b+l.count b=0 then none else some (.int .i64 ((f b+l.count b:Nat):Int))
 |[],r,f,_,h,b=>by
  simp only [List.foldl_nil,List.count_nil,Nat.add_zero]
  exact h b
 |a::l,r,f,hr,h,b=>by
  have ih:=aO f l (iH key r a) (fun b=>f b+if a=b then 1 else 0) (bn hk r a hr) (fun b=>?_) b
  ·rw [List.foldl_cons,ih,List.count_cons]
   have e:(if (a == b)=true then 1 else 0)=(if a=b then 1 else 0:Nat):=by
    by_cases q:a=b<;>simp [q]
   rw [e]
   have e2:f b+(if a=b then 1 else 0)+l.count b=f b+(l.count b+(if a=b then 1 else 0)):=by omega
   rw [e2]
  ·unfold iH
   rw [rh (hk a) (hk b) r hr,h a]
   by_cases q:a=b
   ·subst q
    rw [tc (hk a)]
    simp only [if_true]
    by_cases q0:f a=0
    ·simp [q0]
    ·simp [q0]
   ·have hne:¬xu (key b) (key a)=true:=fun e=>q (hinj _ _ (v7 (hk b) (hk a) e)).symm
    simp only [hne,q,h b,Nat.add_zero,if_false]
    rfl
include hk hinj in
theorem kV (l:List α) (a:α):xH (l8 key l) (key a)=if l.count a=0 then none else some (.int .i64 (l.count a:Nat)):=by
 have:=aO hk hinj (fun _=>0) l [] (fun _=>0) (fun x hx=>by simp at hx) (fun b=>by simp [xH]) a
 simpa [l8] using this
include hk hinj in
theorem gU (l:List α) (a:α):(xH (l8 key l) (key a)).getD (.int .i64 0)=.int .i64 (l.count a:Nat):=by
 rw [kV hk hinj]
 by_cases h:l.count a=0
 ·rw [if_pos h,h];rfl
 ·rw [if_neg h];rfl
include hk hinj in
theorem dS (l:List α) (a:α):uH (l8 key l) (key a) (.int .i64 ((l.count a:Nat)+1))=l8 key (l++[a]):=by
 have e:l8 key (l++[a])=iH key (l8 key l) a:=by unfold l8;rw [List.foldl_append];rfl
 rw [e]
 unfold iH
 rw [kV hk hinj]
 by_cases h:l.count a=0
 ·rw [if_pos h,h];rfl
 ·rw [if_neg h]
end
end Go.Proofs.YtmibknbmhcnemaaGreatDoor.E
namespace Go.Proofs.YtmibknbmhcnemaaGreatDoor.E
attribute [local irreducible] zu Go
set_option maxRecDepth 100000
structure Mc where
 (a b c d e f:Int)
deriving DecidableEq
abbrev Mc.enc (m:Mc):List DV:=[.v (.int .u8 m.a),.v (.int .u8 m.b),.v (.int .u8 m.c),.v (.int .u8 m.d),.v (.int .u8 m.e),.v (.int .u8 m.f)]
structure Sn where
 (m:Mc) (p t:Int)
deriving DecidableEq
abbrev Sn.enc (s:Sn):List DV:=[.v (.int .u8 s.m.a),.v (.int .u8 s.m.b),.v (.int .u8 s.m.c),.v (.int .u8 s.m.d),.v (.int .u8 s.m.e),.v (.int .u8 s.m.f),.v (.int .i64 s.p),.v (.int .i64 s.t)]
abbrev dB (P L:Int) (l:List Sn) (cl:Bool):DV:=.agg [.v (.int .i64 P),.v (.int .i64 L),.snap 8 (l.map Sn.enc) cl]
abbrev Yd (m:Mc):Value:=.agg [.int .u8 m.a,.int .u8 m.b,.int .u8 m.c,.int .u8 m.d,.int .u8 m.e,.int .u8 m.f].toArray
theorem lm (m:Mc):zq (.cells [.u8,.u8,.u8,.u8,.u8,.u8]) (Yd m)=true:=rfl
theorem oU (a b:Mc) (h:Yd a=Yd b):a=b:=by
 obtain ⟨a1,a2,a3,a4,a5,a6⟩:=a
 obtain ⟨b1,b2,b3,b4,b5,b6⟩:=b
 simp at h
 obtain ⟨rfl,rfl,rfl,rfl,rfl,rfl⟩:=h
 rfl
theorem l6 {l:List Sn} {k:Nat} {t:Sn} (ht:l[k]?=some t):yh (l.map Sn.enc) k=[.v (.int .u8 t.m.a),.v (.int .u8 t.m.b),.v (.int .u8 t.m.c),.v (.int .u8 t.m.d),.v (.int .u8 t.m.e),.v (.int .u8 t.m.f),.v (.int .i64 t.p),.v (.int .i64 t.t)]:=yn Sn.enc l k t ht
theorem zh (n lo hi:Int):zc Tryz.prog 48 [.v (.int .i64 n),.v (.int .i64 lo),.v (.int .i64 hi)] (.v (.bool (decide (lo≤n∧n≤hi)))):=by
 refine z3 {} 0 Tryz.func48 fun Γ hW=>auC ?_
 repeat' first|refine auS ?_|fail|refine auD ?_|(refine auW ?_ ?_<;>intro h<;>try exact auH)|fail
 all_goals refine auV ?_
 all_goals try exact z9
 all_goals try simp only [hsM] at *
 ·exact yg (by simp [h])
 ·exact yg (by simp [h])
theorem nA (a:Int) (h0:0≤a) (h1:a<256):bits .and .u8 a 1=a % 2:=by
 have:∀m:Fin 256,bits .and .u8 (m.val:Int) 1=(m.val:Int) % 2:=by decide +kernel
 have:=this ⟨a.toNat,by omega⟩
 simpa [Int.toNat_of_nonneg h0] using this
def Mc.many (m:Mc):Bool:=decide (m.a % 2=1)
theorem sm (m:Mc) (h0:0≤m.a∧m.a<256):zc Tryz.prog 25 [.agg [.v (.int .u8 m.a),.v (.int .u8 m.b),.v (.int .u8 m.c),.v (.int .u8 m.d),.v (.int .u8 m.e),.v (.int .u8 m.f)]] (.v (.bool m.many)):=by
 have e1:=nA m.a h0.1 h0.2
 refine z3 {} 0 Tryz.func25 fun Γ hW=>auC ?_
 repeat' first|refine auS ?_|(simp only [e1])|refine auD ?_|(refine auW ?_ ?_<;>intro h<;>try exact auH)|fail
 all_goals refine auV ?_
 all_goals try exact z9
 all_goals try simp only [hsM] at *
 rfl
def okB (P:Int) (pre:List Sn) (s:Sn):Bool:=decide ((0≤s.p∧s.p<P)∧(0≤s.t∧s.t≤1099511627776)) && !s.m.many&&pre.all (fun o=>!decide (o.m=s.m) && !decide (s.t<o.t))
def vM (P L:Int) (l:List Sn):Int:=if ¬((2≤P∧P≤16)∧(1≤L∧L≤1000000)) then 1 else if 64<l.length then 2 else if yc (okB P) [] l then 0 else 4
def zN:List Sn→Int
 |[]=>0
 |[s]=>s.t
 |_::r=>zN r
theorem t7:∀(l:List Sn) (s:Sn),zN (l++[s])=s.t
 |[],s=>rfl
 |[a],s=>rfl
 |a::b::l,s=>t7 (b::l) s
theorem qB:∀(l:List Sn),l=[]∨∃y∈l,y.t=zN l
 |[]=>.inl rfl
 |[a]=>.inr ⟨a,by simp,rfl⟩
 |a::b::l=>by
  rcases qB (b::l) with h|⟨y,hy,e⟩
  ·simp at h
  ·exact .inr ⟨y,List.mem_cons_of_mem _ hy,e⟩
theorem ZF {P:Int} {pre:List Sn} {s:Sn} (hs:∀y∈pre,y.t≤zN pre) (h0:0≤zN pre):okB P pre s=true↔(0≤s.p∧s.p<P)∧zN pre≤s.t∧s.t≤1099511627776∧s.m.many=false∧(pre.map (·.m)).count s.m=0:=by
 unfold okB
 rw [List.count_eq_zero]
 simp only [Bool.and_eq_true,decide_eq_true_eq,Bool.not_eq_true',List.all_eq_true,decide_eq_false_iff_not,List.mem_map,not_exists,not_and]
 constructor
 ·rintro ⟨⟨⟨h1,h2⟩,h3⟩,h4⟩
  refine ⟨h1,?_,h2.2,h3,fun y hy=>(h4 y hy).1⟩
  rcases qB pre with e|⟨y,hy,e⟩
  ·rw [e];exact h2.1
  ·have:=(h4 y hy).2
   omega
 ·rintro ⟨h1,h2,h3,h4,h5⟩
  refine ⟨⟨⟨h1,by omega,h3⟩,h4⟩,fun y hy=>⟨h5 y hy,?_⟩⟩
  have:=hs y hy
  omega
theorem jP {P:Int} {pre:List Sn} {s:Sn} (hok:okB P pre s=true):(∀y∈pre++[s],y.t≤zN (pre++[s]))∧0≤zN (pre++[s]):=by
 rw [t7]
 unfold okB at hok
 simp only [Bool.and_eq_true,decide_eq_true_eq,List.all_eq_true,Bool.not_eq_true',decide_eq_false_iff_not] at hok
 refine ⟨fun y hy=>?_,hok.1.1.2.1⟩
 rcases List.mem_append.1 hy with hy|hy
 ·have:=(hok.2 y hy).2
  omega
 ·simp at hy
  rw [hy]
  exact Int.le_refl _
set_option maxHeartbeats 4000000 in
theorem wg (P L:Int) (l:List Sn) (cl:Bool) (hm:∀s∈l,0≤s.m.a∧s.m.a<256):zc Tryz.prog 23 [dB P L l cl] (.v (.int .i64 (vM P L l))):=by
 refine z3 {loose:=true} 0 Tryz.func23 fun Γ hW=>auC ?_
 repeat' first|refine auS ?_|fail|refine auD ?_|(refine auW ?_ ?_<;>intro h<;>try exact auH)|fail
 all_goals try exact auP
 all_goals try
  all_goals refine auV ?_
  all_goals try exact z9
  all_goals try simp only [hsM] at *
  refine zL ?_
  unfold vM
  first
   |rw [if_pos (by omega)]
   |rw [if_neg (by omega),if_pos (by simp only [List.length_map] at *;omega)]
 have hl:l.length≤64:=by (simp only [hsL,reduceCtorEq] at *<;>omega)
 have hPL:(2≤P∧P≤16)∧(1≤L∧L≤1000000):=by (simp only [hsL,reduceCtorEq] at *<;>omega)
 refine zx (α:=Nat×Nat) (fun x=>[(⟨.d0,.d0,.d3⟩,.v (.int .i64 (zN (l.take x.1)))),(⟨.d0,.d4,.d1⟩,.v (.int .i64 (x.1:Nat)))]) (fun x=>[(1,some ⟨Γ.g0+1,0,[.bl,.v (.int .i64 0),.v (.agg [.int .u8 0,.int .u8 0,.int .u8 0,.int .u8 0,.int .u8 0,.int .u8 0].toArray)]::l8 Yd ((l.take x.1).map (·.m))⟩),(2,none)]) (fun x=>x.2) (fun x=>l.length-x.1) (fun x=>x.1≤l.length∧yc (okB P) [] l=yc (okB P) (l.take x.1) (l.drop x.1)∧(∀y∈l.take x.1,y.t≤zN (l.take x.1))∧0≤zN (l.take x.1)) (0,Γ.g0+1+1) ⟨Nat.zero_le _,rfl,fun y hy=>by simp at hy,Int.le_refl _⟩ ?_ ?_
 ·skip
  refine zp ?_ ?_ (Nat.le_refl _)
  all_goals first|refine auE ?_|exact zJ
  all_goals repeat' first|exact trivial|exact rfl|apply And.intro
 rintro ⟨k,gn⟩ ⟨hk,hg,hs,hs0⟩
 dsimp only at hk hg hs hs0 ⊢
 refine auL ?_
 by_cases hlt:k<l.length
 ·obtain ⟨t,ht⟩:∃t,l[k]?=some t:=⟨_,List.getElem?_eq_getElem hlt⟩
  have ex:=l6 ht
  have htk:l.take (k+1)=l.take k++[t]:=by rw [List.take_add_one,ht];rfl
  have hiff:=ZF (P:=P) (s:=t) hs hs0
  have hcl:((l.take k).map (·.m)).count t.m≤64:=Nat.le_trans List.count_le_length (by simp;omega)
  have hmt:=hm t (List.mem_of_getElem? ht)
  have hget:=gU lm oU ((l.take k).map (·.m)) t.m
  have hsn:=dS lm oU ((l.take k).map (·.m)) t.m
  have hget2:=gU lm oU ((l.take k).map (·.m)++[t.m]) t.m
  have hc2:((l.take k).map (·.m)++[t.m]).count t.m=((l.take k).map (·.m)).count t.m+1:=by simp
  rw [hc2] at hget2
  have hmm:(l.take (k+1)).map (·.m)=(l.take k).map (·.m)++[t.m]:=by rw [htk];simp
  rw [←hmm] at hget2 hsn
  generalize hc:((l.take k).map (·.m)).count t.m=c at hget hsn hget2 hiff hcl
  have hw:IntKind.i64.wrap ((c:Int)+1)=(c:Int)+1:=IntWalk.i64_in _ (by omega)
  repeat' first|refine auS ?_|(first|(simp only [hget,hw,hsn,hget2])|(with_reducible refine z0 (sm t.m hmt) ?_))|refine auD ?_|(refine auW ?_ ?_<;>intro h<;>try exact auH)|(simp only [Int.toNat_natCast,ex])
  all_goals try exact auP
  rotate_right
  ·skip
   have hok:okB P (l.take k) t=true:=hiff.2 (by
    refine ⟨?_,?_,?_,by assumption,?_⟩<;>(simp only [hsL,reduceCtorEq] at *<;>omega))
   have hsn2:=jP hok
   rw [←htk] at hsn2
   refine zo ⟨(k+1,gn+1),⟨hlt,oB ht hg hok,hsn2.1,hsn2.2⟩,Nat.sub_lt_sub_left hlt (Nat.lt_succ_self k),?_⟩
   refine zp ?_ ?_ (Nat.le_refl _)
   all_goals first|refine auE ?_|exact zJ
   all_goals repeat' first|exact trivial|exact rfl|apply And.intro
   ·rw [htk,t7]
   ·exact zL ((IntWalk.i64_in _ (by omega)).trans (by omega))
  all_goals
  have hbad:yc (okB P) [] l=false:=mC ht hg (by
   cases hq:okB P (l.take k) t with
   |false=>rfl
   |true=>
    exfalso
    obtain ⟨a1,a2,a3,a4,a5⟩:=hiff.1 hq
    first
     |(simp only [hsL,reduceCtorEq] at *<;>omega)
     |(simp_all;done))
  all_goals refine auV ?_
  all_goals try exact z9
  all_goals try simp only [hsM] at *
  refine zL ?_
  unfold vM
  rw [if_neg (by omega),if_neg (by omega),hbad]
  rfl
 ·obtain rfl:k=l.length:=by omega
  have hgood:yc (okB P) [] l=true:=by rw [hg,List.drop_length];rfl
  repeat' first|refine auS ?_|fail|refine auD ?_|(refine auW ?_ ?_<;>intro h<;>try exact auH)|fail
  all_goals try exact auP
  all_goals refine auV ?_
  all_goals try exact z9
  all_goals try simp only [hsM] at *
  refine zL ?_
  unfold vM
  rw [if_neg (by omega),if_neg (by omega),hgood]
  rfl
end Go.Proofs.YtmibknbmhcnemaaGreatDoor.E
