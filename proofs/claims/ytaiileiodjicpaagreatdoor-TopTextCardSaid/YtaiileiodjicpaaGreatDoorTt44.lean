import Derived.Test.YtaiileiodjicpaaGreatDoorTt43
import Derived.Test.YtaiileiodjicpaaGreatDoorTt31
set_option linter.unusedVariables false
set_option linter.unusedSimpArgs false
namespace Go.Proofs.YtaiileiodjicpaaGreatDoor.R
attribute [local irreducible] zF Go
set_option maxRecDepth 100000
theorem wn (n:Nat) (t:WS) (hw:xG 1048576 t):zE Tryz.prog 46 [.ptr 0 n 2 0 0] [some (wO n t)] (fun d H=>d=.v (.int .i64 (nu t).1)∧H=[some (wO n (nu t).2)]):=by
 have h1:=tf n t
 have h2:=tZ n (nx t).2 (nx t).1 (sB hw).1
 unfold nu
 generalize (nx t).1=s1 at *
 generalize (nx t).2=t2 at *
 refine zp {} 0 Tryz.func46 fun Γ hN0 hL0=>auC ?_
 have hn:n<Γ.g0:=hN0 0 _ rfl
 repeat' first|refine auS ?_|(first|((with_reducible refine z_ 0 ?_ h1 (fun _ _ _ h=>h) ?_);(exact rfl))|((with_reducible refine z_ 0 ?_ h2 (fun _ _ _ h=>h) ?_);(exact rfl)))|refine auD ?_|(refine auW ?_ ?_<;>intro h<;>try exact auH)|fail
 all_goals try exact auP
 all_goals exact zU (by (try first|refine auR ?_|exact zc);repeat' (first|exact trivial|exact rfl|decide|apply And.intro)) (by (try first|refine auR ?_|exact zc);repeat' (first|exact trivial|exact rfl|decide|apply And.intro)) rfl rfl hn ⟨⟨xj _ _,trivial,trivial⟩,trivial⟩ rfl
theorem mN (n:Nat) (t:WS) (s:W8) (hs:s.length≤1048576):zE Tryz.prog 45 [.ptr 0 n 2 0 0,.v (.string (mkS s))] [some (wO n t)] (fun d H=>d=.v (.int .u32 (ad s t).1)∧H=[some (wO n (ad s t).2)]):=by
 obtain ⟨l,b⟩:=t
 have hp:=fH s hs
 unfold ad
 unfold dNE at hp
 dsimp only
 generalize (((lM s).1:Nat):Int)=A at *
 generalize (lM s).2=E at *
 cases b with
 |true=>
  refine zp {} 0 Tryz.func45 fun Γ hN0 hL0=>auC ?_
  have hn:n<Γ.g0:=hN0 0 _ rfl
  repeat' first|refine auS ?_|(first|(with_reducible refine z6 hp ?_))|refine auD ?_|(refine auW ?_ ?_<;>intro h<;>try exact auH)|fail
  all_goals try exact auP
  all_goals exact zU (by (try first|refine auR ?_|exact zc);repeat' (first|exact trivial|exact rfl|decide|apply And.intro)) (by (try first|refine auR ?_|exact zc);repeat' (first|exact trivial|exact rfl|decide|apply And.intro)) rfl rfl hn ⟨⟨xj _ _,trivial,trivial⟩,trivial⟩ rfl
 |false=>
  by_cases he:E=0
  ·subst he
   refine zp {} 0 Tryz.func45 fun Γ hN0 hL0=>auC ?_
   have hn:n<Γ.g0:=hN0 0 _ rfl
   repeat' first|refine auS ?_|(first|(with_reducible refine z6 hp ?_))|refine auD ?_|(refine auW ?_ ?_<;>intro h<;>try exact auH)|fail
   all_goals try exact auP
   all_goals exact zU (by (try first|refine auR ?_|exact zc);repeat' (first|exact trivial|exact rfl|decide|apply And.intro)) (by (try first|refine auR ?_|exact zc);repeat' (first|exact trivial|exact rfl|decide|apply And.intro)) rfl rfl hn ⟨⟨xj _ _,trivial,trivial⟩,trivial⟩ rfl
  ·have he2:decide (E=0)=false:=decide_eq_false he
   have he3:decide (¬E=0)=true:=decide_eq_true he
   rw [he3]
   refine zp {} 0 Tryz.func45 fun Γ hN0 hL0=>auC ?_
   have hn:n<Γ.g0:=hN0 0 _ rfl
   repeat' first|refine auS ?_|(first|(simp only [he2])|(with_reducible refine z6 hp ?_))|refine auD ?_|(refine auW ?_ ?_<;>intro h<;>try exact auH)|fail
   all_goals try exact auP
   all_goals exact zU (by (try first|refine auR ?_|exact zc);repeat' (first|exact trivial|exact rfl|decide|apply And.intro)) (by (try first|refine auR ?_|exact zc);repeat' (first|exact trivial|exact rfl|decide|apply And.intro)) rfl rfl hn ⟨⟨xj _ _,trivial,trivial⟩,trivial⟩ rfl
theorem rE (n:Nat) (t:WS) (s:W8):zE Tryz.prog 47 [.ptr 0 n 2 0 0,.v (.string (mkS s))] [some (wO n t)] (fun d H=>d=.v (.bool (vd s t).1)∧H=[some (wO n (vd s t).2)]):=by
 obtain ⟨l,b⟩:=t
 have c1:(ByteArray.mk #[112,97,115,115]:ByteArray)=mkS vB:=rfl
 have c2:(ByteArray.mk #[100,114,111,112]:ByteArray)=mkS ug:=rfl
 have d1:decide (mkS s=mkS vB)=decide (s=vB):=decide_eq_decide.2 zg
 have d2:decide (mkS s=mkS ug)=decide (s=ug):=decide_eq_decide.2 zg
 unfold vd
 dsimp only
 generalize decide (s=vB)=p1 at *
 generalize decide (s=ug)=p2 at *
 cases b<;>cases p1<;>cases p2
 all_goals
  refine zp {} 0 Tryz.func47 fun Γ hN0 hL0=>auC ?_
  have hn:n<Γ.g0:=hN0 0 _ rfl
  repeat' first|refine auS ?_|(first|(simp only [c1,c2,d1,d2]))|refine auD ?_|(refine auW ?_ ?_<;>intro h<;>try exact auH)|fail
  all_goals try exact auP
  all_goals exact zU (by (try first|refine auR ?_|exact zc);repeat' (first|exact trivial|exact rfl|decide|apply And.intro)) (by (try first|refine auR ?_|exact zc);repeat' (first|exact trivial|exact rfl|decide|apply And.intro)) rfl rfl hn ⟨⟨xj _ _,trivial,trivial⟩,trivial⟩ rfl
theorem ke (n:Nat) (t:WS) (c:UInt8) (hw:xG 1048576 t):zE Tryz.prog 81 [.ptr 0 n 2 0 0,.v (.string (mkS [c]))] [some (wO n t)] (fun d H=>d=.tup [.v (.string (mkS (pa c t).1.1)),.v (.string (mkS (pa c t).1.2))]∧H=[some (wO n (pa c t).2)]):=by
 have h1:=tf n t
 have h2:=Z6 c (nx t).1 (sB hw).1
 unfold pa
 generalize (xX c (nx t).1).1=A at *
 generalize (xX c (nx t).1).2.1=B at *
 generalize (xX c (nx t).1).2.2=C at *
 generalize (nx t).1=s1 at *
 generalize (nx t).2=t2 at *
 obtain ⟨l,b⟩:=t2
 cases b<;>cases C
 all_goals
  refine zp {} 0 Tryz.func81 fun Γ hN0 hL0=>auC ?_
  have hn:n<Γ.g0:=hN0 0 _ rfl
  repeat' first|refine auS ?_|(first|((with_reducible refine z_ 0 ?_ h1 (fun _ _ _ h=>h) ?_);(exact rfl))|(with_reducible refine z6 h2 ?_))|refine auD ?_|(refine auW ?_ ?_<;>intro h<;>try exact auH)|fail
  all_goals try exact auP
  all_goals exact zU (by (try first|refine auR ?_|exact zc);repeat' (first|exact trivial|exact rfl|decide|apply And.intro)) (by (try first|refine auR ?_|exact zc);repeat' (first|exact trivial|exact rfl|decide|apply And.intro)) rfl rfl hn ⟨⟨xj _ _,trivial,trivial⟩,trivial⟩ rfl
theorem ni {m:Nat} {c:UInt8} {t:WS} (h:xG m t):(pa c t).1.1.length≤m∧(pa c t).1.2.length≤m∧xG m (pa c t).2:=by
 have h1:=sB h
 have h2:=X7 (c:=c) (nx t).1
 exact ⟨by unfold pa;dsimp only;omega,by unfold pa;dsimp only;omega,h1.2⟩
theorem jl {m:Nat} {t:WS} (h:xG m t):xG m (nu t).2:=(sB h).2
theorem dO {m:Nat} {t:WS} (h:xG m t):xG m (nt t).2:=(ni (c:=47) h).2.2
theorem W_ {m:Nat} {t:WS} (h:xG m t):xG m (bo t).2:=(ni (c:=45) h).2.2
theorem kM (n:Nat) (t:WS) (hw:xG 1048576 t):zE Tryz.prog 48 [.ptr 0 n 2 0 0] [some (wO n t)] (fun d H=>d=.agg [.v (.int .u32 (nt t).1.1),.v (.int .i64 (nt t).1.2)]∧H=[some (wO n (nt t).2)]):=by
 have h1:=ke n t 47 hw
 obtain ⟨l1,l2,l3⟩:=ni (c:=47) hw
 have h2:=mN n (pa 47 t).2 (pa 47 t).1.1 l1
 have h3:=tZ n (ad (pa 47 t).1.1 (pa 47 t).2).2 (pa 47 t).1.2 l2
 have e:(ByteArray.mk #[47]:ByteArray)=mkS [47]:=rfl
 unfold nt
 generalize (vl (pa 47 t).1.2 (ad (pa 47 t).1.1 (pa 47 t).2).2).2=T3 at *
 generalize (vl (pa 47 t).1.2 (ad (pa 47 t).1.1 (pa 47 t).2).2).1=V3 at *
 generalize (ad (pa 47 t).1.1 (pa 47 t).2).2=T2 at *
 generalize (ad (pa 47 t).1.1 (pa 47 t).2).1=V2 at *
 generalize (pa 47 t).2=T1 at *
 generalize (pa 47 t).1.1=A1 at *
 generalize (pa 47 t).1.2=B1 at *
 refine zp {} 1 Tryz.func48 fun Γ hN0 hL0=>auC ?_
 have hn:n<Γ.g0:=hN0 0 _ rfl
 repeat' first|refine auS ?_|(first|(simp only [e])|((with_reducible refine z_ 0 ?_ h1 (fun _ _ _ h=>h) ?_);(exact rfl))|((with_reducible refine z_ 0 ?_ h2 (fun _ _ _ h=>h) ?_);(exact rfl))|((with_reducible refine z_ 0 ?_ h3 (fun _ _ _ h=>h) ?_);(exact rfl)))|refine auD ?_|(refine auW ?_ ?_<;>intro h<;>try exact auH)|fail
 all_goals try exact auP
 all_goals exact zU (by (try first|refine auR ?_|exact zc);repeat' (first|exact trivial|exact rfl|decide|apply And.intro)) (by (try first|refine auR ?_|exact zc);repeat' (first|exact trivial|exact rfl|decide|apply And.intro)) rfl rfl hn ⟨⟨xj _ _,trivial,trivial⟩,trivial⟩ rfl
theorem qV (n:Nat) (t:WS) (hw:xG 1048576 t):zE Tryz.prog 49 [.ptr 0 n 2 0 0] [some (wO n t)] (fun d H=>d=.tup [.v (.int .i64 (bo t).1.1),.v (.int .i64 (bo t).1.2)]∧H=[some (wO n (bo t).2)]):=by
 have h1:=ke n t 45 hw
 obtain ⟨l1,l2,l3⟩:=ni (c:=45) hw
 have h2:=tZ n (pa 45 t).2 (pa 45 t).1.1 l1
 have h3:=tZ n (vl (pa 45 t).1.1 (pa 45 t).2).2 (pa 45 t).1.2 l2
 have e:(ByteArray.mk #[45]:ByteArray)=mkS [45]:=rfl
 unfold bo
 generalize (vl (pa 45 t).1.2 (vl (pa 45 t).1.1 (pa 45 t).2).2).2=T3 at *
 generalize (vl (pa 45 t).1.2 (vl (pa 45 t).1.1 (pa 45 t).2).2).1=V3 at *
 generalize (vl (pa 45 t).1.1 (pa 45 t).2).2=T2 at *
 generalize (vl (pa 45 t).1.1 (pa 45 t).2).1=V2 at *
 generalize (pa 45 t).2=T1 at *
 generalize (pa 45 t).1.1=A1 at *
 generalize (pa 45 t).1.2=B1 at *
 refine zp {} 0 Tryz.func49 fun Γ hN0 hL0=>auC ?_
 have hn:n<Γ.g0:=hN0 0 _ rfl
 repeat' first|refine auS ?_|(first|(simp only [e])|((with_reducible refine z_ 0 ?_ h1 (fun _ _ _ h=>h) ?_);(exact rfl))|((with_reducible refine z_ 0 ?_ h2 (fun _ _ _ h=>h) ?_);(exact rfl))|((with_reducible refine z_ 0 ?_ h3 (fun _ _ _ h=>h) ?_);(exact rfl)))|refine auD ?_|(refine auW ?_ ?_<;>intro h<;>try exact auH)|fail
 all_goals try exact auP
 all_goals exact zU (by (try first|refine auR ?_|exact zc);repeat' (first|exact trivial|exact rfl|decide|apply And.intro)) (by (try first|refine auR ?_|exact zc);repeat' (first|exact trivial|exact rfl|decide|apply And.intro)) rfl rfl hn ⟨⟨xj _ _,trivial,trivial⟩,trivial⟩ rfl
end Go.Proofs.YtaiileiodjicpaaGreatDoor.R
namespace Go.Proofs.YtaiileiodjicpaaGreatDoor.R
attribute [local irreducible] zF Go
set_option maxRecDepth 100000
theorem iE {tm:Env} {np rn g k len:Nat} {a1 a2 a3 a4 a5 a6 b:DV} {rows:List (List DV)} {T:HL}:Le ⟨tm,some ⟨np,8,[[a1,a2,a3,a4,a5,a6,.sl k rn 10 0 len false,b]]⟩::some ⟨rn,10,rows⟩::T,g⟩ ⟨tm,some ⟨np,8,[[a1,a2,a3,a4,a5,a6,.sl k g 10 0 len false,b]]⟩::some ⟨g,10,rows⟩::T,g+1⟩:=by
 refine iv (st:=⟨tm,some ⟨np,8,[[a1,a2,a3,a4,a5,a6,.sl k rn 10 0 len false,b]]⟩::some ⟨rn,10,rows⟩::T,g⟩) (fun _=>rn) 1 (fun i p hp=>?_)
 match i,hp with
 |0,hp=>
  refine ⟨_,rfl,.inr ?_⟩
  obtain rfl:=Option.some.inj hp
  refine ⟨.inl rfl,by show 0<8;omega,rfl,rfl,fun i y hy=>?_⟩
  match i,hy with
  |0,hy=>
   obtain rfl:=Option.some.inj hy
   refine ⟨_,rfl,rfl,fun t e he=>?_⟩
   match t,he with
   |6,he=>
    obtain rfl:=Option.some.inj he
    exact ⟨_,rfl,.inr ⟨0,_,_,_,_,_,_,by omega,rfl,rfl⟩⟩
   |0,he=>exact ⟨e,he,.inl rfl⟩
   |1,he=>exact ⟨e,he,.inl rfl⟩
   |2,he=>exact ⟨e,he,.inl rfl⟩
   |3,he=>exact ⟨e,he,.inl rfl⟩
   |4,he=>exact ⟨e,he,.inl rfl⟩
   |5,he=>exact ⟨e,he,.inl rfl⟩
   |7,he=>exact ⟨e,he,.inl rfl⟩
   |t+8,he=>simp at he
  |i+1,hy=>simp at hy
 |1,hp=>
  refine ⟨_,rfl,.inr ?_⟩
  obtain rfl:=Option.some.inj hp
  exact ⟨.inr ⟨0,by omega,rfl,rfl⟩,by show 0<10;omega,rfl,rfl,fun i y hy=>⟨y,hy,rfl,fun t e he=>⟨e,he,.inl rfl⟩⟩⟩
 |i+2,hp=>exact ⟨p,hp,.inl rfl⟩
theorem ao (n:Nat):decide ((0:Int)<((n:Nat):Int))=decide (0<n):=by simp
theorem zI (l:List W8):(zM (l.map mkS)).length=l.length:=by simp [zM]
abbrev pO (np m:Nat) (p:Pl):zj:=⟨np,8,[p.enc (.sl 1 m 10 0 p.rs.length false)]⟩
abbrev rO (m:Nat) (p:Pl):zj:=⟨m,10,p.rs.map Rl.enc⟩
def U6 (t:WS):WS:=(t.1,iG t)
abbrev tz (np rn nw:Nat) (p:Pl) (w0:W8) (r:List W8):Prop:=xt Tryz.prog 25 [.ptr 0 np 8 0 0,.ptr 2 nw 2 0 0] [some (pO np rn p),some (rO rn p),some (wO nw (w0::r,false))] 1
 (fun m d H=>d=.v (.string (mkS w0))∧H=[some (pO np m (yg p w0 (r,false)).1),none,some (wO nw (U6 (yg p w0 (r,false)).2)),some (rO m (yg p w0 (r,false)).1)])
theorem kI (nw:Nat) (w0:W8) (r:List W8):zE Tryz.prog 44 [.ptr 0 nw 2 0 0] [some (wO nw (w0::r,false))] (fun d H=>d=.v (.string (mkS w0))∧H=[some (wO nw (r,false))]):=tf nw (w0::r,false)
set_option maxHeartbeats 4000000 in
theorem UF (np rn nw:Nat) (p:Pl) (r:List W8) (hw:xG 1048576 (r,false)):tz np rn nw p yT r:=by
 have h0:=kI nw yT r
 have h1:=tf nw (r,false)
 have h2:=mN nw (nx (r,false)).2 (nx (r,false)).1 (sB hw).1
 have el:yg p yT (r,false)=({ p with ou:=(ad (nx (r,false)).1 (nx (r,false)).2).1 },(ad (nx (r,false)).1 (nx (r,false)).2).2):=by
  unfold yg
  rw [if_pos rfl]
 unfold tz
 rw [el]
 generalize (ad (nx (r,false)).1 (nx (r,false)).2).1=A at *
 generalize (ad (nx (r,false)).1 (nx (r,false)).2).2=T at *
 have c1:(ByteArray.mk #[111,117,116,115,105,100,101]:ByteArray)=mkS yT:=rfl
 have c2:(ByteArray.mk #[112,111,114,116,115]:ByteArray)=mkS zJ:=rfl
 have c3:(ByteArray.mk #[108,105,102,101]:ByteArray)=mkS y7:=rfl
 have c4:(ByteArray.mk #[114,97,116,101]:ByteArray)=mkS y6:=rfl
 have c5:(ByteArray.mk #[101,108,115,101]:ByteArray)=mkS y5:=rfl
 have n21:decide (mkS zJ=mkS yT)=false:=decide_eq_false (by rw [zg];decide)
 have n31:decide (mkS y7=mkS yT)=false:=decide_eq_false (by rw [zg];decide)
 have n32:decide (mkS y7=mkS zJ)=false:=decide_eq_false (by rw [zg];decide)
 have n41:decide (mkS y6=mkS yT)=false:=decide_eq_false (by rw [zg];decide)
 have n42:decide (mkS y6=mkS zJ)=false:=decide_eq_false (by rw [zg];decide)
 have n43:decide (mkS y6=mkS y7)=false:=decide_eq_false (by rw [zg];decide)
 have n51:decide (mkS y5=mkS yT)=false:=decide_eq_false (by rw [zg];decide)
 have n52:decide (mkS y5=mkS zJ)=false:=decide_eq_false (by rw [zg];decide)
 have n53:decide (mkS y5=mkS y7)=false:=decide_eq_false (by rw [zg];decide)
 have n54:decide (mkS y5=mkS y6)=false:=decide_eq_false (by rw [zg];decide)
 have e0:∀x:ByteArray,decide (x=x)=true:=fun x=>decide_eq_true rfl
 obtain ⟨l',b'⟩:=T
 cases b'
 all_goals
  refine yf {} 3 Tryz.func25 fun Γ hN0 hL0=>auC ?_
  have hnp:np<Γ.g0:=hN0 0 _ rfl
  have hnw:nw<Γ.g0:=hN0 2 _ rfl
  repeat' first|refine auS ?_|(first|(simp only [c1,c2,c3,c4,c5,e0,n21,zI,ao])|((with_reducible refine z_ 2 ?_ (zv 2 h0) (fun _ _ _ h=>h) ?_);(exact rfl))|((with_reducible refine z_ 2 ?_ (zv 2 h1) (fun _ _ _ h=>h) ?_);(exact rfl))|((with_reducible refine z_ 2 ?_ (zv 2 h2) (fun _ _ _ h=>h) ?_);(exact rfl)))|refine auD ?_|(refine auW ?_ ?_<;>intro h<;>try exact auH)|fail
  all_goals try exact auP
  all_goals refine wJ (yz iE) ?_
  all_goals refine ww [0,6,2,1] [Γ.g0] ?_ (by decide) rfl (fun a ha=>?_) (fun m=>?_) (fun m=>?_)
  any_goals (first|refine auR ?_|exact zc)
  all_goals first
   |exact trivial
   |(simp at ha;subst ha;exact ⟨1,_,rfl,rfl⟩)
   |(simp only [yk,nfD];(repeat' (first|exact trivial|exact rfl|apply And.intro));done)
   |(refine ⟨⟨.inr ⟨hnp,rfl⟩,rfl,?_⟩,⟨.inr ⟨hnw,rfl⟩,rfl,zz _ ⟨⟨xj _ _,trivial,trivial⟩,trivial⟩⟩,⟨.inl ⟨0,rfl,rfl⟩,rfl,zz _ (zl (fun x=>by simp [nfL,nfD]))⟩,rfl⟩;refine ⟨?_,rfl⟩;simp only [xI,yk,nfD];(repeat' (first|exact trivial|exact rfl|exact ⟨_,_,.inl ⟨0,rfl,rfl⟩,rfl⟩|apply And.intro)))
set_option maxHeartbeats 4000000 in
theorem Ui (np rn nw:Nat) (p:Pl) (r:List W8) (hw:xG 1048576 (r,false)):tz np rn nw p zJ r:=by
 have h0:=kI nw zJ r
 have h1:=wn nw (r,false) hw
 have h2:=wn nw (nu (r,false)).2 (jl hw)
 have el:yg p zJ (r,false)=({ p with lt:=(nu (r,false)).1,st:=(nu (nu (r,false)).2).1 },(nu (nu (r,false)).2).2):=by
  unfold yg
  rw [if_neg (by decide),if_pos rfl]
 unfold tz
 rw [el]
 generalize (nu (nu (r,false)).2).1=B at *
 generalize (nu (nu (r,false)).2).2=T at *
 generalize (nu (r,false)).1=A at *
 generalize (nu (r,false)).2=T1 at *
 have c1:(ByteArray.mk #[111,117,116,115,105,100,101]:ByteArray)=mkS yT:=rfl
 have c2:(ByteArray.mk #[112,111,114,116,115]:ByteArray)=mkS zJ:=rfl
 have c3:(ByteArray.mk #[108,105,102,101]:ByteArray)=mkS y7:=rfl
 have c4:(ByteArray.mk #[114,97,116,101]:ByteArray)=mkS y6:=rfl
 have c5:(ByteArray.mk #[101,108,115,101]:ByteArray)=mkS y5:=rfl
 have n21:decide (mkS zJ=mkS yT)=false:=decide_eq_false (by rw [zg];decide)
 have n31:decide (mkS y7=mkS yT)=false:=decide_eq_false (by rw [zg];decide)
 have n32:decide (mkS y7=mkS zJ)=false:=decide_eq_false (by rw [zg];decide)
 have n41:decide (mkS y6=mkS yT)=false:=decide_eq_false (by rw [zg];decide)
 have n42:decide (mkS y6=mkS zJ)=false:=decide_eq_false (by rw [zg];decide)
 have n43:decide (mkS y6=mkS y7)=false:=decide_eq_false (by rw [zg];decide)
 have n51:decide (mkS y5=mkS yT)=false:=decide_eq_false (by rw [zg];decide)
 have n52:decide (mkS y5=mkS zJ)=false:=decide_eq_false (by rw [zg];decide)
 have n53:decide (mkS y5=mkS y7)=false:=decide_eq_false (by rw [zg];decide)
 have n54:decide (mkS y5=mkS y6)=false:=decide_eq_false (by rw [zg];decide)
 have e0:∀x:ByteArray,decide (x=x)=true:=fun x=>decide_eq_true rfl
 obtain ⟨l',b'⟩:=T
 cases b'
 all_goals
  refine yf {} 3 Tryz.func25 fun Γ hN0 hL0=>auC ?_
  have hnp:np<Γ.g0:=hN0 0 _ rfl
  have hnw:nw<Γ.g0:=hN0 2 _ rfl
  repeat' first|refine auS ?_|(first|(simp only [c1,c2,c3,c4,c5,e0,n21,zI,ao])|((with_reducible refine z_ 2 ?_ (zv 2 h0) (fun _ _ _ h=>h) ?_);(exact rfl))|((with_reducible refine z_ 2 ?_ (zv 2 h1) (fun _ _ _ h=>h) ?_);(exact rfl))|((with_reducible refine z_ 2 ?_ (zv 2 h2) (fun _ _ _ h=>h) ?_);(exact rfl)))|refine auD ?_|(refine auW ?_ ?_<;>intro h<;>try exact auH)|fail
  all_goals try exact auP
  all_goals refine wJ (yz iE) ?_
  all_goals refine ww [0,6,2,1] [Γ.g0] ?_ (by decide) rfl (fun a ha=>?_) (fun m=>?_) (fun m=>?_)
  any_goals (first|refine auR ?_|exact zc)
  all_goals first
   |exact trivial
   |(simp at ha;subst ha;exact ⟨1,_,rfl,rfl⟩)
   |(simp only [yk,nfD];(repeat' (first|exact trivial|exact rfl|apply And.intro));done)
   |(refine ⟨⟨.inr ⟨hnp,rfl⟩,rfl,?_⟩,⟨.inr ⟨hnw,rfl⟩,rfl,zz _ ⟨⟨xj _ _,trivial,trivial⟩,trivial⟩⟩,⟨.inl ⟨0,rfl,rfl⟩,rfl,zz _ (zl (fun x=>by simp [nfL,nfD]))⟩,rfl⟩;refine ⟨?_,rfl⟩;simp only [xI,yk,nfD];(repeat' (first|exact trivial|exact rfl|exact ⟨_,_,.inl ⟨0,rfl,rfl⟩,rfl⟩|apply And.intro)))
set_option maxHeartbeats 4000000 in
theorem UM (np rn nw:Nat) (p:Pl) (r:List W8) (hw:xG 1048576 (r,false)):tz np rn nw p y7 r:=by
 have h0:=kI nw y7 r
 have h1:=wn nw (r,false) hw
 have h2:=h1
 have el:yg p y7 (r,false)=({ p with lf:=(nu (r,false)).1 },(nu (r,false)).2):=by
  unfold yg
  rw [if_neg (by decide),if_neg (by decide),if_pos rfl]
 unfold tz
 rw [el]
 generalize (nu (r,false)).1=A at *
 generalize (nu (r,false)).2=T at *
 have c1:(ByteArray.mk #[111,117,116,115,105,100,101]:ByteArray)=mkS yT:=rfl
 have c2:(ByteArray.mk #[112,111,114,116,115]:ByteArray)=mkS zJ:=rfl
 have c3:(ByteArray.mk #[108,105,102,101]:ByteArray)=mkS y7:=rfl
 have c4:(ByteArray.mk #[114,97,116,101]:ByteArray)=mkS y6:=rfl
 have c5:(ByteArray.mk #[101,108,115,101]:ByteArray)=mkS y5:=rfl
 have n21:decide (mkS zJ=mkS yT)=false:=decide_eq_false (by rw [zg];decide)
 have n31:decide (mkS y7=mkS yT)=false:=decide_eq_false (by rw [zg];decide)
 have n32:decide (mkS y7=mkS zJ)=false:=decide_eq_false (by rw [zg];decide)
 have n41:decide (mkS y6=mkS yT)=false:=decide_eq_false (by rw [zg];decide)
 have n42:decide (mkS y6=mkS zJ)=false:=decide_eq_false (by rw [zg];decide)
 have n43:decide (mkS y6=mkS y7)=false:=decide_eq_false (by rw [zg];decide)
 have n51:decide (mkS y5=mkS yT)=false:=decide_eq_false (by rw [zg];decide)
 have n52:decide (mkS y5=mkS zJ)=false:=decide_eq_false (by rw [zg];decide)
 have n53:decide (mkS y5=mkS y7)=false:=decide_eq_false (by rw [zg];decide)
 have n54:decide (mkS y5=mkS y6)=false:=decide_eq_false (by rw [zg];decide)
 have e0:∀x:ByteArray,decide (x=x)=true:=fun x=>decide_eq_true rfl
 obtain ⟨l',b'⟩:=T
 cases b'
 all_goals
  refine yf {} 3 Tryz.func25 fun Γ hN0 hL0=>auC ?_
  have hnp:np<Γ.g0:=hN0 0 _ rfl
  have hnw:nw<Γ.g0:=hN0 2 _ rfl
  repeat' first|refine auS ?_|(first|(simp only [c1,c2,c3,c4,c5,e0,n31,n32,zI,ao])|((with_reducible refine z_ 2 ?_ (zv 2 h0) (fun _ _ _ h=>h) ?_);(exact rfl))|((with_reducible refine z_ 2 ?_ (zv 2 h1) (fun _ _ _ h=>h) ?_);(exact rfl))|((with_reducible refine z_ 2 ?_ (zv 2 h2) (fun _ _ _ h=>h) ?_);(exact rfl)))|refine auD ?_|(refine auW ?_ ?_<;>intro h<;>try exact auH)|fail
  all_goals try exact auP
  all_goals refine wJ (yz iE) ?_
  all_goals refine ww [0,6,2,1] [Γ.g0] ?_ (by decide) rfl (fun a ha=>?_) (fun m=>?_) (fun m=>?_)
  any_goals (first|refine auR ?_|exact zc)
  all_goals first
   |exact trivial
   |(simp at ha;subst ha;exact ⟨1,_,rfl,rfl⟩)
   |(simp only [yk,nfD];(repeat' (first|exact trivial|exact rfl|apply And.intro));done)
   |(refine ⟨⟨.inr ⟨hnp,rfl⟩,rfl,?_⟩,⟨.inr ⟨hnw,rfl⟩,rfl,zz _ ⟨⟨xj _ _,trivial,trivial⟩,trivial⟩⟩,⟨.inl ⟨0,rfl,rfl⟩,rfl,zz _ (zl (fun x=>by simp [nfL,nfD]))⟩,rfl⟩;refine ⟨?_,rfl⟩;simp only [xI,yk,nfD];(repeat' (first|exact trivial|exact rfl|exact ⟨_,_,.inl ⟨0,rfl,rfl⟩,rfl⟩|apply And.intro)))
set_option maxHeartbeats 4000000 in
theorem Ux (np rn nw:Nat) (p:Pl) (r:List W8) (hw:xG 1048576 (r,false)):tz np rn nw p y6 r:=by
 have h0:=kI nw y6 r
 have h1:=wn nw (r,false) hw
 have h2:=wn nw (nu (r,false)).2 (jl hw)
 have el:yg p y6 (r,false)=({ p with ra:=(nu (r,false)).1,mo:=(nu (nu (r,false)).2).1 },(nu (nu (r,false)).2).2):=by
  unfold yg
  rw [if_neg (by decide),if_neg (by decide),if_neg (by decide),if_pos rfl]
 unfold tz
 rw [el]
 generalize (nu (nu (r,false)).2).1=B at *
 generalize (nu (nu (r,false)).2).2=T at *
 generalize (nu (r,false)).1=A at *
 generalize (nu (r,false)).2=T1 at *
 have c1:(ByteArray.mk #[111,117,116,115,105,100,101]:ByteArray)=mkS yT:=rfl
 have c2:(ByteArray.mk #[112,111,114,116,115]:ByteArray)=mkS zJ:=rfl
 have c3:(ByteArray.mk #[108,105,102,101]:ByteArray)=mkS y7:=rfl
 have c4:(ByteArray.mk #[114,97,116,101]:ByteArray)=mkS y6:=rfl
 have c5:(ByteArray.mk #[101,108,115,101]:ByteArray)=mkS y5:=rfl
 have n21:decide (mkS zJ=mkS yT)=false:=decide_eq_false (by rw [zg];decide)
 have n31:decide (mkS y7=mkS yT)=false:=decide_eq_false (by rw [zg];decide)
 have n32:decide (mkS y7=mkS zJ)=false:=decide_eq_false (by rw [zg];decide)
 have n41:decide (mkS y6=mkS yT)=false:=decide_eq_false (by rw [zg];decide)
 have n42:decide (mkS y6=mkS zJ)=false:=decide_eq_false (by rw [zg];decide)
 have n43:decide (mkS y6=mkS y7)=false:=decide_eq_false (by rw [zg];decide)
 have n51:decide (mkS y5=mkS yT)=false:=decide_eq_false (by rw [zg];decide)
 have n52:decide (mkS y5=mkS zJ)=false:=decide_eq_false (by rw [zg];decide)
 have n53:decide (mkS y5=mkS y7)=false:=decide_eq_false (by rw [zg];decide)
 have n54:decide (mkS y5=mkS y6)=false:=decide_eq_false (by rw [zg];decide)
 have e0:∀x:ByteArray,decide (x=x)=true:=fun x=>decide_eq_true rfl
 obtain ⟨l',b'⟩:=T
 cases b'
 all_goals
  refine yf {} 3 Tryz.func25 fun Γ hN0 hL0=>auC ?_
  have hnp:np<Γ.g0:=hN0 0 _ rfl
  have hnw:nw<Γ.g0:=hN0 2 _ rfl
  repeat' first|refine auS ?_|(first|(simp only [c1,c2,c3,c4,c5,e0,n41,n42,n43,zI,ao])|((with_reducible refine z_ 2 ?_ (zv 2 h0) (fun _ _ _ h=>h) ?_);(exact rfl))|((with_reducible refine z_ 2 ?_ (zv 2 h1) (fun _ _ _ h=>h) ?_);(exact rfl))|((with_reducible refine z_ 2 ?_ (zv 2 h2) (fun _ _ _ h=>h) ?_);(exact rfl)))|refine auD ?_|(refine auW ?_ ?_<;>intro h<;>try exact auH)|fail
  all_goals try exact auP
  all_goals refine wJ (yz iE) ?_
  all_goals refine ww [0,6,2,1] [Γ.g0] ?_ (by decide) rfl (fun a ha=>?_) (fun m=>?_) (fun m=>?_)
  any_goals (first|refine auR ?_|exact zc)
  all_goals first
   |exact trivial
   |(simp at ha;subst ha;exact ⟨1,_,rfl,rfl⟩)
   |(simp only [yk,nfD];(repeat' (first|exact trivial|exact rfl|apply And.intro));done)
   |(refine ⟨⟨.inr ⟨hnp,rfl⟩,rfl,?_⟩,⟨.inr ⟨hnw,rfl⟩,rfl,zz _ ⟨⟨xj _ _,trivial,trivial⟩,trivial⟩⟩,⟨.inl ⟨0,rfl,rfl⟩,rfl,zz _ (zl (fun x=>by simp [nfL,nfD]))⟩,rfl⟩;refine ⟨?_,rfl⟩;simp only [xI,yk,nfD];(repeat' (first|exact trivial|exact rfl|exact ⟨_,_,.inl ⟨0,rfl,rfl⟩,rfl⟩|apply And.intro)))
set_option maxHeartbeats 4000000 in
theorem Ue (np rn nw:Nat) (p:Pl) (r:List W8) (hw:xG 1048576 (r,false)):tz np rn nw p y5 r:=by
 have h0:=kI nw y5 r
 have h1:=tf nw (r,false)
 have h2:=rE nw (nx (r,false)).2 (nx (r,false)).1
 have el:yg p y5 (r,false)=({ p with el:=(vd (nx (r,false)).1 (nx (r,false)).2).1 },(vd (nx (r,false)).1 (nx (r,false)).2).2):=by
  unfold yg
  rw [if_neg (by decide),if_neg (by decide),if_neg (by decide),if_neg (by decide),if_pos rfl]
 unfold tz
 rw [el]
 generalize (vd (nx (r,false)).1 (nx (r,false)).2).1=A at *
 generalize (vd (nx (r,false)).1 (nx (r,false)).2).2=T at *
 generalize (nx (r,false)).1=s1 at *
 generalize (nx (r,false)).2=t1 at *
 have c1:(ByteArray.mk #[111,117,116,115,105,100,101]:ByteArray)=mkS yT:=rfl
 have c2:(ByteArray.mk #[112,111,114,116,115]:ByteArray)=mkS zJ:=rfl
 have c3:(ByteArray.mk #[108,105,102,101]:ByteArray)=mkS y7:=rfl
 have c4:(ByteArray.mk #[114,97,116,101]:ByteArray)=mkS y6:=rfl
 have c5:(ByteArray.mk #[101,108,115,101]:ByteArray)=mkS y5:=rfl
 have n21:decide (mkS zJ=mkS yT)=false:=decide_eq_false (by rw [zg];decide)
 have n31:decide (mkS y7=mkS yT)=false:=decide_eq_false (by rw [zg];decide)
 have n32:decide (mkS y7=mkS zJ)=false:=decide_eq_false (by rw [zg];decide)
 have n41:decide (mkS y6=mkS yT)=false:=decide_eq_false (by rw [zg];decide)
 have n42:decide (mkS y6=mkS zJ)=false:=decide_eq_false (by rw [zg];decide)
 have n43:decide (mkS y6=mkS y7)=false:=decide_eq_false (by rw [zg];decide)
 have n51:decide (mkS y5=mkS yT)=false:=decide_eq_false (by rw [zg];decide)
 have n52:decide (mkS y5=mkS zJ)=false:=decide_eq_false (by rw [zg];decide)
 have n53:decide (mkS y5=mkS y7)=false:=decide_eq_false (by rw [zg];decide)
 have n54:decide (mkS y5=mkS y6)=false:=decide_eq_false (by rw [zg];decide)
 have e0:∀x:ByteArray,decide (x=x)=true:=fun x=>decide_eq_true rfl
 obtain ⟨l',b'⟩:=T
 cases b'
 all_goals
  refine yf {} 3 Tryz.func25 fun Γ hN0 hL0=>auC ?_
  have hnp:np<Γ.g0:=hN0 0 _ rfl
  have hnw:nw<Γ.g0:=hN0 2 _ rfl
  repeat' first|refine auS ?_|(first|(simp only [c1,c2,c3,c4,c5,e0,n51,n52,n53,n54,zI,ao])|((with_reducible refine z_ 2 ?_ (zv 2 h0) (fun _ _ _ h=>h) ?_);(exact rfl))|((with_reducible refine z_ 2 ?_ (zv 2 h1) (fun _ _ _ h=>h) ?_);(exact rfl))|((with_reducible refine z_ 2 ?_ (zv 2 h2) (fun _ _ _ h=>h) ?_);(exact rfl)))|refine auD ?_|(refine auW ?_ ?_<;>intro h<;>try exact auH)|fail
  all_goals try exact auP
  all_goals refine wJ (yz iE) ?_
  all_goals refine ww [0,6,2,1] [Γ.g0] ?_ (by decide) rfl (fun a ha=>?_) (fun m=>?_) (fun m=>?_)
  any_goals (first|refine auR ?_|exact zc)
  all_goals first
   |exact trivial
   |(simp at ha;subst ha;exact ⟨1,_,rfl,rfl⟩)
   |(simp only [yk,nfD];(repeat' (first|exact trivial|exact rfl|apply And.intro));done)
   |(refine ⟨⟨.inr ⟨hnp,rfl⟩,rfl,?_⟩,⟨.inr ⟨hnw,rfl⟩,rfl,zz _ ⟨⟨xj _ _,trivial,trivial⟩,trivial⟩⟩,⟨.inl ⟨0,rfl,rfl⟩,rfl,zz _ (zl (fun x=>by simp [nfL,nfD]))⟩,rfl⟩;refine ⟨?_,rfl⟩;simp only [xI,yk,nfD];(repeat' (first|exact trivial|exact rfl|exact ⟨_,_,.inl ⟨0,rfl,rfl⟩,rfl⟩|apply And.intro)))
end Go.Proofs.YtaiileiodjicpaaGreatDoor.R
namespace Go.Proofs.YtaiileiodjicpaaGreatDoor.R
attribute [local irreducible] zF Go
set_option maxRecDepth 100000
theorem VM:∀l:List Rl,zQ (l.map Rl.enc)=true:=yx (fun x=>rfl)
set_option maxHeartbeats 8000000 in
theorem Ut (np rn nw:Nat) (p:Pl) (w0:W8) (r:List W8) (hw:xG 1048576 (r,false)) (hl:p.rs.length≤1048576) (h1':¬w0=yT) (h2':¬w0=zJ) (h3':¬w0=y7) (h4':¬w0=y6) (h5':¬w0=y5):tz np rn nw p w0 r:=by
 have h0:=kI nw w0 r
 have l1:xG 1048576 (vd w0 (r,false)).2:=hw
 have l2:=dO l1
 have l3:=dO l2
 have l4:=jl l3
 have l5:=W_ l4
 have h1:=rE nw (r,false) w0
 have h2:=kM nw _ l1
 have h3:=kM nw _ l2
 have h4:=wn nw _ l3
 have h5:=qV nw _ l4
 have h6:=qV nw _ l5
 clear l1 l2 l3 l4 l5
 have el:yg p w0 (r,false)=({ p with rs:=p.rs++[⟨(nt (vd w0 (r,false)).2).1.1,(nt (vd w0 (r,false)).2).1.2,(nt (nt (vd w0 (r,false)).2).2).1.1,(nt (nt (vd w0 (r,false)).2).2).1.2,(nu (nt (nt (vd w0 (r,false)).2).2).2).1,(bo (nu (nt (nt (vd w0 (r,false)).2).2).2).2).1.1,(bo (nu (nt (nt (vd w0 (r,false)).2).2).2).2).1.2,(bo (bo (nu (nt (nt (vd w0 (r,false)).2).2).2).2).2).1.1,(bo (bo (nu (nt (nt (vd w0 (r,false)).2).2).2).2).2).1.2,(vd w0 (r,false)).1⟩] },(bo (bo (nu (nt (nt (vd w0 (r,false)).2).2).2).2).2).2):=by
  unfold yg
  rw [if_neg h1',if_neg h2',if_neg h3',if_neg h4',if_neg h5']
  rfl
 unfold tz
 rw [el]
 generalize (bo (bo (nu (nt (nt (vd w0 (r,false)).2).2).2).2).2).1.1=E1 at *
 generalize (bo (bo (nu (nt (nt (vd w0 (r,false)).2).2).2).2).2).1.2=E2 at *
 generalize (bo (bo (nu (nt (nt (vd w0 (r,false)).2).2).2).2).2).2=T at *
 generalize (bo (nu (nt (nt (vd w0 (r,false)).2).2).2).2).1.1=D1 at *
 generalize (bo (nu (nt (nt (vd w0 (r,false)).2).2).2).2).1.2=D2 at *
 generalize (bo (nu (nt (nt (vd w0 (r,false)).2).2).2).2).2=T5 at *
 generalize (nu (nt (nt (vd w0 (r,false)).2).2).2).1=C1 at *
 generalize (nu (nt (nt (vd w0 (r,false)).2).2).2).2=T4 at *
 generalize (nt (nt (vd w0 (r,false)).2).2).1.1=B1 at *
 generalize (nt (nt (vd w0 (r,false)).2).2).1.2=B2 at *
 generalize (nt (nt (vd w0 (r,false)).2).2).2=T3 at *
 generalize (nt (vd w0 (r,false)).2).1.1=A1 at *
 generalize (nt (vd w0 (r,false)).2).1.2=A2 at *
 generalize (nt (vd w0 (r,false)).2).2=T2 at *
 generalize (vd w0 (r,false)).1=V1 at *
 generalize (vd w0 (r,false)).2=T1 at *
 have x1:∀x:Rl,(p.rs++[x]).length=p.rs.length+1:=fun x=>by simp
 have x2:∀x:Rl,(p.rs++[x]).map Rl.enc=p.rs.map Rl.enc++[x.enc]:=fun x=>by simp
 have hone:=VM p.rs
 have hnf:∀g,yA g (p.rs.map Rl.enc):=fun g=>zl (fun x=>by simp [nfL,nfD])
 have hml:(p.rs.map Rl.enc).length=p.rs.length:=by simp
 have hnf2:∀(x:Rl) (g:Nat),yA g (p.rs.map Rl.enc++[x.enc]):=fun x g=>by
  rw [←x2]
  exact zl (fun x=>by simp [nfL,nfD])
 unfold rO
 generalize p.rs.map Rl.enc=X at *
 have c1:(ByteArray.mk #[111,117,116,115,105,100,101]:ByteArray)=mkS yT:=rfl
 have c2:(ByteArray.mk #[112,111,114,116,115]:ByteArray)=mkS zJ:=rfl
 have c3:(ByteArray.mk #[108,105,102,101]:ByteArray)=mkS y7:=rfl
 have c4:(ByteArray.mk #[114,97,116,101]:ByteArray)=mkS y6:=rfl
 have c5:(ByteArray.mk #[101,108,115,101]:ByteArray)=mkS y5:=rfl
 have n21:decide (mkS zJ=mkS yT)=false:=decide_eq_false (by rw [zg];decide)
 have n31:decide (mkS y7=mkS yT)=false:=decide_eq_false (by rw [zg];decide)
 have n32:decide (mkS y7=mkS zJ)=false:=decide_eq_false (by rw [zg];decide)
 have n41:decide (mkS y6=mkS yT)=false:=decide_eq_false (by rw [zg];decide)
 have n42:decide (mkS y6=mkS zJ)=false:=decide_eq_false (by rw [zg];decide)
 have n43:decide (mkS y6=mkS y7)=false:=decide_eq_false (by rw [zg];decide)
 have n51:decide (mkS y5=mkS yT)=false:=decide_eq_false (by rw [zg];decide)
 have n52:decide (mkS y5=mkS zJ)=false:=decide_eq_false (by rw [zg];decide)
 have n53:decide (mkS y5=mkS y7)=false:=decide_eq_false (by rw [zg];decide)
 have n54:decide (mkS y5=mkS y6)=false:=decide_eq_false (by rw [zg];decide)
 have e0:∀x:ByteArray,decide (x=x)=true:=fun x=>decide_eq_true rfl
 have d1:decide (mkS w0=mkS yT)=false:=decide_eq_false (fun q=>h1' (zg.1 q))
 have d2:decide (mkS w0=mkS zJ)=false:=decide_eq_false (fun q=>h2' (zg.1 q))
 have d3:decide (mkS w0=mkS y7)=false:=decide_eq_false (fun q=>h3' (zg.1 q))
 have d4:decide (mkS w0=mkS y6)=false:=decide_eq_false (fun q=>h4' (zg.1 q))
 have d5:decide (mkS w0=mkS y5)=false:=decide_eq_false (fun q=>h5' (zg.1 q))
 obtain ⟨l',b'⟩:=T
 cases b'
 all_goals
  refine yf {} 3 Tryz.func25 fun Γ hN0 hL0=>auC ?_
  have hnp:np<Γ.g0:=hN0 0 _ rfl
  have hnw:nw<Γ.g0:=hN0 2 _ rfl
  repeat' first|refine auS ?_|(first|(simp only [c1,c2,c3,c4,c5,d1,d2,d3,d4,d5,zI,ao])|((with_reducible refine z_ 2 ?_ (zv 2 h0) (fun _ _ _ h=>h) ?_);(exact rfl))|((with_reducible refine z_ 2 ?_ (zv 2 h1) (fun _ _ _ h=>h) ?_);(exact rfl))|((with_reducible refine z_ 2 ?_ (zv 2 h2) (fun _ _ _ h=>h) ?_);(exact rfl))|((with_reducible refine z_ 2 ?_ (zv 2 h3) (fun _ _ _ h=>h) ?_);(exact rfl))|((with_reducible refine z_ 2 ?_ (zv 2 h4) (fun _ _ _ h=>h) ?_);(exact rfl))|((with_reducible refine z_ 2 ?_ (zv 2 h5) (fun _ _ _ h=>h) ?_);(exact rfl))|((with_reducible refine z_ 2 ?_ (zv 2 h6) (fun _ _ _ h=>h) ?_);(exact rfl)))|refine auD ?_|(refine auW ?_ ?_<;>intro h<;>try exact auH)|(first|(refine zf ⟨by trivial,by trivial,by trivial,by trivial,hml.symm⟩ ?_)|(refine zf ⟨by trivial,by rw [hml];unfold y8 maxLen;simp only [List.length_cons,List.length_nil];omega⟩ ?_)|(simp only [hml])|fail)
  all_goals try exact auP
 all_goals refine ww [0,1,2,5] [Γ.g0+1+1] ?_ (by decide) rfl (fun a ha=>?_) (fun m=>?_) (fun m=>?_)
 any_goals (first|refine auR ?_|exact zc)
 all_goals first
  |exact trivial
  |(simp at ha;subst ha;exact ⟨5,_,rfl,rfl⟩)
  |(simp only [yk,nfD];(repeat' (first|exact trivial|exact rfl|apply And.intro));done)
  |(refine ⟨⟨.inr ⟨hnp,rfl⟩,rfl,?_⟩,⟨.inr ⟨hnw,rfl⟩,rfl,zz _ ⟨⟨xj _ _,trivial,trivial⟩,trivial⟩⟩,⟨.inl ⟨0,rfl,rfl⟩,rfl,?_⟩,rfl⟩
    ·refine ⟨?_,rfl⟩
     simp only [xI,yk,nfD]
     (repeat' (first|exact trivial|exact rfl|exact ⟨1,m,.inl ⟨0,rfl,rfl⟩,by rw [x1]⟩|apply And.intro))
    ·rw [x2]
     exact zz _ (hnf2 ⟨A1,A2,B1,B2,C1,D1,D2,E1,E2,V1⟩ _))
theorem ai (np rn nw:Nat) (p:Pl) (w0:W8) (r:List W8) (hw:xG 1048576 (r,false)) (hl:p.rs.length≤1048576):tz np rn nw p w0 r:=by
 by_cases h1:w0=yT
 ·subst h1
  exact UF np rn nw p r hw
 by_cases h2:w0=zJ
 ·subst h2
  exact Ui np rn nw p r hw
 by_cases h3:w0=y7
 ·subst h3
  exact UM np rn nw p r hw
 by_cases h4:w0=y6
 ·subst h4
  exact Ux np rn nw p r hw
 by_cases h5:w0=y5
 ·subst h5
  exact Ue np rn nw p r hw
 exact Ut np rn nw p w0 r hw hl h1 h2 h3 h4 h5
theorem Ur (k np rn nw:Nat) (p:Pl) (w0:W8) (r:List W8) (hw:xG 1048576 (r,false)) (hl:p.rs.length≤1048576):xt Tryz.prog 25 [.ptr k np 8 0 0,.ptr 2 nw 2 0 0] [some (pO np rn p),some (rO rn p),some (wO nw (w0::r,false))] 1
 (fun m d H=>d=.v (.string (mkS w0))∧H=[some (pO np m (yg p w0 (r,false)).1),none,some (wO nw (U6 (yg p w0 (r,false)).2)),some (rO m (yg p w0 (r,false)).1)]):=kJ k (ai np rn nw p w0 r hw hl)
end Go.Proofs.YtaiileiodjicpaaGreatDoor.R
