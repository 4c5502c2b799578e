import Derived.Lib.Builder
import Derived.Laws.Externs
import Derived.Lib.UnsafeStr
import Derived.Shelf.Strings.Builder1
import Derived.BigCall
import Derived.BigGuard
import Derived.Sort.Grow
import Derived.Test.YtaiileiodjicpaaGreatDoorTt15
import Derived.Test.YtaiileiodjicpaaGreatDoorTt36
import Derived.Test.YtaiileiodjicpaaGreatDoorTt42
set_option linter.unusedVariables false
set_option linter.unusedSimpArgs false
namespace Go.Proofs.YtaiileiodjicpaaGreatDoor
open Go.RowKit in
set_option maxHeartbeats 1000000 in
set_option maxRecDepth 100000 in
theorem aP (b:Nat) (w:World) (h0:w.cell? ⟨b,0,none⟩=some (.pointer (some ⟨b,0,none⟩))) :
  Calls Tryz.prog 35 #[.pointer (some ⟨b,0,none⟩)] w fun e w'=>e=.returned (.tuple #[])∧w'=w:=by
 obtain ⟨j,hj,_⟩:=Option.map_eq_some_iff.1 (show (Tryz.prog.info? 58).map (·.size)=some 2 by kernel_rfl)
 have mixed:=p7
 go_enter Tryz.func35,Tryz.ntmps35
 go_wp2
 rw [Lib.run_neq_ptr_same w _ Tryz.underlying55 hj]
 go_wp2
 go_end0
 exact ⟨rfl,rfl⟩
open Go.RowKit in
set_option maxHeartbeats 1000000 in
set_option maxRecDepth 100000 in
theorem db (b:Nat) (w:World) (h0:w.cell? ⟨b,0,none⟩=some (.pointer none)) (hsh:w.shape? b=some (58,2)) (hfz:w.frozen? ⟨b,0,none⟩=false) :
  Calls Tryz.prog 35 #[.pointer (some ⟨b,0,none⟩)] w fun e w'=>e=.returned (.tuple #[])∧w'=w.setCell ⟨b,0,none⟩ (.pointer (some ⟨b,0,none⟩)):=by
 obtain ⟨j,hj,hjs⟩:=Option.map_eq_some_iff.1 (show (Tryz.prog.info? 58).map (·.size)=some 2 by kernel_rfl)
 have hlies:liesAt Tryz.prog Tryz.prog.depth 58 (2 / Tryz.prog.cellsOf 58) 0 58 1=true:=by kernel_rfl
 have mixed:=p7
 go_enter Tryz.func35,Tryz.ntmps35
 go_wp2
 rw [Lib.run_to_unsafe w ⟨b,0,none⟩ Tryz.underlying55 Tryz.underlying138 hj (by rw [hjs];decide) hsh (Nat.zero_lt_succ 1)]
 simp only [Result.andThen]
 rw [Oper.upon_value]
 go_wp2
 rw [run_callFunc_extern (fn:=Tryz.f57) Tryz.func57 (by kernel_rfl) (by kernel_rfl) (by kernel_rfl) (e:=Extern.AbiNoEscape.same) (by kernel_rfl)]
 rw [Lib.run_noEscape]
 simp only [Result.andThen]
 rw [Oper.upon_value]
 go_wp2
 rw [Lib.run_from_unsafe w ⟨b,0,none⟩ Tryz.underlying138 Tryz.underlying55 hj hsh hlies]
 simp only [Result.andThen]
 rw [Oper.upon_value]
 go_wp2
 go_end0
 exact ⟨rfl,rfl⟩
abbrev xA:TypeId:=58
theorem WC {st:St} (s:Sl) (k:Nat) {n sz:Nat} {T:TypeId} (hs:st.tm.get s=.tptr n sz T):Le st ⟨st.tm.set s (.ptr k n sz 0 0),st.H,st.gen⟩:=by
 intro Γ N K a w hR
 refine ⟨K,hR.inv,hR.fresh,hR.g0,hR.size,hR.defers,fun q=>?_⟩
 show ze K w ((st.tm.set s _).get q) _
 rw [Env.get_set]
 by_cases e:q=s
 ·rw [if_pos e,e]
  have:=hR.tm s
  rw [hs] at this
  generalize a.tmps.getD s.nat undef=v at this ⊢
  cases this with
  |tptr hr hc=>
   obtain ⟨cs,fr,hh,hz⟩:=hc
   have h2:ze K w (.ptr k n sz 0 0) (.pointer (some ⟨K.μ n,0*sz+0,none⟩)):=.ptr hr ⟨cs,T,fr,hh⟩
   simpa using h2
 ·rw [if_neg e]
  exact hR.tm q
theorem Ud (nb:Nat) (d:DV):zE Tryz.prog 35 [.tptr nb 2 xA] [some ⟨nb,2,[[.v (.pointer none),d]]⟩] (fun r H=>r=.tup []∧H=[some ⟨nb,2,[[.tptr nb 2 xA,d]]⟩]):=by
 refine ⟨by kernel_rfl,fun K w vs g0 hI hlt hargs=>?_⟩
 obtain ⟨v,rfl,hv⟩:=cS hargs
 cases hv with
 |tptr hr hc=>
  obtain ⟨cs,fr,hh,hz⟩:=hc
  rcases (hI.obj 0 _ rfl).two (fun q=>by have:=q.2.1;cases this) with ⟨q1,q2⟩|⟨q1,cs',t',fr',q2,q3,q4,q5,q6⟩
  ·exact absurd hr q1
  ·dsimp only at q2 q3 q4 q6
   rw [hh] at q3
   obtain ⟨rfl,rfl,rfl⟩:cs=cs'∧_=t'∧fr=fr':=by
    have:=Option.some.inj q3
    exact ⟨by injection this,by injection this,by injection this⟩
   obtain ⟨c0,hc0,hv0⟩:=q6 0 _ 0 _ rfl rfl
   obtain ⟨c1,hc1,hv1⟩:=q6 0 _ 1 d rfl rfl
   cases hv0
   have h0:w.cell? ⟨(K.cut w).μ nb,0,none⟩=some (.pointer none):=by simp [World.cell?,hh,hc0]
   have hsh:w.shape? ((K.cut w).μ nb)=some (xA,2):=by simp [World.shape?,hh,hz]
   have hfz:w.frozen? ⟨(K.cut w).μ nb,0,none⟩=false:=by
    obtain ⟨lo,hi⟩:=fr
    have hn:=q2.1
    simp only [World.frozen?,hh,Bool.and_eq_false_iff,decide_eq_false_iff_not]
    simp only [NF] at hn
    omega
   have hcall:=db ((K.cut w).μ nb) w h0 hsh hfz
   refine hcall.mono ?_
   rintro e w' ⟨rfl,rfl⟩
   have hw:=setCell_eq_setRow w ((K.cut w).μ nb) 0 cs xA fr (.pointer (some ⟨(K.cut w).μ nb,0,none⟩)) hh
   have hM:yF (K.cut w) w (K.cut w) (w.setRow ((K.cut w).μ nb) (cs.setIfInBounds 0 (.pointer (some ⟨(K.cut w).μ nb,0,none⟩)))):=⟨mH hh (by simp) (hI.own 0 _ rfl hr).1,fun n h=>⟨h,rfl⟩,fun g _ h=>h⟩
   have hnew:=setRow_heap w ((K.cut w).μ nb) cs (cs.setIfInBounds 0 (.pointer (some ⟨(K.cut w).μ nb,0,none⟩))) xA fr hh
   have hoth:∀g,g≠(K.cut w).μ nb→(w.setRow ((K.cut w).μ nb) (cs.setIfInBounds 0 (.pointer (some ⟨(K.cut w).μ nb,0,none⟩)))).heap[g]?=w.heap[g]?:=fun g hg=>qP hg
   rw [hw]
   generalize w.setRow ((K.cut w).μ nb) (cs.setIfInBounds 0 (.pointer (some ⟨(K.cut w).μ nb,0,none⟩)))=w' at *
   have hp:ze (K.cut w) w' (.tptr nb 2 xA) (.pointer (some ⟨(K.cut w).μ nb,0,none⟩)):=.tptr hr ⟨_,fr,hnew,by simp [hz]⟩
   have hrel:qK (K.cut w) w' ⟨nb,2,[[.tptr nb 2 xA,d]]⟩:=by
    refine .inr (.inl ⟨hr,_,xA,fr,by rw [Array.size_setIfInBounds];exact q2,hnew,by simp [hz],fun x hx=>?_,fun i x j e hx he=>?_⟩)
    ·simp at hx
     rw [hx]
     rfl
    ·match i,hx with
     |0,hx=>
      obtain rfl:=Option.some.inj hx
      match j,he with
      |0,he=>
       obtain rfl:=Option.some.inj he
       exact ⟨_,by simp [hz],hp⟩
      |1,he=>
       obtain rfl:=Option.some.inj he
       exact ⟨c1,by simpa using hc1,hv1.mono hM⟩
      |j+2,he=>simp at he
     |i+1,hx=>simp at hx
   have hI2:=sc hI (k:=0) rfl hr hM hoth hrel
   refine ⟨.tuple #[],.tup [],_,rfl,⟨rfl,rfl⟩,?_,.tup rfl (fun i d c h=>by simp at h)⟩
   have e:(fun j=>if j=0 then some (zj.mk nb 2 [[.tptr nb 2 xA,d]]) else zd [some (zj.mk nb 2 [[.v (.pointer none),d]])] j)=zd [some (zj.mk nb 2 [[.tptr nb 2 xA,d]])]:=by
    funext j
    cases j with
    |zero=>rfl
    |succ j=>rfl
   rw [←e]
   exact hI2
theorem Um (nb:Nat) (d:DV):zE Tryz.prog 35 [.tptr nb 2 xA] [some ⟨nb,2,[[.tptr nb 2 xA,d]]⟩] (fun r H=>r=.tup []∧H=[some ⟨nb,2,[[.tptr nb 2 xA,d]]⟩]):=by
 refine ⟨by kernel_rfl,fun K w vs g0 hI hlt hargs=>?_⟩
 obtain ⟨v,rfl,hv⟩:=cS hargs
 cases hv with
 |tptr hr hc=>
  obtain ⟨cs,fr,hh,hz⟩:=hc
  rcases (hI.obj 0 _ rfl).two (fun q=>by have:=q.2.1;cases this) with ⟨q1,q2⟩|⟨q1,cs',t',fr',q2,q3,q4,q5,q6⟩
  ·exact absurd hr q1
  ·dsimp only at q2 q3 q4 q6
   rw [hh] at q3
   obtain ⟨rfl,rfl,rfl⟩:cs=cs'∧_=t'∧fr=fr':=by
    have:=Option.some.inj q3
    exact ⟨by injection this,by injection this,by injection this⟩
   obtain ⟨c0,hc0,hv0⟩:=q6 0 _ 0 _ rfl rfl
   cases hv0
   have h0:w.cell? ⟨(K.cut w).μ nb,0,none⟩=some (.pointer (some ⟨(K.cut w).μ nb,0,none⟩)):=by simp [World.cell?,hh,hc0]
   refine (aP ((K.cut w).μ nb) w h0).mono ?_
   rintro e w' ⟨rfl,rfl⟩
   exact ⟨.tuple #[],.tup [],_,rfl,⟨rfl,rfl⟩,hI,.tup rfl (fun i d c h=>by simp at h)⟩
end Go.Proofs.YtaiileiodjicpaaGreatDoor
namespace Go.Proofs.YtaiileiodjicpaaGreatDoor
attribute [local irreducible] zF Go
set_option maxRecDepth 100000
abbrev bR (l:List UInt8):List (List DV):=l.map fun b=>[.v (.int .u8 (b.toNat:Int))]
abbrev oB (nb:Nat) (a:DV) (k bn:Nat) (l:List UInt8):zj:=⟨nb,2,[[a,.tsl k bn l.length 5]]⟩
abbrev oR (bn:Nat) (l:List UInt8):zj:=⟨bn,1,bR l⟩
theorem ot (l:List UInt8):yp (mkS l)=bR l:=by simp [yp,mkS,bR]
theorem YN:∀l:List UInt8,zQ (bR l)=true
 |[]=>rfl
 |b::l=>YN l
theorem Zj (g:Nat) (l:List UInt8):yA g (bR l):=zl (fun x=>by simp [nfL,nfD])
theorem U2 (l t:List UInt8):bR l++bR t=bR (l++t):=by simp [bR]
theorem ZK (l:List UInt8):(bR l).length=l.length:=by simp [bR]
theorem ZI {st:St} (s s':Sl) (k:Nat) {n sz:Nat} {T:TypeId} (hs:st.tm.get s=.tptr n sz T) (h':st.tm.get s'=.tup []):Le st ⟨st.tm.set s (.ptr k n sz 0 0),st.H,st.gen⟩:=WC s k hs
set_option maxHeartbeats 2000000 in
theorem YE (nb bn:Nat) (a:DV) (l t:List UInt8) (hlen:l.length+t.length≤1048576) (hcopy:zE Tryz.prog 35 [.tptr nb 2 xA] [some (oB nb a 1 bn l)] (fun r H=>r=.tup []∧H=[some (oB nb (.tptr nb 2 xA) 1 bn l)])) :
  xt Tryz.prog 13 [.tptr nb 2 xA,.v (.string (mkS t))] [some (oB nb a 1 bn l),some (oR bn l)] 1 (fun m d H=>d=.tup [.v (.int .i64 (t.length:Nat)),.v .nilIface]∧H=[some (oB nb (.tptr nb 2 xA) 1 m (l++t)),none,some (oR m (l++t))]):=by
 refine yf {typed:=true} 2 Tryz.func13 fun Γ hN0 hL0=>auC ?_
 have hnb:nb<Γ.g0:=hN0 0 _ rfl
 have h1:=YN t
 have h2:=U2 l t
 have h3:=ZK l
 have h4:=ZK t
 have h5:=Zj Γ.g0 (l++t)
 have h6:l.length+t.length=(l++t).length:=by simp
 unfold oB oR at *
 repeat' first|(refine vD (ZI ⟨.d0,.d0,.d0⟩ ⟨.d0,.d0,.d7⟩ 0 rfl rfl) ?_)|refine auS ?_|((with_reducible refine z_ 0 ?_ hcopy (fun _ _ _ h=>h) ?_);(exact rfl))|refine auD ?_|(refine auW ?_ ?_<;>intro h<;>try exact auH)|(first|(simp only [za,ot,h2,h3,h4,h6])|(refine zf ⟨h1,by unfold y8 maxLen;omega⟩ ?_)|fail)
 all_goals try exact auP
 generalize bR (l++t)=X at *
 generalize (l++t).length=L at *
 refine ww [0,1,2] [Γ.g0] ?_ (by decide) rfl (fun a ha=>?_) (fun m=>?_) (fun m=>?_)
 ·first|refine auR ?_|exact zc
  repeat' (first|exact trivial|exact rfl|apply And.intro)
 ·simp at ha
  subst ha
  exact ⟨2,_,rfl,rfl⟩
 ·first|refine auR ?_|exact zc
  simp only [yk,xI]
  repeat' (first|exact trivial|exact rfl|apply And.intro)
 ·refine ⟨⟨.inr ⟨hnb,rfl⟩,rfl,?_⟩,⟨.inl ⟨0,rfl,rfl⟩,rfl,zz _ h5⟩,rfl⟩
  refine ⟨?_,rfl⟩
  simp only [xI,yk]
  exact ⟨⟨_,.inr ⟨hnb,rfl⟩,rfl⟩,⟨_,_,.inl ⟨0,rfl,rfl⟩,rfl⟩,trivial⟩
def ir (nb:Nat) (a:DV):Prop:=a=.v (.pointer none)∨a=.tptr nb 2 xA
theorem eY (nb bn:Nat) (a:DV) (ha:ir nb a) (l t:List UInt8) (hlen:l.length+t.length≤1048576) :
  xt Tryz.prog 13 [.tptr nb 2 xA,.v (.string (mkS t))] [some (oB nb a 1 bn l),some (oR bn l)] 1 (fun m d H=>d=.tup [.v (.int .i64 (t.length:Nat)),.v .nilIface]∧H=[some (oB nb (.tptr nb 2 xA) 1 m (l++t)),none,some (oR m (l++t))]):=by
 rcases ha with rfl|rfl
 ·exact YE nb bn _ l t hlen (Ud nb _)
 ·exact YE nb bn _ l t hlen (Um nb _)
theorem Wd {st:St} (j k sz s:Nat) (hjk:j≠k) {n:Nat} {x y:List DV} (hp:zd st.H j=some ⟨n,s,[x]⟩) (f1:x.length=y.length) (f2:∀(i:Nat) (d d':DV),x[i]?=some d→y[i]?=some d'→d'=d∨(d=.v (.slice none 0 0)∧∃T,d'=.tsl 1 st.gen 0 T)) (hpz:0<s):Le st ⟨st.tm,y4 (y4 st.H j (some ⟨n,s,[y]⟩)) k (some ⟨st.gen,sz,[]⟩),st.gen+1⟩:=by
 intro Γ N K a w hR
 have hg:¬K.dom st.gen:=fun h=>absurd (hR.fresh _ h) (Nat.lt_irrefl _)
 have h1:=p8 (k:=k) (sz:=sz) hR.inv hg hR.g0
 have hm:=tG K w st.gen
 have hp1:(fun q=>if q=k then some (⟨st.gen,sz,[]⟩:zj) else zd st.H q) j=some ⟨n,s,[x]⟩:=by
  show (if j=k then _ else _)=_
  rw [if_neg hjk]
  exact hp
 have hor:qK (K.addv st.gen) w ⟨n,s,[y]⟩:=by
  rcases (h1.obj j _ hp1).two (fun hm=>by have:=hm.2.1;simp only at this;omega) with ⟨u1,u2⟩|⟨u1,cs,t,frz,nfz,u2,u3,u4,u5⟩
  ·cases u2
  ·refine .inr (.inl ⟨u1,cs,t,frz,nfz,u2,u3,fun q hq=>?_,fun i q jj d hq hd=>?_⟩)
   ·simp at hq
    rw [hq,←f1]
    exact u4 x (by simp)
   ·cases i with
    |succ i=>simp at hq
    |zero=>
     simp at hq
     subst hq
     have hj':jj<x.length:=by rw [f1];exact (List.getElem?_eq_some_iff.1 hd).1
     obtain ⟨c,c1,c2⟩:=u5 0 x jj _ rfl (List.getElem?_eq_getElem hj')
     refine ⟨c,c1,?_⟩
     rcases f2 jj _ d (List.getElem?_eq_getElem hj') hd with e|⟨e1,T,e2⟩
     ·rw [e];exact c2
     ·rw [e1] at c2
      rw [e2,zq c2]
      exact .tsl (Nat.le_refl _) (.inl rfl)
 have h2:=dY h1 hp1 hor
 refine ⟨K.addv st.gen,?_,fun m h=>?_,Nat.le_succ_of_le hR.g0,hR.size,hR.defers,fun q=>(hR.tm q).mono hm⟩
 ·have e:zd (y4 (y4 st.H j (some ⟨n,s,[y]⟩)) k (some ⟨st.gen,sz,[]⟩))=fun q=>if q=j then some (⟨n,s,[y]⟩:zj) else (fun q=>if q=k then some (⟨st.gen,sz,[]⟩:zj) else zd st.H q) q:=by
   funext q
   rw [zY,zY]
   by_cases e1:q=k
   ·rw [if_pos e1,if_neg (fun e2=>hjk (e2.symm.trans e1))]
    exact (if_pos e1).symm
   ·rw [if_neg e1]
    by_cases e2:q=j
    ·rw [if_pos e2,if_pos e2]
    ·rw [if_neg e2,if_neg e2]
     exact (if_neg e1).symm
  show Inv Γ _ (zd (y4 (y4 st.H j _) k _)) w
  rw [e]
  exact h2
 ·rcases h with h|h
  ·have:=hR.fresh m h
   show m<st.gen+1
   omega
  ·show m<st.gen+1
   omega
theorem Vy (j k:Nat) (hjk:j≠k) {st:St} {nb:Nat} {a:DV} (hj:zd st.H j=some ⟨nb,2,[[a,.v (.slice none 0 0)]]⟩):Le st ⟨st.tm,y4 (y4 st.H j (some (oB nb a 1 st.gen []))) k (some (oR st.gen [])),st.gen+1⟩:=
 Wd j k 1 2 hjk hj rfl (fun i d d' h1 h2=>by
  match i,h1,h2 with
  |0,h1,h2=>exact .inl (by rw [←Option.some.inj h1,←Option.some.inj h2])
  |1,h1,h2=>exact .inr ⟨(Option.some.inj h1).symm,_,(Option.some.inj h2).symm⟩
  |i+2,h1,h2=>simp at h1) (by decide)
end Go.Proofs.YtaiileiodjicpaaGreatDoor
namespace Go.Proofs.YtaiileiodjicpaaGreatDoor
open Go.RowKit Go.Sort Go.Lib
set_option maxHeartbeats 1000000 in
set_option maxRecDepth 100000 in
theorem UV (b g cap:Nat) (cur:Array Value) (fr:Nat×Nat) (l:List UInt8) (w:World) (hbk:w.cell? ⟨b,1,none⟩=some (.slice (some ⟨g,0,none⟩) l.length cap)) (hg:w.heap[g]?=some (.cells cur 5 fr)) (hsz:cap=cur.size) (hc:l.length≤cap)
  (hcells:∀j x,l[j]?=some x→w.cell? ⟨g,j,none⟩=some (.int .u8 x.toNat)) (h0:l≠[]) (hsm:l.length≤1048576) :
  Calls Tryz.prog 20 #[.pointer (some ⟨b,0,none⟩)] w fun e w'=>e=.returned (.string ⟨l.toArray⟩)∧w'=w.drew.freeze ⟨g,0,none⟩ l.length:=by
 subst hsz
 have hl0:l.length≠0:=by simpa using h0
 have c1:w.drew.cell? ⟨b,1,none⟩=some (.slice (some ⟨g,0,none⟩) l.length cur.size):=hbk
 have hSD:(Builtin.unsafeSliceData_ #[56] 109 #[.slice (some ⟨g,0,none⟩) l.length cur.size]).run Tryz.prog w.drew=.ok (.pointer (some ⟨g,0,none⟩)) w.drew:=
  Lib.run_unsafeSliceData_row _ _ _ _ _ _ (by omega)
 have hUS:(Builtin.unsafeString_ #[109,3] 9 #[.pointer (some ⟨g,0,none⟩),.int .i64 l.length]).run Tryz.prog w.drew=.ok (.string ⟨l.toArray⟩) (w.drew.freeze ⟨g,0,none⟩ l.length):=by
  refine Lib.run_unsafeString_row w.drew 109 3 9 5 Tryz.underlying109 (by kernel_rfl) g cur.size (by have hg':w.drew.heap[g]?=some (.cells cur 5 fr):=hg;simp [World.shape?,hg']) l h0 (by omega) (by omega) ?_
  intro j x hx
  have:=hcells j x hx
  rw [ia,Nat.zero_add]
  exact this
 go_enter Tryz.func20,Tryz.ntmps20
 go_wp2
 have mixed:=p7
 go_region_o
 all_goals (go_wp2;go_ret;exact ⟨rfl,rfl⟩)
theorem eR {w:World} {g n:Nat} (W:Nat→Prop) (hW:W g):Ext W w (w.drew.freeze ⟨g,0,none⟩ n):=by
 have hd:Ext W w w.drew:=Ext.heap_eq rfl rfl rfl rfl
 refine hd.trans ?_
 unfold World.freeze
 split
 ·exact Ext.refl _ _
 ·refine ⟨rfl,rfl,rfl,by simp,fun k _ hk=>?_,fun k cs t fr h=>?_,fun k es ck h=>?_⟩
  ·simp only [Array.getElem?_modify]
   rw [if_neg (fun (e:g=k)=>hk (e▸hW))]
  ·simp only [Array.getElem?_modify,h]
   by_cases e:g=k
   ·rw [if_pos e]
    exact ⟨cs,_,rfl,rfl⟩
   ·rw [if_neg e]
    exact ⟨cs,fr,rfl,rfl⟩
  ·refine ⟨es,ck,?_,fun i e h=>⟨e,h,rfl⟩⟩
   simp only [Array.getElem?_modify,h]
   by_cases e:g=k
   ·rw [if_pos e]
    rfl
   ·rw [if_neg e]
theorem UR (nb bn:Nat) (l:List UInt8) (h0:l≠[]) (hsm:l.length≤1048576):zE Tryz.prog 20 [.tptr nb 2 xA] [some ⟨nb,2,[[.tptr nb 2 xA,.tsl 1 bn l.length 5]]⟩,some ⟨bn,1,yp (mkS l)⟩] (fun d H=>d=.v (.string (mkS l))∧H=[none,none]):=by
 refine ⟨by kernel_rfl,fun K w vs g0 hI hlt hargs=>?_⟩
 have hl0:0<l.length:=List.length_pos_iff.2 h0
 obtain ⟨v,rfl,hv⟩:=cS hargs
 cases hv with
 |tptr hr hc=>
  rcases (hI.obj 0 _ rfl).two (fun q=>by have:=q.2.1;cases this) with ⟨q1,q2⟩|⟨q1,cs',t',fr',q2,q3,q4,q5,q6⟩
  ·exact absurd hr q1
  ·dsimp only at q2 q3 q4 q6
   obtain ⟨c1,hc1,hv1⟩:=q6 0 _ 1 _ rfl rfl
   cases hv1 with
   |tsl hlc hcap=>
    rename_i A cap
    rcases hcap with hcap|⟨hrn,rfl,cur,fr,hg,hsz⟩
    ·omega
    ·rcases (hI.obj 1 _ rfl).two (fun q=>by have:=q.2.1;cases this) with ⟨u1,u2⟩|⟨u1,cs2,t2,fr2,u2,u3,u4,u5,u6⟩
     ·exact absurd hrn u1
     ·dsimp only at u2 u3 u4 u6
      have hcell:w.cell? ⟨(K.cut w).μ nb,1,none⟩=some (.slice (some ⟨(K.cut w).μ bn,0,none⟩) l.length cap):=by
       simp only [World.cell?,q3]
       simpa using hc1
      have hcells:∀j x,l[j]?=some x→w.cell? ⟨(K.cut w).μ bn,j,none⟩=some (.int .u8 x.toNat):=fun j x hx=>by
       obtain ⟨c,e1,e2⟩:=u6 j [.v (.int .u8 x.toNat)] 0 _ (by
        show (yp (mkS l))[j]?=_
        unfold yp
        rw [List.getElem?_map]
        simp [mkS,hx]) rfl
       cases e2
       simp only [World.cell?,u3]
       simpa using e1
      refine (UV _ _ cap cur fr l w hcell hg hsz hlc hcells h0 hsm).mono ?_
      rintro e w' ⟨rfl,rfl⟩
      have hx:=eR (w:=w) (n:=l.length) (yZ K w g0 [some ⟨nb,2,[[.tptr nb 2 xA,.tsl 1 bn l.length 5]]⟩,some ⟨bn,1,yp (mkS l)⟩]).W0 ⟨1,_,rfl,hrn,rfl⟩
      refine ⟨_,_,_,rfl,⟨rfl,rfl⟩,⟨hI.ext.trans hx,hI.base,fun k o h=>?_,fun k k' o o' h=>?_,hI.dr,fun n h=>Nat.lt_of_lt_of_le (hI.lt n h) hx.size,fun k o h=>?_,fun k o h=>?_,hI.gl⟩,.v _⟩
      all_goals
       rcases k with _|_|k
       ·cases h
       ·cases h
       ·cases h
end Go.Proofs.YtaiileiodjicpaaGreatDoor
namespace Go.Proofs.YtaiileiodjicpaaGreatDoor.R
attribute [local irreducible] zF Go
set_option maxRecDepth 100000
def zX (ws:List W8):W8:=Lib.join ws [32]
theorem eB (ws:List W8) (c:Bool) (h0:0<ws.length) (hN:ws.length≤1048576) (hlen:(zX ws).length≤1048576):zi Tryz.prog 14 [.snap 1 (zM (ws.map mkS)) c,.v (.string ⟨#[32]⟩)] (.v (.string (mkS (zX ws)))):=by
 have e:(ws.map mkS).map (·.data.toList)=ws:=by
  rw [List.map_map]
  conv=>rhs;rw [←List.map_id ws]
  exact List.map_congr_left (fun x _=>by simp [mkS])
 have h:=kz (ws.map mkS) ⟨#[32]⟩ c (by simpa using h0) (by rw [List.length_map];omega) (by rw [e];exact Nat.le_trans hlen (by decide))
 rw [e] at h
 exact h
set_option maxHeartbeats 2000000 in
theorem ql (nb bn an k:Nat) (a:DV) (ha:ir nb a) (l:W8) (ws:List W8) (h0:0<ws.length) (hN:ws.length≤1048576) (hlen:l.length+(zX ws).length+1≤1048576) :
  xt Tryz.prog 12 [.sl k an 1 0 ws.length true,.tptr nb 2 xA] [some (oB nb a 1 bn l),some (oR bn l),some ⟨an,1,zM (ws.map mkS)⟩] 1
   (fun m d H=>d=.tup []∧H=[some (oB nb (.tptr nb 2 xA) 1 m (l++(zX ws++[10]))),none,some ⟨an,1,zM (ws.map mkS)⟩,some (oR m (l++(zX ws++[10])))]):=by
 have hj:=eB ws false h0 hN (by omega)
 have hw:=eY nb bn a ha l (zX ws++[10]) (by simp;omega)
 have e10:(ByteArray.mk #[10]:ByteArray)=mkS [10]:=rfl
 have hl1:(zX ws).length≤1048576:=by omega
 have hrl:(zM (ws.map mkS)).length=ws.length:=by simp [zM]
 refine yf {} 0 Tryz.func12 fun Γ hN0 hL0=>auC ?_
 have hnb:nb<Γ.g0:=hN0 0 _ rfl
 have han:an<Γ.g0:=hN0 2 _ rfl
 have hnf:yA Γ.g0 (zM (ws.map mkS)):=zl (fun x=>by simp [nfL,nfD])
 have hnf2:=Zj Γ.g0 (l++(zX ws++[10]))
 have hf:uQ ⟨an,1,zM (ws.map mkS)⟩ [.sl k an 1 0 ws.length true,.v (.string ⟨#[32]⟩)] [.snap 1 (zM (ws.map mkS)) false,.v (.string ⟨#[32]⟩)]:=by
  refine ⟨?_,rfl,rfl⟩
  simp only [vO]
  exact .inl ⟨trivial,trivial,by omega,by rw [tH (l:=zM (ws.map mkS)) (by rw [hrl])]⟩
 repeat' first|refine auS ?_|(first|(simp only [e10,zu])|((with_reducible refine xp 2 ?_ hj hf ?_ ?_);(exact rfl);(exact rfl))|((with_reducible refine zx [0,1] [3] [0,1,3] ?_ ?_ ?_ ?_ hw ?_);(exact rfl);(exact by decide);(exact rfl);(exact rfl)))|refine auD ?_|(refine auW ?_ ?_<;>intro h<;>try exact auH)|(first|(refine zf (by simp only [za];simp;omega) ?_)|fail)
 all_goals try exact auP
 generalize bR (l++(zX ws++[10]))=X at *
 generalize (l++(zX ws++[10])).length=L at *
 generalize zM (ws.map mkS)=Y at *
 refine ww [0,1,2,3] [Γ.g0] ?_ (by decide) rfl (fun a ha=>?_) (fun m=>?_) (fun m=>?_)
 ·first|refine auR ?_|exact zc
  repeat' (first|exact trivial|exact rfl|apply And.intro)
 ·simp at ha
  subst ha
  exact ⟨3,_,rfl,rfl⟩
 ·first|refine auR ?_|exact zc
  simp only [yk,xI]
  repeat' (first|exact trivial|exact rfl|apply And.intro)
 ·refine ⟨⟨.inr ⟨hnb,rfl⟩,rfl,?_⟩,⟨.inr ⟨han,rfl⟩,rfl,zz _ hnf⟩,⟨.inl ⟨0,rfl,rfl⟩,rfl,zz _ (Zj Γ.g0 _)⟩,rfl⟩
  refine ⟨?_,rfl⟩
  simp only [xI,yk]
  exact ⟨⟨_,.inr ⟨hnb,rfl⟩,rfl⟩,⟨_,_,.inl ⟨0,rfl,rfl⟩,rfl⟩,trivial⟩
theorem dl (nb bn an k:Nat) {a:DV} (ha:ir nb a) {l t:W8} (x y:W8) (ht:t=l++(zX [x,y]++[10])) (hlen:t.length≤1048576) :
  xt Tryz.prog 12 [.sl k an 1 0 2 true,.tptr nb 2 xA] [some (oB nb a 1 bn l),some (oR bn l),some ⟨an,1,zM ([x,y].map mkS)⟩] 1
   (fun m d H=>d=.tup []∧H=[some (oB nb (.tptr nb 2 xA) 1 m t),none,some ⟨an,1,zM ([x,y].map mkS)⟩,some (oR m t)]):=by
 subst ht
 exact ql nb bn an k a ha l [x,y] (by show 0<2;decide) (by show 2≤1048576;decide) (by simp at hlen;omega)
theorem Yq (nb bn an k:Nat) {a:DV} (ha:ir nb a) {l t:W8} (x y z:W8) (ht:t=l++(zX [x,y,z]++[10])) (hlen:t.length≤1048576) :
  xt Tryz.prog 12 [.sl k an 1 0 3 true,.tptr nb 2 xA] [some (oB nb a 1 bn l),some (oR bn l),some ⟨an,1,zM ([x,y,z].map mkS)⟩] 1
   (fun m d H=>d=.tup []∧H=[some (oB nb (.tptr nb 2 xA) 1 m t),none,some ⟨an,1,zM ([x,y,z].map mkS)⟩,some (oR m t)]):=by
 subst ht
 exact ql nb bn an k a ha l [x,y,z] (by show 0<3;decide) (by show 3≤1048576;decide) (by simp at hlen;omega)
theorem Vt (nb bn an k:Nat) {a:DV} (ha:ir nb a) {l t:W8} (x y z u v s:W8) (ht:t=l++(zX [x,y,z,u,v,s]++[10])) (hlen:t.length≤1048576) :
  xt Tryz.prog 12 [.sl k an 1 0 6 true,.tptr nb 2 xA] [some (oB nb a 1 bn l),some (oR bn l),some ⟨an,1,zM ([x,y,z,u,v,s].map mkS)⟩] 1
   (fun m d H=>d=.tup []∧H=[some (oB nb (.tptr nb 2 xA) 1 m t),none,some ⟨an,1,zM ([x,y,z,u,v,s].map mkS)⟩,some (oR m t)]):=by
 subst ht
 exact ql nb bn an k a ha l [x,y,z,u,v,s] (by show 0<6;decide) (by show 6≤1048576;decide) (by simp at hlen;omega)
def pw (b:Bool):W8:=if b=true then vB else ug
def dI (n:Int):W8:=Lib.decDigits n.toNat
def ry (a l:Int):W8:=xh a.toNat++([47]++dI l)
def rC (a b:Int):W8:=dI a++([45]++dI b)
theorem YA:∀(k n:Nat),n<10 ^ (k+1)→(Lib.decDigits n).length≤k+1
 |0,n,h=>by
  rw [Lib.decDigits,dif_pos (by omega)]
  simp
 |k+1,n,h=>by
  rw [Lib.decDigits]
  split
  ·simp
  ·have:=YA k (n / 10) (by rw [Nat.pow_succ] at h;omega)
   simp
   omega
theorem qY (n:Int) (h:0≤n∧n≤1000000000):zi Tryz.prog 16 [.v (.int .i64 n)] (.v (.string (mkS (dI n)))):=by
 have:=t_ n.toNat (by omega)
 rw [Int.toNat_of_nonneg h.1] at this
 exact this
theorem V_ (n:Int) (h:0≤n∧n<4294967296):zi Tryz.prog 15 [.v (.int .u32 n)] (.v (.string (mkS (xh n.toNat)))):=by
 have:=kB n.toNat (by omega)
 rw [Int.toNat_of_nonneg h.1] at this
 exact this
theorem xU (n:Int) (h:0≤n∧n≤1000000000):(dI n).length≤10:=YA 9 _ (by omega)
theorem rc (a:Nat):(xh a).length≤15:=by
 have h:∀n,(dS (n % 256)).length≤3:=fun n=>by
  have:∀n:Fin 256,(dS n.val).length≤3:=by decide +kernel
  exact this ⟨n % 256,Nat.mod_lt _ (by decide)⟩
 have h0:=h (a / 16777216)
 have h1:=h (a / 65536)
 have h2:=h (a / 256)
 have h3:=h a
 rw [pb]
 simp
 omega
theorem qA (b:Bool):zi Tryz.prog 17 [.v (.bool b)] (.v (.string (mkS (pw b)))):=by
 cases b
 ·skip
  refine z7 {} 0 Tryz.func17 fun Γ hW=>auC ?_
  repeat' first|refine auS ?_|fail|refine auD ?_|(refine auW ?_ ?_<;>intro h<;>try exact auH)|fail
  all_goals try exact auP
  all_goals refine auV ?_
  all_goals try exact zc
  all_goals try simp only [hsM] at *
  all_goals rfl
 ·skip
  refine z7 {} 0 Tryz.func17 fun Γ hW=>auC ?_
  repeat' first|refine auS ?_|fail|refine auD ?_|(refine auW ?_ ?_<;>intro h<;>try exact auH)|fail
  all_goals try exact auP
  all_goals refine auV ?_
  all_goals try exact zc
  all_goals try simp only [hsM] at *
  all_goals rfl
theorem lY (a l:Int) (ha:0≤a∧a<4294967296) (hl:0≤l∧l≤1000000000):zi Tryz.prog 18 [dNt a l] (.v (.string (mkS (ry a l)))):=by
 have h1:=V_ a ha
 have h2:=qY l hl
 have l1:=rc a.toNat
 have l2:=xU l hl
 have e:(ByteArray.mk #[47]:ByteArray)=mkS [47]:=rfl
 have e2:ry a l=xh a.toNat++[47]++dI l:=by unfold ry;simp
 rw [e2]
 generalize xh a.toNat=A at *
 generalize dI l=B at *
 refine z7 {} 0 Tryz.func18 fun Γ hW=>auC ?_
 repeat' first|refine auS ?_|(first|(simp only [e,zu])|(with_reducible refine z6 h1 ?_)|(with_reducible refine z6 h2 ?_))|refine auD ?_|(refine auW ?_ ?_<;>intro h<;>try exact auH)|(first|(refine zf (by simp only [za];simp;omega) ?_)|fail)
 all_goals try exact auP
 all_goals refine auV ?_
 all_goals try exact zc
 all_goals try simp only [hsM] at *
theorem qC (a b:Int) (ha:0≤a∧a≤1000000000) (hb:0≤b∧b≤1000000000):zi Tryz.prog 19 [.v (.int .i64 a),.v (.int .i64 b)] (.v (.string (mkS (rC a b)))):=by
 have h1:=qY a ha
 have h2:=qY b hb
 have l1:=xU a ha
 have l2:=xU b hb
 have e:(ByteArray.mk #[45]:ByteArray)=mkS [45]:=rfl
 have e2:rC a b=dI a++[45]++dI b:=by unfold rC;simp
 rw [e2]
 generalize dI a=A at *
 generalize dI b=B at *
 refine z7 {} 0 Tryz.func19 fun Γ hW=>auC ?_
 repeat' first|refine auS ?_|(first|(simp only [e,zu])|(with_reducible refine z6 h1 ?_)|(with_reducible refine z6 h2 ?_))|refine auD ?_|(refine auW ?_ ?_<;>intro h<;>try exact auH)|(first|(refine zf (by simp only [za];simp;omega) ?_)|fail)
 all_goals try exact auP
 all_goals refine auV ?_
 all_goals try exact zc
 all_goals try simp only [hsM] at *
end Go.Proofs.YtaiileiodjicpaaGreatDoor.R
