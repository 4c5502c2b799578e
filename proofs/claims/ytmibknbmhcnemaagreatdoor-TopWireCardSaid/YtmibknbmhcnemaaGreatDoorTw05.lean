import Derived.Test.YtmibknbmhcnemaaGreatDoorTw04
import Derived.Test.YtmibknbmhcnemaaGreatDoorProg
import Derived.KernelRfl
import Derived.IntWalk
set_option linter.unusedVariables false
set_option linter.unusedSimpArgs false
namespace Go.Proofs.YtmibknbmhcnemaaGreatDoor
theorem cE:Tryz.prog.follows .mixedOrders=true:=by kernel_rfl
theorem hsM:(∀(p:Prop) [Decidable p],(decide p=true)=p)∧(∀(p:Prop) [Decidable p],(decide p=false)=¬p)∧(∀b:Bool,((!b)=true)=(b=false))∧(∀b:Bool,((!b)=false)=(b=true))∧
  (∀a b:Bool,((a&&b)=true)=(a=true∧b=true))∧(∀a b:Bool,((a||b)=true)=(a=true∨b=true))∧(∀a b:Bool,((a&&b)=false)=(a=false∨b=false))∧(∀a b:Bool,((a||b)=false)=(a=false∧b=false)):=
 ⟨fun _ _=>by simp,fun _ _=>by simp,fun b=>by cases b<;>simp,fun b=>by cases b<;>simp,fun a b=>by cases a<;>simp,fun a b=>by cases a<;>simp,fun a b=>by cases a<;>simp,fun a b=>by cases a<;>simp⟩
theorem hsL:((∀(p:Prop) [Decidable p],(decide p=true)=p)∧(∀(p:Prop) [Decidable p],(decide p=false)=¬p)∧(∀b:Bool,((!b)=true)=(b=false))∧(∀b:Bool,((!b)=false)=(b=true))∧
  (∀a b:Bool,((a&&b)=true)=(a=true∧b=true))∧(∀a b:Bool,((a||b)=true)=(a=true∨b=true))∧(∀a b:Bool,((a&&b)=false)=(a=false∨b=false))∧(∀a b:Bool,((a||b)=false)=(a=false∧b=false)))∧
  (∀a b:Int,(¬a≤b)=(b<a))∧(∀a b:Int,(¬a<b)=(b≤a))∧(∀(p:Prop) [Decidable p],(¬ ¬p)=p)∧(∀(α:Type) (a b:α),(a≠b)=¬a=b)∧((¬True)=False)∧((¬False)=True)∧(decide True=true)∧(decide False=false)∧
  ((!true)=false)∧((!false)=true)∧((false=true)=False)∧(∀(α β:Type) (l:List α) (f:α→β),(l.map f).length=l.length)∧(∀a b:Bool,(a&&true)=a∧(true&&a)=a∧(false&&a)=false∧(a&&false)=false):=
 ⟨hsM,fun _ _=>by simp,fun _ _=>by simp,fun _ _=>by simp [Decidable.not_not],fun _ _ _=>rfl,by simp,by simp,rfl,rfl,rfl,rfl,by simp,fun _ _ _ _=>by simp,fun a b=>by simp⟩
theorem wS {Γ:Gm} {xr:List XR} {D:DV} {st:St} (h:xn st xr∧nfD Γ.g0 (xT (y9 st xr))) (h3:xT (y9 st xr)=D):pp Γ xr 0 (fun d H=>d=D∧H=[]) st:=av h.1 h.2 h3
theorem auN {p:Prop} (h:p:=by ((repeat' (first|exact trivial|exact rfl|apply And.intro))<;>(first|exact rfl|(intro hq;cases hq;done)|decide|omega|exact oN (fun _=>rfl) _|(simp only [List.length_map,List.length_append,List.length_cons,List.length_nil,List.length_replicate];done)|(simp only [zW,maxLen,zE,Ze,List.length_map,List.length_append,List.length_cons,List.length_nil,List.length_replicate] at *;omega)|(simp only [hsL,reduceCtorEq] at *<;>omega)))):p:=h
theorem auH {p:Prop} (h:False:=by (simp only [hsL,reduceCtorEq] at *<;>omega)):p:=h.elim
theorem auP {p:Prop} (h:False:=by ((try simp only [List.length_map] at *);first|omega|(simp only [hsL,reduceCtorEq] at *<;>omega))):p:=h.elim
theorem auD {p q:Prop} (h:q) (e:q→p:=by intro hq;with_reducible dsimp only [run,undef,wP,ZL,gh,iL,gd,gd2,jF,ex1,gM,ZD,fB,b_,lJ,jW,Zr,pP,lR,xU,Zg,jX,unR,yI,xq,uX,ox,orB,fv,ZH,Z1,rM,si,gK,vh,yZ,zT,z8,yJ,evT,evs,Env.get,Env.set,N8.get,N8.set,wm,xl,jB,Ze,tS,wW,m_,xz,s9,yG,vL,yL,yh,vK,oW,sf,qJ,uy,xW,xV,wR,lq,zF,zC,zE,fT,cg,nJ,YE,ar,Yo,dO,cr,a_,cR,aj,dV,jL,vO,nU,va,YU,Z_,Z5,cO,evO,t9,Yy,ll,au,hZ,lL,isS,iu,iI,lz,pY,iS,gY,fD,l7,li,pH,fc,jY,k_,lQ,lE,lZ,pX,aE,cN,ik,wZ,YO,pT,pJ,rW,pz,Zk,qX,fo,Zz,gE,cy,aH,gF,bL,an,gR,bJ,lN,gg,iW,iM,ke,i_,hU,gq,gL,cP,dX,jU,eQ,gN,cU,ly,cond,Zv,aX,wB,yU,List.length_cons,List.length_nil,Bool.true_or,Bool.false_or,Bool.or_true,Bool.or_false,bnf,bnt,Nat.add_zero,Nat.zero_add,Nat.reduceAdd,Nat.reduceMul,Int.reduceToNat,YT];exact hq):p:=e h
theorem dE {p q:Prop} (h:q) (e:q→p:=by intro hq;first|(with_reducible first|exact eR hq|exact iy cE hq|exact ZW hq|exact Zy hq|exact cB hq|exact ZQ hq|exact bG hq|exact YM hq|exact YN hq|exact Zq hq|exact Zw hq|exact Z3 hq|exact Z6 hq)|((with_reducible refine aV ?_ hq);(with_unfolding_all decide))|((with_reducible refine i7 ?_ hq);(with_unfolding_all kernel_rfl))|((with_reducible refine z_ ?_ hq);(with_unfolding_all exact auN))):p:=e h
theorem ek {p q:Prop} (h:q) (e:q→p:=by intro hq;first|(with_reducible first|exact Zp hq|exact Zi hq|exact Yb hq|exact Zn hq)|exact dE hq):p:=e h
theorem auS {p q:Prop} (h:q) (e:q→p:=by intro hq;first|with_reducible exact wF hq|exact dE hq):p:=e h
theorem auB {p q r:Prop} (h1:q) (h2:r) (e:q→r→p:=by intro h1 h2;with_reducible first|exact X5 h1 h2|exact ao h1 h2|exact Ye h1 h2):p:=e h1 h2
theorem auW {p a b:Prop} (h1:a) (h2:b) (e:a→b→p:=by intro y1 y2;((with_reducible refine auB ?_ ?_);(· first|((with_reducible intro h);(first|simp only [h,gh,iL]|skip);revert h;exact y1)|(have h:=trivial;revert h;exact y1));(· first|((with_reducible intro h);(first|simp only [h,gh,iL]|skip);revert h;exact y2)|(have h:=trivial;revert h;exact y2)))):p:=e h1 h2
theorem auR {p q:Prop} (h:q) (e:q→p:=by intro hq;with_reducible dsimp only [rz,xn,y9,m9,xT,qa,rO,rx,tg,y8,nfD,nfL,yR,nfH,z8,xU,yh,yG,vL,s9,Env.get,N8.get,wm,List.length_cons,List.length_nil,Env.set,N8.set,yJ,yZ];exact hq):p:=e h
theorem auL {p q:Prop} (h:q) (e:q→p:=by intro hq;with_reducible dsimp only [yX,o5,eJ,nb,s8,Env.get,Env.set,N8.get,N8.set,yZ,z8,yJ,wm];exact hq):p:=e h
theorem auE {p q:Prop} (h:q) (e:q→p:=by intro hq;with_reducible dsimp only [leE,leC,leR,leN,leD,leH,leO,yX,o5,eJ,nb,s8,Env.get,Env.set,N8.get,N8.set,yZ,z8,yJ,wm];exact hq):p:=e h
theorem z9 {p:Prop} (h:p:=by with_reducible dsimp only [rz,xn,y9,m9,xT,qa,rO,rx,tg,y8,nfD,nfL,yR,nfH,z8,xU,yh,yG,vL,s9,Env.get,N8.get,wm,List.length_cons,List.length_nil,Env.set,N8.set,yJ,yZ]):p:=h
theorem zJ {p:Prop} (h:p:=by with_reducible dsimp only [leE,leC,leR,leN,leD,leH,leO,yX,o5,eJ,nb,s8,Env.get,Env.set,N8.get,N8.set,yZ,z8,yJ,wm]):p:=h
theorem auF {p q:Prop} (h:q) (e:q→p:=by intro hq;with_unfolding_all exact wS (by (try dsimp only [rz,xn,y9,m9,xT,qa,rO,rx,tg,y8,nfD,nfL,yR,nfH,z8,xU,yh,yG,vL,s9,Env.get,N8.get,wm,List.length_cons,List.length_nil,Env.set,N8.set,yJ,yZ]);(repeat' (first|exact trivial|exact rfl|exact zg (fun x=>by simp [nfL,nfD])|decide|apply And.intro))) hq):p:=e h
theorem auV {p q:Prop} (h:q) (e:q→p:=by intro hq;with_reducible refine auF ?_;first|exact auR hq|exact hq):p:=e h
def ze {α:Type} (p:α→Bool):List α→Nat→Int
 |[],_=>-1
 |t::r,k=>if p t then k else ze p r (k+1)
theorem rF {α:Type} (p:α→Bool):∀(l:List α) (k:Nat),(∀y∈l,p y=false)→ze p l k = -1
 |[],k,_=>rfl
 |y::r,k,h=>by
  simp only [ze,h y (by simp)]
  exact rF p r (k+1) (fun z hz=>h z (by simp [hz]))
theorem ua {α:Type} (p:α→Bool) (t:α) (ht:p t=true) (r:List α):∀(l:List α) (k:Nat),(ze p (l++t::r) k=((k+l.length:Nat):Int))↔l.all (fun y=>!p y)=true
 |[],k=>by simp [ze,ht]
 |y::s,k=>by
  have ih:=ua p t ht r s (k+1)
  simp only [List.cons_append,ze,List.all_cons,List.length_cons]
  cases hy:p y with
  |true=>simp;omega
  |false=>
   simp only [Bool.not_false,Bool.true_and,←ih]
   simp only [Bool.false_eq_true,if_false]
   rw [show k+1+s.length=k+(s.length+1) by omega]
theorem xm {α:Type} (p:α→Bool):∀(l:List α) (k:Nat),(ze p l k = -1∧∀t∈l,p t=false)∨∃i t,l[i]?=some t∧p t=true∧(∀y∈l.take i,p y=false)∧ze p l k=((k+i:Nat):Int)
 |[],k=>.inl ⟨rfl,fun t h=>by simp at h⟩
 |y::r,k=>by
  cases hy:p y with
  |true=>exact .inr ⟨0,y,rfl,hy,fun z hz=>by simp at hz,by simp [ze,hy]⟩
  |false=>
   rcases xm p r (k+1) with ⟨h1,h2⟩|⟨i,t,h1,h2,h3,h4⟩
   ·exact .inl ⟨by simp [ze,hy,h1],fun t ht=>by
     rcases List.mem_cons.1 ht with rfl|ht
     ·exact hy
     ·exact h2 t ht⟩
   ·exact .inr ⟨i+1,t,by simpa using h1,h2,fun z hz=>by
     rw [List.take_succ_cons] at hz
     rcases List.mem_cons.1 hz with rfl|hz
     ·exact hy
     ·exact h3 z hz,by simp only [ze,hy,Bool.false_eq_true,if_false,h4];congr 1;omega⟩
def yc {α:Type} (ok:List α→α→Bool):List α→List α→Bool
 |_,[]=>true
 |pre,t::r=>ok pre t&&yc ok (pre++[t]) r
theorem oB {α:Type} {ok:List α→α→Bool} {l:List α} {k:Nat} {t:α} (ht:l[k]?=some t) (hg:yc ok [] l=yc ok (l.take k) (l.drop k)) (hok:ok (l.take k) t=true):yc ok [] l=yc ok (l.take (k+1)) (l.drop (k+1)):=by
 have hk:k<l.length:=(List.getElem?_eq_some_iff.1 ht).1
 rw [hg,List.drop_eq_getElem_cons hk,show l[k]=t from Option.some.inj ((List.getElem?_eq_getElem hk).symm.trans ht),yc,hok,Bool.true_and,List.take_add_one,ht]
 rfl
theorem mC {α:Type} {ok:List α→α→Bool} {l:List α} {k:Nat} {t:α} (ht:l[k]?=some t) (hg:yc ok [] l=yc ok (l.take k) (l.drop k)) (hok:ok (l.take k) t=false):yc ok [] l=false:=by
 have hk:k<l.length:=(List.getElem?_eq_some_iff.1 ht).1
 rw [hg,List.drop_eq_getElem_cons hk,show l[k]=t from Option.some.inj ((List.getElem?_eq_getElem hk).symm.trans ht),yc,hok,Bool.false_and]
theorem uM {α:Type} {ok:List α→α→Bool}:∀ {l pre:List α} {j:Nat} {z:α},yc ok pre l=true→l[j]?=some z→ok (pre++l.take j) z=true
 |[],_,_,_,_,h=>by simp at h
 |y::r,pre,0,z,hg,h=>by
  simp only [yc,Bool.and_eq_true] at hg
  simp at h
  subst h
  simpa using hg.1
 |y::r,pre,j+1,z,hg,h=>by
  simp only [yc,Bool.and_eq_true] at hg
  have:=uM hg.2 (j:=j) (z:=z) (by simpa using h)
  simpa using this
theorem ul {α:Type} {p:α→Bool} {l:List α} (h:∀y∈l,p y=false):l.filter (fun t=>!p t)=l:=by
 rw [List.filter_eq_self]
 intro y hy
 simp [h y hy]
theorem km {α:Type} {f:α→List DV} {l:List α} {j:Nat} {t:α} (A G:List (List DV)) (hj:l[j]?=some t) (h:A.length+G.length=j):yh (A++(G++(l.drop j).map f)) j=f t:=by
 have hjl:=(List.getElem?_eq_some_iff.1 hj).1
 rw [xb,←List.append_assoc,List.getElem?_append_right (by simp;omega)]
 have e:j-(A++G).length=0:=by simp;omega
 rw [e,List.getElem?_map,List.getElem?_drop,Nat.add_zero,hj]
 rfl
theorem o_ (x y:List DV) (G B:List (List DV)):∀(A:List (List DV)),vK (A++(x::G++B)) A.length y=A++(y::G++B)
 |[]=>rfl
 |a::r=>by
  have:=o_ x y G B r
  simp only [List.cons_append,List.length_cons,vK] at this ⊢
  rw [this]
end Go.Proofs.YtmibknbmhcnemaaGreatDoor
