import Derived.Test.YtaiileiodjicpaaGreatDoorTt03
import Derived.KernelRfl
import Derived.Test.YtaiileiodjicpaaGreatDoorProg
import Derived.IntWalk
set_option linter.unusedVariables false
set_option linter.unusedSimpArgs false
namespace Go.Proofs.YtaiileiodjicpaaGreatDoor
set_option maxRecDepth 100000
structure XFl where
 same:Bool:=false
 mks:Bool:=false
 own:Bool:=false
 ows:Bool:=false
 typed:Bool:=false
 inpl:Bool:=false
 ext:Bool:=false
 xk:Nat:=0
 loose:Bool:=false
 bld:Nat:=1000000
def d8:Nat→D8
 |0=>.d0|1=>.d1|2=>.d2|3=>.d3|4=>.d4|5=>.d5|6=>.d6|_=>.d7
def sT (t:Nat):Sl:=⟨d8 (t / 64),d8 (t / 8 % 8),d8 (t % 8)⟩
def kv {v:Value}:Value:=v
theorem Uh {v:Value}:@kv v=v:=rfl
attribute [irreducible] kv
def kvs:List Value→List Value
 |[]=>[]
 |v::r=>@kv v::kvs r
def tA:Operand→XA
 |.tmp t=>.t (sT t)
 |.const v=>.c (@kv v)
 |.global _=>.g
 |.func f=>.f f
def oE (P:Program) (t:TypeId):TypeId:=match P.underlying t with|some (.slice e)=>e|some (.array _ e)=>e|_=>0
def zO (P:Program) (t:TypeId):List Value:=match P.info? t with|some i=>(match i.zero with|some (.agg a)=>kvs a.toList|some z=>[@kv z]|none=>[])|none=>[]
def byO (P:Program) (t:TypeId):Nat:=match P.info? t with|some i=>i.bytes|none=>0
def szO (P:Program) (t:TypeId):Nat:=match P.info? t with|some i=>i.size|none=>0
def agO (P:Program) (t:TypeId):Bool:=match P.underlying t with|some (.struct _)=>true|some (.array _ _)=>true|_=>false
def fO (P:Program) (t:TypeId) (i:Nat):Nat×TypeId:=match P.underlying t with|some (.struct fs)=>(match fs.toList[i]? with|some f=>(f.offset,f.type)|none=>(0,0))|_=>(0,0)
def pO (P:Program) (t:TypeId):List (Nat×Operand)→List (Nat×Nat×XA)
 |[]=>[]
 |(i,x)::r=>(match P.underlying t with
  |some (.array _ e)=>(i*szO P e,szO P e,tA x)
  |_=>((fO P t i).1,szO P (fO P t i).2,tA x))::pO P t r
def mA:List Operand→List XA
 |[]=>[]
 |x::r=>tA x::mA r
def mP:List (Nat×Operand)→List (Nat×XA)
 |[]=>[]
 |(i,x)::r=>(i,tA x)::mP r
def lfO (P:Program):Nat→TypeId→List Nat
 |0,_=>[]
 |d+1,t=>match P.underlying t with
  |some .bool=>[1]
  |some .string=>[2]
  |some (.pointer _)=>[3]
  |some (.struct fs)=>fs.toList.flatMap fun f=>lfO P d f.type
  |some (.array n e)=>(List.replicate n (lfO P d e)).flatten
  |_=>[0]
def ikO (P:Program):Nat→TypeId→List IntKind
 |0,_=>[]
 |d+1,t=>match P.underlying t with
  |some (.int k)=>[k]
  |some (.struct fs)=>fs.toList.flatMap fun f=>ikO P d f.type
  |some (.array n e)=>(List.replicate n (ikO P d e)).flatten
  |_=>[]
def mkO (P:Program) (t:TypeId):KT:=match P.underlying t with|some (.map k _)=>(match P.underlying k with|some (.int i)=>.one i|_=>.cells (ikO P 9 k))|_=>.cells []
def mzO (P:Program) (t:TypeId):Value:=match P.underlying t with|some (.map _ e)=>(match zO P e with|[z]=>z|_=>.bool false)|_=>.bool false
def Uu (P:Program) (t:TypeId):Value:=match P.underlying t with|some (.map k _)=>(match zO P k with|[z]=>z|l=>.agg l.toArray)|_=>.bool false
def oA:Option Operand→Option XA
 |some x=>some (tA x)
 |none=>none
def nS (s:Nat×Nat):Nat×Nat:=(s.1+1,s.2)
def aS (b:Bool) (s:Nat×Nat):Nat×(Nat×Nat):=match b,s with
 |false,(a,c)=>(a,a+1,c)
 |true,(a,0)=>(a,a+1,a+1)
 |true,(a,c+1)=>(c,a,c+1)
def kS:BinOp→Bool
 |.neq=>true
 |_=>false
def tO (F:XFl) (P:Program) (o:Op) (s:Nat×Nat):XO×(Nat×Nat):=
 match o with
 |.move x|.assign x=>(.move (tA x),s)
 |.pick c a b=>(.pick (tA c) (tA a) (tA b),s)
 |.box t x=>(.box s.1 (szO P t) (tA x),nS s)
 |.alloc t=>(match Nat.beq F.bld t with|true=>.allocT s.1 (zO P t) t|false=>.alloc s.1 (zO P t),nS s)
 |.build t ps=>(.build (zO P t) (pO P t ps.toList),s)
 |.buildSlice t n ps=>(.buildSlice s.1 n (zO P (oE P t)) (mP ps.toList) !F.ows,nS s)
 |.load t a=>(.load (agO P t) (szO P t) (tA a),s)
 |.store t a b=>(.store (szO P t) (tA a) (tA b),s)
 |.nilCheck x=>(.nilCheck (tA x),s)
 |.fieldAddr t a i=>(.fieldAddr (fO P t i).1 (tA a),s)
 |.field t a i=>(.field (agO P (fO P t i).2) (fO P t i).1 (szO P (fO P t i).2) (tA a),s)
 |.binOp o t a b _=>(match P.underlying t with
  |some .string=>.sbin o (tA a) (tA b)
  |some (.int _)=>.bin o (tA a) (tA b)
  |some .bool=>.eqb (kS o) (tA a) (tA b)
  |some (.slice _)=>.isnil (kS o) (tA a)
  |some (.pointer _)=>.isnilP (kS o) (tA a)
  |some (.interface _)=>.isnilI (kS o) (tA a)
  |some (.struct _)=>.eqs (kS o) (lfO P 9 t) (tA a) (tA b)
  |some (.array _ _)=>.eqs (kS o) (lfO P 9 t) (tA a) (tA b)
  |_=>.dead,s)
 |.unOp o _ x=>(.un o (tA x),s)
 |.convert a b x=>(match P.underlying b,P.underlying a with
  |some .string,some (.slice _)=>.b2s (tA x)
  |some .string,some .string=>.move (tA x)
  |some (.slice _),some .string=>(match F.own with|true=>.s2bO s.1 (tA x)|false=>.s2b (tA x))
  |some (.int k),_=>.convInt k (tA x)
  |_,_=>.dead,match F.own,P.underlying b with|true,some (.slice _)=>nS s|_,_=>s)
 |.extract x i=>(.extract i (tA x),s)
 |.indexAddr t a i=>(match P.underlying t with
  |some (.array n e)=>(match a with|.global g=>.gidx (szO P e) n g (tA i)|_=>.indexArr (szO P e) n (tA a) (tA i))
  |_=>.indexSl (szO P (oE P t)) (tA a) (tA i),s)
 |.slice t x l h m=>(match P.underlying t with
  |some .string=>.substr (tA x) (oA l) (oA h)
  |some (.array n e)=>.sliceA (szO P e) n (tA x)
  |_=>(match F.inpl,l,h with
   |true,some _,none=>.slice (szO P (oE P t)) (tA x) (oA l) (oA h) (oA m)
   |true,_,_=>.sliceW (szO P (oE P t)) (tA x) (oA l) (oA h) (oA m)
   |_,_,_=>.slice (szO P (oE P t)) (tA x) (oA l) (oA h) (oA m)),s)
 |.index t x i=>(match P.underlying t with
  |some (.array n e)=>.indexV (agO P e) (szO P e) n (tA x) (tA i)
  |_=>.strAt (tA x) (tA i),s)
 |.makeSlice t a b=>(.makeSlice (aS F.mks s).1 (byO P (oE P t)) (zO P (oE P t)) (tA a) (tA b),(aS F.mks s).2)
 |.makeMap t none=>(match F.loose with|true=>.makeMapL s.1 (mkO P t) (mzO P t) (Uu P t)|false=>.makeMap s.1,nS s)
 |.lookup t m x false=>(match F.loose with|true=>.mgetL (mkO P t) (mzO P t) (tA m) (tA x)|false=>.mget (mkO P t) (mzO P t) (tA m) (tA x),s)
 |.mapEntry t m x=>(.mentry (mkO P t) (mzO P t) (tA m) (tA x),s)
 |.entryStore t m x v=>(.estore (mkO P t) (tA m) (tA x) (tA v),s)
 |.mapUpdate t m k v=>(.mput (mkO P t) (tA m) (tA k) (tA v),s)
 |.sliceToArrayPointer t x=>(match P.underlying t with|some (.array n _)=>.arrp n (tA x)|_=>.dead,s)
 |.makeFunc f a b=>(match f with|.func g=>.mkfn g (mA a.toList) (mA b.toList)|_=>.dead,s)
 |.call ⟨.value (.func f),args,_⟩=>(match (P.funcs[f]?).bind (·.body),F.ext with|some _,_=>.call f (mA args.toList)|none,true=>.ext F.xk (mA args.toList)|none,false=>.dead,s)
 |.call ⟨.value x,args,_⟩=>(.callv (tA x) (mA args.toList),s)
 |.call ⟨.builtin b,args,ts⟩=>(match b,args.toList,ts.toList with
  |.len,[x],[t]=>(match P.underlying t with|some .string=>.slen (tA x)|some (.map _ _)=>.mlen (mkO P t) (tA x)|_=>.len (tA x),s)
  |.append,[x,y],[t,_]=>(match F.typed,F.inpl with
   |true,_=>(.appT (aS F.same s).1 (byO P (oE P t)) (oE P t) (tA x) (tA y),(aS F.same s).2)
   |_,true=>(.appendW (szO P (oE P t)) (byO P (oE P t)) (tA x) (tA y),s)
   |_,_=>(.append (aS F.same s).1 (szO P (oE P t)) (byO P (oE P t)) (tA x) (tA y),(aS F.same s).2))
  |.min,[x,y],_=>(.minI (tA x) (tA y),s)
  |.max,[x,y],_=>(.maxI (tA x) (tA y),s)
  |.clear,[x],[t]=>(.clear (zO P (oE P t)) (tA x),s)
  |_,_,_=>(.dead,s))
 |_=>(.dead,s)
def oD:Option Tmp→Option Sl
 |some t=>some (sT t)
 |none=>none
def gO (l:List Oper):Option (Nat×Bool)→Option (Sl×Bool)
 |some (j,b)=>(match l[j]? with|some ⟨some t,_,_,_,_,_⟩=>some (sT t,b)|_=>none)
 |none=>none
def tL (F:XFl) (P:Program) (L:List Oper):List Oper→Nat×Nat→List XOp×(Nat×Nat)
 |[],s=>([],s)
 |o::r,s=>match tO F P o.op s with
  |(x,s1)=>match tL F P L r s1 with
   |(l,s2)=>(⟨oD o.dst,x,gO L o.guard⟩::l,s2)
def psL:List Oper→List Nat→List Nat
 |[],acc=>acc
 |o::r,acc=>psL r (acc++[eC acc ((o.after.toList.filter (Region.binds .any)).map (·.on))])
def tC (F:XFl) (P:Program):Code→Nat×Nat→XC×(Nat×Nat)
 |.skip,s=>(.skip,s)
 |.ret,s=>(.ret,s)
 |.region _ ops d,s=>match tL F P ops.toList ops.toList s with
  |(l,s1)=>(match d with|true=>.regionD (psL ops.toList []) l|false=>.region l,s1)
 |.seq a b,s=>match tC F P a s with|(x,s1)=>match tC F P b s1 with|(y,s2)=>(.seq x y,s2)
 |.cond c a b,s=>match tC F P a s with|(x,s1)=>match tC F P b s1 with|(y,s2)=>(.cond (tA c) x y,s2)
 |.block i a,s=>match tC F P a s with|(x,s1)=>(.block i x,s1)
 |.loop a,s=>match tC F P a s with|(x,s1)=>(.loop x,s1)
 |.exit i,s=>(.exit i,s)
 |_,s=>(.skip,s)
def tF (F:XFl) (P:Program) (fn:Func) (s:Nat):XC:=(tC F P (mc fn) (s,0)).1
def tR (P:Program):List ResultVar→List XR
 |[]=>[]
 |.tmp t::r=>.tmp (sT t)::tR P r
 |.cell a t::r=>.cell (sT a) (agO P t) (szO P t)::tR P r
theorem z7 {P:Program} {f:FuncId} {fn:Func} {ds:List DV} {R:DV→HL→Prop} (fl:XFl) (s:Nat) (hf:P.funcs[f]?=some fn)
  (hgo:∀Γ:Gm,(∀g,¬Γ.W0 g)→Go Γ P fn.ntmps (oS Γ (tR P fn.results.toList) 0 R) (tF fl P fn s) [] ⟨vw ds xc wN,[],Γ.g0⟩) (hk:okF P f fn (tF fl P fn s) (tR P fn.results.toList)=true:=by kernel_rfl) (hN:Nat.ble ds.length fn.ntmps=true:=by rfl):zE P f ds [] R:=
 gM hf hk (fun Γ h _ _=>hgo Γ (h rfl)) hN
theorem zp {P:Program} {f:FuncId} {fn:Func} {ds:List DV} {H0:HL} {R:DV→HL→Prop} (fl:XFl) (s:Nat) (hf:P.funcs[f]?=some fn)
  (hgo:∀Γ:Gm,(∀k o,zd H0 k=some o→o.n<Γ.g0)→(∀g,Γ.W0 g→∃k o,zd H0 k=some o∧Γ.K0.real o.n∧Γ.K0.μ o.n=g)→Go Γ P fn.ntmps (oS Γ (tR P fn.results.toList) H0.length R) (tF fl P fn s) [] ⟨vw ds xc wN,H0,Γ.g0⟩) (hk:okF P f fn (tF fl P fn s) (tR P fn.results.toList)=true:=by kernel_rfl) (hN:Nat.ble ds.length fn.ntmps=true:=by rfl):zE P f ds H0 R:=
 gM hf hk (fun Γ _=>hgo Γ) hN
theorem tw {P:Program} {f:FuncId} {fn:Func} {ds:List DV} {R:Nat→DV→HL→Prop} (fl:XFl) (s:Nat) (hf:P.funcs[f]?=some fn)
  (hgo:∀Γ:Gm,(∀g,¬Γ.W0 g)→Go Γ P fn.ntmps (oG Γ (tR P fn.results.toList) 0 R) (tF fl P fn s) [] ⟨vw ds xc wN,[],Γ.g0⟩) (hk:okF P f fn (tF fl P fn s) (tR P fn.results.toList)=true:=by kernel_rfl) (hN:Nat.ble ds.length fn.ntmps=true:=by rfl):uO P f ds [] R:=
 Zx hf hk (fun Γ h _ _=>hgo Γ (h rfl)) hN
theorem Xj {P:Program} {f:FuncId} {fn:Func} {ds:List DV} {c:Nat} {R:Nat→DV→HL→Prop} (fl:XFl) (s:Nat) (hf:P.funcs[f]?=some fn)
  (hgo:∀Γ:Gm,(∀g,¬Γ.W0 g)→Go Γ P fn.ntmps (qX Γ (tR P fn.results.toList) 0 c R) (tF fl P fn s) [] ⟨vw ds xc wN,[],Γ.g0⟩) (hk:okF P f fn (tF fl P fn s) (tR P fn.results.toList)=true:=by kernel_rfl) (hN:Nat.ble ds.length fn.ntmps=true:=by rfl):xt P f ds [] c R:=
 gE hf hk (fun Γ h _ _=>hgo Γ (h rfl)) hN
theorem yf {P:Program} {f:FuncId} {fn:Func} {ds:List DV} {H0:HL} {c:Nat} {R:Nat→DV→HL→Prop} (fl:XFl) (s:Nat) (hf:P.funcs[f]?=some fn)
  (hgo:∀Γ:Gm,(∀k o,zd H0 k=some o→o.n<Γ.g0)→(∀g,Γ.W0 g→∃k o,zd H0 k=some o∧Γ.K0.real o.n∧Γ.K0.μ o.n=g)→Go Γ P fn.ntmps (qX Γ (tR P fn.results.toList) H0.length c R) (tF fl P fn s) [] ⟨vw ds xc wN,H0,Γ.g0⟩) (hk:okF P f fn (tF fl P fn s) (tR P fn.results.toList)=true:=by kernel_rfl) (hN:Nat.ble ds.length fn.ntmps=true:=by rfl):xt P f ds H0 c R:=
 gE hf hk (fun Γ _=>hgo Γ) hN
theorem auC {p q:Prop} (h:q) (e:q→p:=by intro hq;(conv in tF _ _ _ _=>reduce);(conv in tR _ _=>reduce);dsimp only [Uh];exact hq):p:=e h
end Go.Proofs.YtaiileiodjicpaaGreatDoor
namespace Go.Proofs.YtaiileiodjicpaaGreatDoor
theorem p7:Tryz.prog.follows .mixedOrders=true:=by kernel_rfl
theorem hsM:(∀(p:Prop) [Decidable p],(decide p=true)=p)∧(∀(p:Prop) [Decidable p],(decide p=false)=¬p)∧(∀b:Bool,((!b)=true)=(b=false))∧(∀b:Bool,((!b)=false)=(b=true))∧
  (∀a b:Bool,((a&&b)=true)=(a=true∧b=true))∧(∀a b:Bool,((a||b)=true)=(a=true∨b=true))∧(∀a b:Bool,((a&&b)=false)=(a=false∨b=false))∧(∀a b:Bool,((a||b)=false)=(a=false∧b=false)):=
 ⟨fun _ _=>by simp,fun _ _=>by simp,fun b=>by cases b<;>simp,fun b=>by cases b<;>simp,fun a b=>by cases a<;>simp,fun a b=>by cases a<;>simp,fun a b=>by cases a<;>simp,fun a b=>by cases a<;>simp⟩
theorem hsL:((∀(p:Prop) [Decidable p],(decide p=true)=p)∧(∀(p:Prop) [Decidable p],(decide p=false)=¬p)∧(∀b:Bool,((!b)=true)=(b=false))∧(∀b:Bool,((!b)=false)=(b=true))∧
  (∀a b:Bool,((a&&b)=true)=(a=true∧b=true))∧(∀a b:Bool,((a||b)=true)=(a=true∨b=true))∧(∀a b:Bool,((a&&b)=false)=(a=false∨b=false))∧(∀a b:Bool,((a||b)=false)=(a=false∧b=false)))∧
  (∀a b:Int,(¬a≤b)=(b<a))∧(∀a b:Int,(¬a<b)=(b≤a))∧(∀(p:Prop) [Decidable p],(¬ ¬p)=p)∧(∀(α:Type) (a b:α),(a≠b)=¬a=b)∧((¬True)=False)∧((¬False)=True)∧(decide True=true)∧(decide False=false)∧
  ((!true)=false)∧((!false)=true)∧((false=true)=False)∧(∀(α β:Type) (l:List α) (f:α→β),(l.map f).length=l.length)∧(∀a b:Bool,(a&&true)=a∧(true&&a)=a∧(false&&a)=false∧(a&&false)=false):=
 ⟨hsM,fun _ _=>by simp,fun _ _=>by simp,fun _ _=>by simp [Decidable.not_not],fun _ _ _=>rfl,by simp,by simp,rfl,rfl,rfl,rfl,by simp,fun _ _ _ _=>by simp,fun a b=>by simp⟩
theorem va {Γ:Gm} {xr:List XR} {D:DV} {st:St} (h:xB st xr∧nfD Γ.g0 (wA (yn st xr))) (h3:wA (yn st xr)=D):oS Γ xr 0 (fun d H=>d=D∧H=[]) st:=Xg h.1 h.2 h3
theorem auN {p:Prop} (h:p:=by ((repeat' (first|exact trivial|exact rfl|apply And.intro))<;>(first|exact rfl|(intro hq;cases hq;done)|decide|omega|exact li (fun _=>rfl) _|(simp only [List.length_map,List.length_append,List.length_cons,List.length_nil,List.length_replicate];done)|(simp only [y8,maxLen,zQ,Ws,List.length_map,List.length_append,List.length_cons,List.length_nil,List.length_replicate] at *;omega)|(simp only [hsL,reduceCtorEq] at *<;>omega)))):p:=h
theorem auH {p:Prop} (h:False:=by (simp only [hsL,reduceCtorEq] at *<;>omega)):p:=h.elim
theorem auP {p:Prop} (h:False:=by ((try simp only [List.length_map] at *);first|omega|(simp only [hsL,reduceCtorEq] at *<;>omega))):p:=h.elim
theorem auD {p q:Prop} (h:q) (e:q→p:=by intro hq;with_reducible dsimp only [run,undef,v8,XU,eP,df,gd,gd2,iN,ex1,dX,XX,cD,ZQ,jT,eG,Wk,nv,j9,we,Wz,fQ,unR,yN,xy,tT,mb,orB,cP,W9,WY,qF,sZ,cz,uh,xu,y9,zd,y4,evT,evs,Env.get,Env.set,N8.get,N8.set,wN,xm,gR,Ws,sL,wV,lQ,xF,sN,yL,uc,yK,yo,ux,ll,r7,pB,tu,xz,wi,vb,jr,zV,zN,zQ,aA,Zy,mO,U1,YD,Ve,YT,Zf,ZH,ZE,ZT,Xa,gY,ul,lH,vu,VS,Wu,XZ,Zt,evO,si,Vl,jZ,X8,fS,ju,isS,eT,de,jV,no,eD,cx,cL,jK,jC,oW,cN,fI,jx,jO,jI,jQ,oY,Yu,ZP,fA,uJ,Vw,n8,ne,qv,nc,WG,oH,c7,WT,cC,Yw,YI,cy,Yv,Yc,dF,Yo,jW,di,dj,fY,j7,eg,du,dq,cV,Y7,ZO,fX,ap,dU,Zu,jc,cond,Wb,Wo,vw,xc,List.length_cons,List.length_nil,Bool.true_or,Bool.false_or,Bool.or_true,Bool.or_false,bnf,bnt,Nat.add_zero,Nat.zero_add,Nat.reduceAdd,Nat.reduceMul,Int.reduceToNat,Vu];exact hq):p:=e h
theorem am {p q:Prop} (h:q) (e:q→p:=by intro hq;first|(with_reducible first|exact au hq|exact eQ p7 hq|exact WK hq|exact Wf hq|exact ZZ hq|exact XN hq|exact X5 hq|exact nD hq|exact VC hq|exact WH hq|exact Xu hq|exact Xy hq|exact WB hq)|((with_reducible refine Wr ?_ hq);(with_unfolding_all decide))|((with_reducible refine fK ?_ hq);(with_unfolding_all kernel_rfl))|((with_reducible refine zf ?_ hq);(with_unfolding_all exact auN))):p:=e h
theorem aa {p q:Prop} (h:q) (e:q→p:=by intro hq;first|(with_reducible first|exact WD hq|exact V6 hq|exact Wg hq|exact XD hq)|exact am hq):p:=e h
theorem auS {p q:Prop} (h:q) (e:q→p:=by intro hq;first|with_reducible exact wZ hq|exact am hq):p:=e h
theorem auB {p q r:Prop} (h1:q) (h2:r) (e:q→r→p:=by intro h1 h2;with_reducible first|exact Vv h1 h2|exact Yj h1 h2|exact WQ h1 h2):p:=e h1 h2
theorem auW {p a b:Prop} (h1:a) (h2:b) (e:a→b→p:=by intro y1 y2;((with_reducible refine auB ?_ ?_);(· first|((with_reducible intro h);(first|simp only [h,eP,df]|skip);revert h;exact y1)|(have h:=trivial;revert h;exact y1));(· first|((with_reducible intro h);(first|simp only [h,eP,df]|skip);revert h;exact y2)|(have h:=trivial;revert h;exact y2)))):p:=e h1 h2
theorem auR {p q:Prop} (h:q) (e:q→p:=by intro hq;with_reducible dsimp only [qD,xB,yn,lS,wA,qL,qt,qp,s_,yt,nfD,nfL,yA,nfH,zd,we,yo,yL,uc,sN,Env.get,N8.get,wN,List.length_cons,List.length_nil,Env.set,N8.set,y4,xu];exact hq):p:=e h
theorem auL {p q:Prop} (h:q) (e:q→p:=by intro hq;with_reducible dsimp only [x9,nC,bL,ln,sv,Env.get,Env.set,N8.get,N8.set,xu,zd,y4,wN];exact hq):p:=e h
theorem auE {p q:Prop} (h:q) (e:q→p:=by intro hq;with_reducible dsimp only [leE,leC,leR,leN,leD,leH,leO,x9,nC,bL,ln,sv,Env.get,Env.set,N8.get,N8.set,xu,zd,y4,wN];exact hq):p:=e h
theorem zc {p:Prop} (h:p:=by with_reducible dsimp only [qD,xB,yn,lS,wA,qL,qt,qp,s_,yt,nfD,nfL,yA,nfH,zd,we,yo,yL,uc,sN,Env.get,N8.get,wN,List.length_cons,List.length_nil,Env.set,N8.set,y4,xu]):p:=h
theorem zK {p:Prop} (h:p:=by with_reducible dsimp only [leE,leC,leR,leN,leD,leH,leO,x9,nC,bL,ln,sv,Env.get,Env.set,N8.get,N8.set,xu,zd,y4,wN]):p:=h
theorem auF {p q:Prop} (h:q) (e:q→p:=by intro hq;with_unfolding_all exact va (by (try dsimp only [qD,xB,yn,lS,wA,qL,qt,qp,s_,yt,nfD,nfL,yA,nfH,zd,we,yo,yL,uc,sN,Env.get,N8.get,wN,List.length_cons,List.length_nil,Env.set,N8.set,y4,xu]);(repeat' (first|exact trivial|exact rfl|exact zl (fun x=>by simp [nfL,nfD])|decide|apply And.intro))) hq):p:=e h
theorem auV {p q:Prop} (h:q) (e:q→p:=by intro hq;with_reducible refine auF ?_;first|exact auR hq|exact hq):p:=e h
def zk {α:Type} (p:α→Bool):List α→Nat→Int
 |[],_=>-1
 |t::r,k=>if p t then k else zk p r (k+1)
theorem qS {α:Type} (p:α→Bool):∀(l:List α) (k:Nat),(∀y∈l,p y=false)→zk p l k = -1
 |[],k,_=>rfl
 |y::r,k,h=>by
  simp only [zk,h y (by simp)]
  exact qS p r (k+1) (fun z hz=>h z (by simp [hz]))
theorem uR {α:Type} (p:α→Bool) (t:α) (ht:p t=true) (r:List α):∀(l:List α) (k:Nat),(zk p (l++t::r) k=((k+l.length:Nat):Int))↔l.all (fun y=>!p y)=true
 |[],k=>by simp [zk,ht]
 |y::s,k=>by
  have ih:=uR p t ht r s (k+1)
  simp only [List.cons_append,zk,List.all_cons,List.length_cons]
  cases hy:p y with
  |true=>simp;omega
  |false=>
   simp only [Bool.not_false,Bool.true_and,←ih]
   simp only [Bool.false_eq_true,if_false]
   rw [show k+1+s.length=k+(s.length+1) by omega]
theorem xl {α:Type} (p:α→Bool):∀(l:List α) (k:Nat),(zk p l k = -1∧∀t∈l,p t=false)∨∃i t,l[i]?=some t∧p t=true∧(∀y∈l.take i,p y=false)∧zk p l k=((k+i:Nat):Int)
 |[],k=>.inl ⟨rfl,fun t h=>by simp at h⟩
 |y::r,k=>by
  cases hy:p y with
  |true=>exact .inr ⟨0,y,rfl,hy,fun z hz=>by simp at hz,by simp [zk,hy]⟩
  |false=>
   rcases xl p r (k+1) with ⟨h1,h2⟩|⟨i,t,h1,h2,h3,h4⟩
   ·exact .inl ⟨by simp [zk,hy,h1],fun t ht=>by
     rcases List.mem_cons.1 ht with rfl|ht
     ·exact hy
     ·exact h2 t ht⟩
   ·exact .inr ⟨i+1,t,by simpa using h1,h2,fun z hz=>by
     rw [List.take_succ_cons] at hz
     rcases List.mem_cons.1 hz with rfl|hz
     ·exact hy
     ·exact h3 z hz,by simp only [zk,hy,Bool.false_eq_true,if_false,h4];congr 1;omega⟩
def yS {α:Type} (ok:List α→α→Bool):List α→List α→Bool
 |_,[]=>true
 |pre,t::r=>ok pre t&&yS ok (pre++[t]) r
theorem fB {α:Type} {ok:List α→α→Bool} {l:List α} {k:Nat} {t:α} (ht:l[k]?=some t) (hg:yS ok [] l=yS ok (l.take k) (l.drop k)) (hok:ok (l.take k) t=true):yS ok [] l=yS ok (l.take (k+1)) (l.drop (k+1)):=by
 have hk:k<l.length:=(List.getElem?_eq_some_iff.1 ht).1
 rw [hg,List.drop_eq_getElem_cons hk,show l[k]=t from Option.some.inj ((List.getElem?_eq_getElem hk).symm.trans ht),yS,hok,Bool.true_and,List.take_add_one,ht]
 rfl
theorem ae {α:Type} {ok:List α→α→Bool} {l:List α} {k:Nat} {t:α} (ht:l[k]?=some t) (hg:yS ok [] l=yS ok (l.take k) (l.drop k)) (hok:ok (l.take k) t=false):yS ok [] l=false:=by
 have hk:k<l.length:=(List.getElem?_eq_some_iff.1 ht).1
 rw [hg,List.drop_eq_getElem_cons hk,show l[k]=t from Option.some.inj ((List.getElem?_eq_getElem hk).symm.trans ht),yS,hok,Bool.false_and]
theorem sP {α:Type} {ok:List α→α→Bool}:∀ {l pre:List α} {j:Nat} {z:α},yS ok pre l=true→l[j]?=some z→ok (pre++l.take j) z=true
 |[],_,_,_,_,h=>by simp at h
 |y::r,pre,0,z,hg,h=>by
  simp only [yS,Bool.and_eq_true] at hg
  simp at h
  subst h
  simpa using hg.1
 |y::r,pre,j+1,z,hg,h=>by
  simp only [yS,Bool.and_eq_true] at hg
  have:=sP hg.2 (j:=j) (z:=z) (by simpa using h)
  simpa using this
theorem oK {α:Type} {p:α→Bool} {l:List α} (h:∀y∈l,p y=false):l.filter (fun t=>!p t)=l:=by
 rw [List.filter_eq_self]
 intro y hy
 simp [h y hy]
theorem X3 {α:Type} {f:α→List DV} {l:List α} {j:Nat} {t:α} (A G:List (List DV)) (hj:l[j]?=some t) (h:A.length+G.length=j):yo (A++(G++(l.drop j).map f)) j=f t:=by
 have hjl:=(List.getElem?_eq_some_iff.1 hj).1
 rw [yV,←List.append_assoc,List.getElem?_append_right (by simp;omega)]
 have e:j-(A++G).length=0:=by simp;omega
 rw [e,List.getElem?_map,List.getElem?_drop,Nat.add_zero,hj]
 rfl
theorem mt (x y:List DV) (G B:List (List DV)):∀(A:List (List DV)),ux (A++(x::G++B)) A.length y=A++(y::G++B)
 |[]=>rfl
 |a::r=>by
  have:=mt x y G B r
  simp only [List.cons_append,List.length_cons,ux] at this ⊢
  rw [this]
end Go.Proofs.YtaiileiodjicpaaGreatDoor
