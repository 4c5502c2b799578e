import Derived.Test.YtdiobdlinjgakaaGreatDoorDh04
import Derived.Laws.BitsAll
set_option linter.unusedVariables false
set_option linter.unusedSimpArgs false
set_option maxHeartbeats 8000000
set_option maxRecDepth 100000
open Go.Proofs.Tryz
open List renaming getElem?_eq_getElem->_a,getElem?_eq_some_iff->_c,take_add_one->_d,getElem?_append_right->_f,drop_eq_getElem_cons->_g,replicate->_j,mem_cons->_k
open UInt8 renaming ofNat->_b
open Int renaming toNat_natCast->_e
open Bool renaming false_eq_true->_h,and_eq_true->_i,true_and->_l
namespace Go.Proofs.YtdiobdlinjgakaaGreatDoor
structure qA where
 same:Bool:=false
 aaY:Bool:=false
 own:Bool:=false
 ows:Bool:=false
 typed:Bool:=false
 inpl:Bool:=false
 ext:Bool:=false
 xk:Nat:=0
 loose:Bool:=false
 bld:Nat:=1000000
def d8:Nat->kL
 |0=>.d0|1=>.d1|2=>.d2|3=>.d3|4=>.d4|5=>.d5|6=>.d6|_=>.d7
def Bk(t:Nat):bK:=⟨d8 (t/64),d8 (t/8%8),d8 (t%8)⟩
def BG{v:Value}:Value:=v
theorem yf{v:Value}:@BG v=v:=rfl
attribute [irreducible] BG
def We:List Value->List Value
 |[]=>[]
 |v::r=>@BG v::We r
def ca:Operand->a7
 |.tmp t=>.t (Bk t)
 |.const v=>.c (@BG v)
 |.global _=>.g
 |.func f=>.f f
def mF(P:Program)(t:TypeId):TypeId:=match P.underlying t with|some (.slice e)=>e|some (.array _ e)=>e|_=>0
def tL(P:Program)(t:TypeId):List Value:=match P.info? t with|some i=>(match i.zero with|some (.agg a)=>We a.toList|some b=>[@BG b]|none=>[])|none=>[]
def G0(P:Program)(t:TypeId):Nat:=match P.info? t with|some i=>i.bytes|none=>0
def kj(P:Program)(t:TypeId):Nat:=match P.info? t with|some i=>i.size|none=>0
def Hi(P:Program)(t:TypeId):Bool:=match P.underlying t with|some (.struct _)=>true|some (.array _ _)=>true|_=>false
def xT(P:Program)(t:TypeId)(i:Nat):Nat×TypeId:=match P.underlying t with|some (.struct b)=>(match b.toList[i]? with|some f=>(f.offset,f.type)|none=>(0,0))|_=>(0,0)
def s4(P:Program)(t:TypeId):List (Nat×Operand)->List (Nat×Nat×a7)
 |[]=>[]
 |(i,x)::r=>(match P.underlying t with
  |some (.array _ e)=>(i*kj P e,kj P e,ca x)
  |_=>((xT P t i).1,kj P (xT P t i).2,ca x))::s4 P t r
def vV:List Operand->List a7
 |[]=>[]
 |x::r=>ca x::vV r
def Pv:List (Nat×Operand)->List (Nat×a7)
 |[]=>[]
 |(i,x)::r=>(i,ca x)::Pv r
def D_(P:Program):Nat->TypeId->List Nat
 |0,_=>[]
 |d+1,t=>match P.underlying t with
  |some .bool=>[1]
  |some .string=>[2]
  |some (.pointer _)=>[3]
  |some (.struct b)=>b.toList.flatMap fun f=>D_ P d f.type
  |some (.array n e)=>(_j n (D_ P d e)).flatten
  |_=>[0]
def LR(P:Program):Nat->TypeId->List IntKind
 |0,_=>[]
 |d+1,t=>match P.underlying t with
  |some (.int k)=>[k]
  |some (.struct b)=>b.toList.flatMap fun f=>LR P d f.type
  |some (.array n e)=>(_j n (LR P d e)).flatten
  |_=>[]
def vz(P:Program)(t:TypeId):ef:=match P.underlying t with|some (.map k _)=>(match P.underlying k with|some (.int i)=>.one i|_=>.cells (LR P 9 k))|_=>.cells []
def Ec(P:Program)(t:TypeId):Value:=match P.underlying t with|some (.map _ e)=>(match tL P e with|[b]=>b|_=>.bool false)|_=>.bool false
def afS(P:Program)(t:TypeId):Value:=match P.underlying t with|some (.map k _)=>(match tL P k with|[b]=>b|l=>.agg l.toArray)|_=>.bool false
def pE:Option Operand->Option a7
 |some x=>some (ca x)
 |none=>none
def A4(s:Nat×Nat):Nat×Nat:=(s.1+1,s.2)
def yC(b:Bool)(s:Nat×Nat):Nat×(Nat×Nat):=match b,s with
 |false,(a,c)=>(a,a+1,c)
 |true,(a,0)=>(a,a+1,a+1)
 |true,(a,c+1)=>(c,a,c+1)
def wI:BinOp->Bool
 |.neq=>true
 |_=>false
def dR(F:qA)(P:Program)(o:Op)(s:Nat×Nat):sW×(Nat×Nat):=
 match o with
 |.move x|.assign x=>(.move (ca x),s)
 |.pick c a b=>(.pick (ca c) (ca a) (ca b),s)
 |.box t x=>(.box s.1 (kj P t) (ca x),A4 s)
 |.alloc t=>(match Nat.beq F.bld t with|true=>.BV s.1 (tL P t) t|false=>.alloc s.1 (tL P t),A4 s)
 |.build t ps=>(.build (tL P t) (s4 P t ps.toList),s)
 |.buildSlice t n ps=>(.buildSlice s.1 n (tL P (mF P t)) (Pv ps.toList) !F.ows,A4 s)
 |.load t a=>(.load (Hi P t) (kj P t) (ca a),s)
 |.store t a b=>(.store (kj P t) (ca a) (ca b),s)
 |.nilCheck x=>(.nilCheck (ca x),s)
 |.fieldAddr t a i=>(.fieldAddr (xT P t i).1 (ca a),s)
 |.field t a i=>(.field (Hi P (xT P t i).2) (xT P t i).1 (kj P (xT P t i).2) (ca a),s)
 |.binOp o t a b _=>(match P.underlying t with
  |some .string=>.zE o (ca a) (ca b)
  |some (.int _)=>.bin o (ca a) (ca b)
  |some .bool=>.B2 (wI o) (ca a) (ca b)
  |some (.slice _)=>.AP (wI o) (ca a)
  |some (.pointer _)=>.Bj (wI o) (ca a)
  |some (.interface _)=>.Cg (wI o) (ca a)
  |some (.struct _)=>.eqs (wI o) (D_ P 9 t) (ca a) (ca b)
  |some (.array _ _)=>.eqs (wI o) (D_ P 9 t) (ca a) (ca b)
  |_=>.dead,s)
 |.unOp o _ x=>(.un o (ca x),s)
 |.convert a b x=>(match P.underlying b,P.underlying a with
  |some .string,some (.slice _)=>.BS (ca x)
  |some .string,some .string=>.move (ca x)
  |some (.slice _),some .string=>(match F.own with|true=>.AA s.1 (ca x)|false=>.Ai (ca x))
  |some (.int k),_=>.Cb k (ca x)
  |_,_=>.dead,match F.own,P.underlying b with|true,some (.slice _)=>A4 s|_,_=>s)
 |.extract x i=>(.extract i (ca x),s)
 |.indexAddr t a i=>(match P.underlying t with
  |some (.array n e)=>(match a with|.global g=>.Ab (kj P e) n g (ca i)|_=>.Co (kj P e) n (ca a) (ca i))
  |_=>.AG (kj P (mF P t)) (ca a) (ca i),s)
 |.slice t x l h j=>(match P.underlying t with
  |some .string=>.substr (ca x) (pE l) (pE h)
  |some (.array n e)=>.Cr (kj P e) n (ca x)
  |_=>(match F.inpl,l,h with
   |true,some _,none=>.slice (kj P (mF P t)) (ca x) (pE l) (pE h) (pE j)
   |true,_,_=>.Bi (kj P (mF P t)) (ca x) (pE l) (pE h) (pE j)
   |_,_,_=>.slice (kj P (mF P t)) (ca x) (pE l) (pE h) (pE j)),s)
 |.index t x i=>(match P.underlying t with
  |some (.array n e)=>.C8 (Hi P e) (kj P e) n (ca x) (ca i)
  |_=>.Bu (ca x) (ca i),s)
 |.makeSlice t a b=>(.makeSlice (yC F.aaY s).1 (G0 P (mF P t)) (tL P (mF P t)) (ca a) (ca b),(yC F.aaY s).2)
 |.makeMap t none=>(match F.loose with|true=>.B4 s.1 (vz P t) (Ec P t) (afS P t)|false=>.makeMap s.1,A4 s)
 |.lookup t j x false=>(match F.loose with|true=>.Be (vz P t) (Ec P t) (ca j) (ca x)|false=>.zG (vz P t) (Ec P t) (ca j) (ca x),s)
 |.mapEntry t j x=>(.zy (vz P t) (Ec P t) (ca j) (ca x),s)
 |.entryStore t j x v=>(.AX (vz P t) (ca j) (ca x) (ca v),s)
 |.mapUpdate t j k v=>(.zv (vz P t) (ca j) (ca k) (ca v),s)
 |.sliceToArrayPointer t x=>(match P.underlying t with|some (.array n _)=>.zx n (ca x)|_=>.dead,s)
 |.makeFunc f a b=>(match f with|.func g=>.CM g (vV a.toList) (vV b.toList)|_=>.dead,s)
 |.call ⟨.value (.func f),args,_⟩=>(match(P.funcs[f]?).bind (·.body),F.ext with|some _,_=>.call f (vV args.toList)|none,true=>.ext F.xk (vV args.toList)|none,false=>.dead,s)
 |.call ⟨.value x,args,_⟩=>(.A8 (ca x) (vV args.toList),s)
 |.call ⟨.builtin b,args,m⟩=>(match b,args.toList,m.toList with
  |.len,[x],[t]=>(match P.underlying t with|some .string=>.A1 (ca x)|some (.map _ _)=>.C2 (vz P t) (ca x)|_=>.len (ca x),s)
  |.append,[x,y],[t,_]=>(match F.typed,F.inpl with
   |true,_=>(.Au (yC F.same s).1 (G0 P (mF P t)) (mF P t) (ca x) (ca y),(yC F.same s).2)
   |_,true=>(.C_ (kj P (mF P t)) (G0 P (mF P t)) (ca x) (ca y),s)
   |_,_=>(.append (yC F.same s).1 (kj P (mF P t)) (G0 P (mF P t)) (ca x) (ca y),(yC F.same s).2))
  |.min,[x,y],_=>(.Ag (ca x) (ca y),s)
  |.max,[x,y],_=>(.y_ (ca x) (ca y),s)
  |.clear,[x],[t]=>(.clear (tL P (mF P t)) (ca x),s)
  |_,_,_=>(.dead,s))
 |_=>(.dead,s)
def ab5:Option Tmp->Option bK
 |some t=>some (Bk t)
 |none=>none
def al1(l:List Oper):Option (Nat×Bool)->Option (bK×Bool)
 |some (j,b)=>(match l[j]? with|some ⟨some t,_,_,_,_,_⟩=>some (Bk t,b)|_=>none)
 |none=>none
def Sb(F:qA)(P:Program)(L:List Oper):List Oper->Nat×Nat->List cP×(Nat×Nat)
 |[],s=>([],s)
 |o::r,s=>match dR F P o.op s with
  |(x,b)=>match Sb F P L r b with
   |(l,c)=>(⟨ab5 o.dst,x,al1 L o.guard⟩::l,c)
def Xg:List Oper->List Nat->List Nat
 |[],b=>b
 |o::r,b=>Xg r (b++[uI b ((o.after.toList.filter (Region.binds .any)).map (·.on))])
def r8(F:qA)(P:Program):Code->Nat×Nat->dI×(Nat×Nat)
 |.skip,s=>(.skip,s)
 |.ret,s=>(.ret,s)
 |.region _ ops d,s=>match Sb F P ops.toList ops.toList s with
  |(l,f)=>(match d with|true=>.uf (Xg ops.toList []) l|false=>.region l,f)
 |.seq a b,s=>match r8 F P a s with|(x,f)=>match r8 F P b f with|(y,g)=>(.seq x y,g)
 |.cond c a b,s=>match r8 F P a s with|(x,f)=>match r8 F P b f with|(y,g)=>(.cond (ca c) x y,g)
 |.block i a,s=>match r8 F P a s with|(x,f)=>(.block i x,f)
 |.loop a,s=>match r8 F P a s with|(x,f)=>(.loop x,f)
 |.exit i,s=>(.exit i,s)
 |_,s=>(.skip,s)
def mh(F:qA)(P:Program)(fn:Func)(s:Nat):dI:=(r8 F P (iV fn) (s,0)).1
def mK(P:Program):List ResultVar->List fy
 |[]=>[]
 |.tmp t::r=>.tmp (Bk t)::mK P r
 |.cell a t::r=>.cell (Bk a) (Hi P t) (kj P t)::mK P r
theorem az{P:Program}{f:FuncId}{fn:Func}{b:List O}{R:O->aV->Prop}(aM:qA)(s:Nat)(c:P.funcs[f]?=some fn)
 (j:∀Γ:bw,(∀g,¬Γ.W0 g)->Go Γ P fn.ntmps (nq Γ (mK P fn.results.toList) 0 R) (mh aM P fn s) [] ⟨hq b gP eH,[],Γ.g0⟩) (m:oA P f fn (mh aM P fn s) (mK P fn.results.toList)=true:=by kernel_rfl) (aA:Nat.ble b.length fn.ntmps=true:=by rfl):b1 P f b [] R:=
 Ph c m (fun Γ h _ _=>j Γ (h rfl)) aA
theorem ej{P:Program}{f:FuncId}{fn:Func}{c:List O}{b:aV}{R:O->aV->Prop}(aM:qA)(s:Nat)(j:P.funcs[f]?=some fn)
 (m:∀Γ:bw,(∀k o,aB b k=some o->o.n<Γ.g0)->(∀g,Γ.W0 g->∃k o,aB b k=some o/\Γ.K0.real o.n/\Γ.K0.aD o.n=g)->Go Γ P fn.ntmps (nq Γ (mK P fn.results.toList) b.length R) (mh aM P fn s) [] ⟨hq c gP eH,b,Γ.g0⟩) (q:oA P f fn (mh aM P fn s) (mK P fn.results.toList)=true:=by kernel_rfl) (aA:Nat.ble c.length fn.ntmps=true:=by rfl):b1 P f c b R:=
 Ph j q (fun Γ _=>m Γ) aA
theorem yX{P:Program}{f:FuncId}{fn:Func}{b:List O}{R:Nat->O->aV->Prop}(aM:qA)(s:Nat)(c:P.funcs[f]?=some fn)
 (j:∀Γ:bw,(∀g,¬Γ.W0 g)->Go Γ P fn.ntmps (sC Γ (mK P fn.results.toList) 0 R) (mh aM P fn s) [] ⟨hq b gP eH,[],Γ.g0⟩) (m:oA P f fn (mh aM P fn s) (mK P fn.results.toList)=true:=by kernel_rfl) (aA:Nat.ble b.length fn.ntmps=true:=by rfl):ml P f b [] R:=
 afD c m (fun Γ h _ _=>j Γ (h rfl)) aA
theorem aa2{P:Program}{f:FuncId}{fn:Func}{b:List O}{c:Nat}{R:Nat->O->aV->Prop}(aM:qA)(s:Nat)(j:P.funcs[f]?=some fn)
 (m:∀Γ:bw,(∀g,¬Γ.W0 g)->Go Γ P fn.ntmps (rr Γ (mK P fn.results.toList) 0 c R) (mh aM P fn s) [] ⟨hq b gP eH,[],Γ.g0⟩) (q:oA P f fn (mh aM P fn s) (mK P fn.results.toList)=true:=by kernel_rfl) (aA:Nat.ble b.length fn.ntmps=true:=by rfl):fi P f b [] c R:=
 UP j q (fun Γ h _ _=>m Γ (h rfl)) aA
theorem h0{P:Program}{f:FuncId}{fn:Func}{j:List O}{b:aV}{c:Nat}{R:Nat->O->aV->Prop}(aM:qA)(s:Nat)(m:P.funcs[f]?=some fn)
 (q:∀Γ:bw,(∀k o,aB b k=some o->o.n<Γ.g0)->(∀g,Γ.W0 g->∃k o,aB b k=some o/\Γ.K0.real o.n/\Γ.K0.aD o.n=g)->Go Γ P fn.ntmps (rr Γ (mK P fn.results.toList) b.length c R) (mh aM P fn s) [] ⟨hq j gP eH,b,Γ.g0⟩) (u:oA P f fn (mh aM P fn s) (mK P fn.results.toList)=true:=by kernel_rfl) (aA:Nat.ble j.length fn.ntmps=true:=by rfl):fi P f j b c R:=
 UP m u (fun Γ _=>q Γ) aA
theorem ar{p q:Prop}(h:q)(e:q->p:=by intro ay;(conv in mh _ _ _ _=>reduce);(conv in mK _ _=>reduce);dsimp only[yf];exact ay):p:=e h
theorem u9:prog.follows .mixedOrders=true:=b4
theorem cE:(∀(p:Prop)[Decidable p],(decide p=true)=p)/\(∀(p:Prop)[Decidable p],(decide p=false)=¬p)/\(∀b:Bool,((!b)=true)=(b=false))/\(∀b:Bool,((!b)=false)=(b=true))/\
 (∀a b:Bool,((a&&b)=true)=(a=true/\b=true))/\(∀a b:Bool,((a||b)=true)=(a=true\/b=true))/\(∀a b:Bool,((a&&b)=false)=(a=false\/b=false))/\(∀a b:Bool,((a||b)=false)=(a=false/\b=false)):=
 ⟨fun _ _=>aF,fun _ _=>aF,fun b=>by cases b<;>simp,fun b=>by cases b<;>simp,fun a b=>Fo,fun a b=>Fo,fun a b=>Fo,fun a b=>Fo⟩
theorem gu:((∀(p:Prop)[Decidable p],(decide p=true)=p)/\(∀(p:Prop)[Decidable p],(decide p=false)=¬p)/\(∀b:Bool,((!b)=true)=(b=false))/\(∀b:Bool,((!b)=false)=(b=true))/\
 (∀a b:Bool,((a&&b)=true)=(a=true/\b=true))/\(∀a b:Bool,((a||b)=true)=(a=true\/b=true))/\(∀a b:Bool,((a&&b)=false)=(a=false\/b=false))/\(∀a b:Bool,((a||b)=false)=(a=false/\b=false)))/\
 (∀a b:Int,(¬a<=b)=(b<a))/\(∀a b:Int,(¬a<b)=(b<=a))/\(∀(p:Prop)[Decidable p],(¬ ¬p)=p)/\(∀(α:Type)(a b:α),(a≠b)=¬a=b)/\((¬True)=False)/\((¬False)=True)/\(decide True=true)/\(decide False=false)/\
 ((!true)=false)/\((!false)=true)/\((false=true)=False)/\(∀(α c:Type)(l:List α)(f:α->c),(l.map f).length=l.length)/\(∀a b:Bool,(a&&true)=a/\(true&&a)=a/\(false&&a)=false/\(a&&false)=false):=
 ⟨cE,fun _ _=>aF,fun _ _=>aF,fun _ _=>by simp[Decidable.not_not],fun _ _ _=>rfl,aF,aF,rfl,rfl,rfl,rfl,aF,fun _ _ _ _=>aF,fun a b=>aF⟩
theorem zf{Γ:bw}{b:List fy}{D:O}{st:bb}(h:hQ st b/\dn Γ.g0 (hp (fB st b)))(c:hp (fB st b)=D):nq Γ b 0 (fun d H=>d=D/\H=[]) st:=Om h.1 h.2 c
theorem abI{p:Prop}(h:p:=by((repeat' (first|exact trivial|exact rfl|apply And.intro))<;>(first|exact rfl|intro ay;cases ay;done|decide|omega|exact KM (fun _=>rfl) _|simp only[List.length_map,List.length_append,List.length_cons,List.length_nil,List.length_replicate];done|simp only[cx,maxLen,eW,xY,List.length_map,List.length_append,List.length_cons,List.length_nil,List.length_replicate]at *;omega|simp only[gu,reduceCtorEq]at *<;>omega))):p:=h
theorem aa{p:Prop}(h:False:=by(simp only[gu,reduceCtorEq]at *<;>omega)):p:=h.elim
theorem al{p:Prop}(h:False:=by((try simp only[List.length_map]at *);first|omega|simp only[gu,reduceCtorEq]at *<;>omega)):p:=h.elim
theorem ag{p q:Prop}(h:q)(e:q->p:=by intro ay;with_reducible dsimp only[run,undef,fI,IZ,Bp,zu,oJ,yO,uG,kI,yV,wq,vQ,B9,w2,Cs,vS,wN,wZ,kx,wS,zJ,wj,fX,jk,q2,uO,zr,xI,yY,wV,vT,xi,w5,hg,d_,fD,aB,cl,aW,jH,bQ.get,bQ.set,c9.get,c9.set,eH,iO,pY,xY,jI,l7,oL,fs,jY,fT,kJ,iX,cf,hv,uh,sr,tF,tb,dX,kD,lO,xw,cC,cp,eW,s8,Hd,uC,CK,AF,Dk,JI,K1,M3,I2,Mj,MQ,uT,qc,oE,ih,CI,xE,xL,vr,gY,iW,He,BD,A2,BP,ym,tz,AM,AD,xW,yI,Bh,wF,yl,x3,Ao,x0,xo,Bx,vM,BU,CS,AV,we,Cc,zq,zV,ow,BX,wH,xX,oY,wG,xB,qM,x7,xe,yD,B0,Ar,wy,AR,C6,x5,B_,w_,AO,BL,AZ,yK,z8,Ae,AN,xu,Aq,By,rk,sb,wQ,vK,xd,cond,KC,LU,hq,gP,List.length_cons,List.length_nil,Bool.true_or,Bool.false_or,Bool.or_true,Bool.or_false,IT,Lx,Nat.add_zero,Nat.zero_add,Nat.reduceAdd,Nat.reduceMul,Int.reduceToNat,Jx];exact ay):p:=e h
theorem wM{p q:Prop}(h:q)(e:q->p:=by intro ay;first|(with_reducible first|exact ahp ay|exact abt u9 ay|exact agj ay|exact aj1 ay|exact ad3 ay|exact aga ay|exact ag5 ay|exact go_ret ay|exact aeQ ay|exact agJ ay|exact aht ay|exact adO ay|exact afI ay)|(with_reducible refine ahi ?_ ay);(with_unfolding_all decide)|(with_reducible refine af3 ?_ ay);(with_unfolding_all kernel_rfl)|(with_reducible refine aK ?_ ay);(with_unfolding_all exact abI)):p:=e h
theorem k8{p q:Prop}(h:q)(e:q->p:=by intro ay;first|(with_reducible first|exact ahx ay|exact alJ ay|exact ad4 ay|exact adp ay)|exact wM ay):p:=e h
theorem af{p q:Prop}(h:q)(e:q->p:=by intro ay;first|with_reducible exact j8 ay|exact wM ay):p:=e h
theorem ag9{p q r:Prop}(h1:q)(h2:r)(e:q->r->p:=by intro h1 h2;with_reducible first|exact agp h1 h2|exact aeN h1 h2|exact af6 h1 h2):p:=e h1 h2
theorem ab{p a b:Prop}(h1:a)(h2:b)(e:a->b->p:=by intro tq ph;((with_reducible refine ag9 ?_ ?_);(· first|(with_reducible intro h);(first|simp only[h,Bp,zu]|skip);revert h;exact tq|have h:=trivial;revert h;exact tq);(· first|(with_reducible intro h);(first|simp only[h,Bp,zu]|skip);revert h;exact ph|have h:=trivial;revert h;exact ph))):p:=e h1 h2
theorem kM{p q:Prop}(h:q)(e:q->p:=by intro ay;with_reducible dsimp only[rT,hQ,fB,qK,hp,qV,qY,pL,pX,fC,dn,eV,c1,jb,aB,kx,cf,fT,kJ,jY,bQ.get,c9.get,eH,List.length_cons,List.length_nil,bQ.set,c9.set,cl,d_];exact ay):p:=e h
theorem bz{p q:Prop}(h:q)(e:q->p:=by intro ay;with_reducible dsimp only[j6,u0,wh,nc,nL,bQ.get,bQ.set,c9.get,c9.set,d_,aB,cl,eH];exact ay):p:=e h
theorem dD{p q:Prop}(h:q)(e:q->p:=by intro ay;with_reducible dsimp only[DP,zB,zR,tA,xr,im,zY,j6,u0,wh,nc,nL,bQ.get,bQ.set,c9.get,c9.set,d_,aB,cl,eH];exact ay):p:=e h
theorem cc{p:Prop}(h:p:=by with_reducible dsimp only[rT,hQ,fB,qK,hp,qV,qY,pL,pX,fC,dn,eV,c1,jb,aB,kx,cf,fT,kJ,jY,bQ.get,c9.get,eH,List.length_cons,List.length_nil,bQ.set,c9.set,cl,d_]):p:=h
theorem dE{p:Prop}(h:p:=by with_reducible dsimp only[DP,zB,zR,tA,xr,im,zY,j6,u0,wh,nc,nL,bQ.get,bQ.set,c9.get,c9.set,d_,aB,cl,eH]):p:=h
theorem amd{p q:Prop}(h:q)(e:q->p:=by intro ay;with_unfolding_all exact zf (by(try dsimp only[rT,hQ,fB,qK,hp,qV,qY,pL,pX,fC,dn,eV,c1,jb,aB,kx,cf,fT,kJ,jY,bQ.get,c9.get,eH,List.length_cons,List.length_nil,bQ.set,c9.set,cl,d_]);(repeat' (first|exact trivial|exact rfl|exact FZ|decide|apply And.intro))) ay):p:=e h
theorem cI{p q:Prop}(h:q)(e:q->p:=by intro ay;with_reducible refine amd ?_;first|exact kM ay|exact ay):p:=e h
def bU{α:Type}(p:α->Bool):List α->Nat->Int
 |[],_=>-1
 |t::r,k=>if p t then k else bU p r (k+1)
theorem Md{α:Type}(p:α->Bool):∀(l:List α)(k:Nat),(∀y∈l,p y=false)->bU p l k = -1
 |[],k,_=>rfl
 |y::r,k,h=>by
  simp only[bU,h y aF];exact Md p r (k+1) (fun b c=>h b (by simp[c]))
theorem Er{α:Type}(p:α->Bool)(t:α)(b:p t=true)(r:List α):∀(l:List α)(k:Nat),(bU p (l++t::r) k=((k+l.length:Nat):Int))↔l.all (fun y=>!p y)=true
 |[],k=>by simp[bU,b]
 |y::s,k=>by
  have c:=Er p t b r s (k+1);simp only[List.cons_append,bU,List.all_cons,List.length_cons];cases f:p y with
  |true=>simp;omega
  |false=>
   simp only[Bool.not_false,_l,<-c];simp only[_h,if_false];rw[show k+1+s.length=k+(s.length+1)from G]
theorem oz{α:Type}(p:α->Bool):∀(l:List α)(k:Nat),(bU p l k = -1/\∀t∈l,p t=false)\/∃i t,l[i]?=some t/\p t=true/\(∀y∈l.take i,p y=false)/\bU p l k=((k+i:Nat):Int)
 |[],k=>.inl ⟨rfl,fun t h=>fE⟩
 |y::r,k=>by
  cases b:p y with
  |true=>exact .inr ⟨0,y,rfl,b,fun g c=>by simp at c,by simp[bU,b]⟩
  |false=>
   rcases oz p r (k+1)with⟨h1,h2⟩|⟨i,t,h1,h2,j,m⟩
   .exact .inl ⟨by simp[bU,b,h1],fun t f=>by
     rcases _k.1 f with rfl|f
     .exact b
     exact h2 t f⟩
   exact .inr ⟨i+1,t,y8,h2,fun g c=>by
    rw[List.take_succ_cons]at c;rcases _k.1 c with rfl|c
    .exact b
    exact j g c,by simp only[bU,b,_h,if_false,m];congr 1;omega⟩
def eb{α:Type}(ok:List α->α->Bool):List α->List α->Bool
 |_,[]=>true
 |pre,t::r=>ok pre t&&eb ok (pre++[t]) r
theorem QX{α:Type}{ok:List α->α->Bool}{l:List α}{k:Nat}{t:α}(b:l[k]?=some t)(f:eb ok [] l=eb ok (l.take k) (l.drop k))(g:ok (l.take k) t=true):eb ok [] l=eb ok (l.take (k+1)) (l.drop (k+1)):=by
 have c:k<l.length:=(_c.1 b).1;rw[f,_g c,show l[k]=t from Option.some.inj ((_a c).symm.trans b),eb,g,_l,_d,b];rfl
theorem JJ{α:Type}{ok:List α->α->Bool}{l:List α}{k:Nat}{t:α}(b:l[k]?=some t)(f:eb ok [] l=eb ok (l.take k) (l.drop k))(g:ok (l.take k) t=false):eb ok [] l=false:=by
 have c:k<l.length:=(_c.1 b).1;rw[f,_g c,show l[k]=t from Option.some.inj ((_a c).symm.trans b),eb,g,Bool.false_and]
theorem A9{α:Type}{ok:List α->α->Bool}:∀ {l c:List α} {j:Nat} {z:α},eb ok c l=true->l[j]?=some z->ok (c++l.take j) z=true
 |[],_,_,_,_,h=>fE
 |y::r,c,0,z,b,h=>by
  simp only[eb,_i]at b;simp at h;subst h;simpa using b.1
 |y::r,c,j+1,z,b,h=>by
  simp only[eb,_i]at b;have:=A9 b.2 (j:=j) (z:=z) hc;exact oe
theorem O0{α:Type}{p:α->Bool}{l:List α}(h:∀y∈l,p y=false):l.filter (fun t=>!p t)=l:=by
 rw[List.filter_eq_self];intro y b;simp[h y b]
theorem afX{α:Type}{f:α->List O}{l:List α}{j:Nat}{t:α}(A b:List (List O))(c:l[j]?=some t)(h:A.length+b.length=j):cf (A++(b++(l.drop j).map f)) j=f t:=by
 have g:=(_c.1 c).1;rw[lZ,<-List.append_assoc,_f c7];have e:j-(A++b).length=0:=c7;rw[e,List.getElem?_map,List.getElem?_drop,Nat.add_zero,c];rfl
theorem Ip(x y:List O)(b B:List (List O)):∀(A:List (List O)),hv (A++(x::b++B)) A.length y=A++(y::b++B)
 |[]=>rfl
 |a::r=>by
  have:=Ip x y b B r;exact Z3
def I(l:List UInt8):ByteArray:=⟨l.toArray⟩
theorem ag8(t:ByteArray):I t.data.toList=t:=by cases t;simp[I]
theorem aU(l:List UInt8):(I l).size=l.length:=by simp[I,ByteArray.size]
theorem dt(a b:List UInt8):I a++I b=I (a++b):=by apply ByteArray.ext;rw[ByteArray.data_append];simp[I]
theorem fK(l:List UInt8)(a b:Nat):(I l).extract a b=I ((l.drop a).take (b-a)):=by apply ByteArray.ext;rw[ByteArray.data_extract];simp[I]
theorem dF{a b:List UInt8}:I a=I b↔a=b:=by
 constructor
 .intro h;have:(I a).data.toList=(I b).data.toList:=by rw[h]
  simpa[I]using this
 rintro rfl;rfl
def au(l:List UInt8)(i:Nat):Nat:=((l[i]?).getD 0).toNat
theorem eQ(l:List UInt8)(i:Nat):au l i<256:=UInt8.toNat_lt _
theorem b_(l:List UInt8)(i:Nat):og (I l) i=((au l i:Nat):Int):=by
 unfold og au;congr 3
 by_cases h:i<l.length
 .have h2:i<(I l).size:=by rw[aU];exact h
  rw[getElem?_pos (I l) i h2,_a h];rfl
 have h2:¬i<(I l).size:=by rw[aU];exact h
 rw[getElem?_neg (I l) i h2,List.getElem?_eq_none G]
theorem aeR(n:Int):IntKind.u64.wrap n=n%18446744073709551616:=Pe
theorem EW(n:Int):IntKind.u16.wrap n=n%65536:=Pe
theorem jo(n:Int)(b:0<=n)(h1:n<2 ^ 64):IntKind.u64.wrap n=n:=by rw[aeR];omega
theorem ajN(k:IntKind)(a b:Int):bits .or k a b=bits .or k b a:=by simp only[bits];rw[BitVec.or_comm]
theorem acj(i:Nat)(x y:Int)(b:0<=x)(c:x%2 ^ i=0)(f:x<2 ^ 64)(g:0<=y)(j:y<2 ^ i)(m:y<2 ^ 64):bits .or .u64 x y=x+y:=
 bits_join .u64 64 ae jo i x y b c f g j m
theorem nU{α:Type}{l:List α}{i:Nat}{b:α}(h:l[i]?=some b):l.take (i+1)=l.take i++[b]:=by rw[_d,h];rfl
theorem C9{l:List UInt8}{i:Nat}{b:UInt8}(h:l[i]?=some b):au l i=b.toNat:=by unfold au;rw[h];rfl
theorem strOf_mk(xs:List (List O)):strOf xs=I (xs.map byteOf):=rfl
theorem H3(a b:Int):strOf [[.v (.int .u8 a)],[.v (.int .u8 b)]]=I [_b a.toNat,_b b.toNat]:=rfl
theorem ahS(a b c d:Int):strOf [[.v (.int .u8 a)],[.v (.int .u8 b)],[.v (.int .u8 c)],[.v (.int .u8 d)]]=I [_b a.toNat,_b b.toNat,_b c.toNat,_b d.toNat]:=rfl
theorem nF{P:Program}{F:List cP->bb->List e6->Prop}{r:List cP}{st:bb}{dst:Option bK}{tr:List e6}{f:FuncId}{k n sz b len:Nat}{c:Bool}{g:List O}{D:O}{j:Option aR}{xs:List (List O)}(m:aB st.H k=some ⟨n,sz,xs⟩)(h1:b1 P f (.aG k n sz b len c::g) [some ⟨n,sz,xs⟩] (fun d H=>d=D/\H=[j]))(h2:F r ⟨hg st.tm dst D,d_ st.H [(k,j)],st.gen⟩ (⟨[k],[k]⟩::tr)):bc P F r st dst tr (.call f (.aG k n sz b len c::g)):=
 bE k m h1 (fun _ _ _ h=>h) h2
attribute [local irreducible] bc Go
def u8(a:Int):UInt8:=_b (a%256).toNat
theorem pc(a:Int):_b (IntKind.u8.wrap a).toNat=u8 a:=by rw[IntKind.wrap_u8];rfl
theorem zp(a:Int):((u8 a).toNat:Int)=a%256:=by
 unfold u8;have h:(a%256).toNat<256:=G;rw[UInt8.toNat_ofNat',Nat.mod_eq_of_lt h];omega
theorem OP(b y:List O)(c:Nat):∀A:List (List O),hv (A++dX b (c+1)) A.length y=(A++[y])++dX b c
 |[]=>rfl
 |a::r=>by
  have:=OP b y c r;exact Z3
abbrev fx(x:Int):List O:=[.v (.int .i64 x)]
abbrev mY(x:Int):List O:=[.v (.int .u8 (IntKind.u8.wrap x))]
theorem aaE:∀xs:List Int,ow (xs.map mY)=true
 |[]=>rfl
 |a::r=>by
  have:=aaE r;simp only[List.map_cons,ow]at this⊢;first|exact this|rw[this];rfl
theorem abW(xs:List Int)(hl:xs.length<=1000)(g:Bool)(n:Nat):b1 prog 113 [.aG 0 n 1 0 xs.length g] [some ⟨n,1,xs.map fx⟩] (fun d H=>d=.v (.string (I (xs.map u8)))/\H=[some ⟨n,1,xs.map fx⟩]):=by
 refine ej {} 1 func113 fun Γ j Q=>ar ?_
 have bd:n<Γ.g0:=j 0 _ rfl;repeat' first|refine af ?_|refine ag ?_|refine ab ?_ ?_<;>intro h<;>try exact aa|refine aK ⟨Int.natCast_nonneg _,Int.le_refl _,by(unfold cx maxLen;simp only[_e];omega)⟩ ?_
 refine bS (α:=Nat) (fun k=>[(⟨.d0,.d1,.d3⟩,.v (.int .i64 (k:Nat)))]) (fun k=>[(1,some ⟨Γ.g0,1,(xs.take k).map mY++dX [.v (.int .u8 0)] (xs.length-k)⟩)]) (fun _=>Γ.g0+1) (fun k=>xs.length-k) (fun k=>k<=xs.length) 0 (Nat.zero_le _) ?_ ?_
 .exact bs
 intro k m;dsimp only at m⊢;refine bz ?_;by_cases aN:k<xs.length
 .obtain⟨x,c⟩:∃x,xs[k]?=some x:=⟨_,_a aN⟩;have q:=h7 fx xs k x c;have b:((xs.take k).map mY).length=k:=c7;have f:((xs.take k).map mY++dX [.v (.int .u8 0)] (xs.length-k)).length=xs.length:=by rw[List.length_append,b,s9];omega
  have u:hv ((xs.take k).map mY++dX [.v (.int .u8 0)] (xs.length-k)) k (mY x)=(xs.take (k+1)).map mY++dX [.v (.int .u8 0)] (xs.length-(k+1)):=by
   have:=OP [.v (.int .u8 0)] (mY x) (xs.length-(k+1)) ((xs.take k).map mY);rw[b,show xs.length-(k+1)+1=xs.length-k from G]at this;rw[this,_d,c];simp
  have z:cf ((xs.take k).map mY++dX [.v (.int .u8 0)] (xs.length-k)) k=[.v (.int .u8 0)]:=by
   rw[lZ,_f G,b,Nat.sub_self,xv,if_pos G];rfl
  repeat' first|refine af ?_|refine ag ?_|refine ab ?_ ?_<;>intro h<;>try exact aa|simp only[_e,q,Nat.zero_add,z]|refine aK ⟨wR,aH⟩ ?_|refine aK ⟨by rw[f];exact aN,aH⟩ ?_|refine aK ⟨by rw[f];exact aN,aH,aH⟩ ?_|exact al|fail
  refine br ⟨k+1,Nat.succ_le_of_lt aN,Nat.sub_lt_sub_left aN (Nat.lt_succ_self k),?_⟩;refine dB ?_ ?_ (Nat.le_refl _);all_goals first|refine dD ?_|exact dE
  all_goals repeat' first|exact trivial|exact rfl|apply And.intro
  all_goals first|exact nR|exact congrArg some (congrArg (aR.mk Γ.g0 1) u)
 obtain rfl:k=xs.length:=G;have C:(xs.take xs.length).map mY++dX [.v (.int .u8 0)] (xs.length-xs.length)=xs.map mY:=by rw[List.take_length,Nat.sub_self];simp[dX]
 have J:(xs.map mY).length=xs.length:=List.length_map _;have M:=aaE xs;have O:strOf (xs.map mY)=I (xs.map u8):=by
  rw[strOf_mk,List.map_map];refine congrArg I (List.map_congr_left fun a _=>?_);exact pc a
 rw[C];repeat' first|refine af ?_|refine ag ?_|refine ab ?_ ?_<;>intro h<;>try exact aa|simp only[_e,Nat.zero_add,e1 J.symm,O]|refine aK ⟨⟨aH,aH,aH,G⟩,by simpa using M⟩ ?_|exact al|fail
 exact DJ
theorem JG(xs:List Int)(hl:xs.length<=1000)(b:Bool)(k n:Nat):b1 prog 113 [.aG k n 1 0 xs.length b] [some ⟨n,1,xs.map fx⟩] (fun d H=>d=.v (.string (I (xs.map u8)))/\H=[some ⟨n,1,xs.map fx⟩]):=
 jw k (abW xs hl b n)
theorem Z2(a:Int)(b:Bool)(k n:Nat):b1 prog 113 [.aG k n 1 0 1 b] [some ⟨n,1,[[.v (.int .i64 a)]]⟩] (fun d H=>d=.v (.string (I [u8 a]))/\H=[some ⟨n,1,[[.v (.int .i64 a)]]⟩]):=JG [a] (show 1<=1000 from ae) b k n
theorem tH(a b:Int)(c:Bool)(k n:Nat):b1 prog 113 [.aG k n 1 0 2 c] [some ⟨n,1,[[.v (.int .i64 a)],[.v (.int .i64 b)]]⟩] (fun d H=>d=.v (.string (I [u8 a,u8 b]))/\H=[some ⟨n,1,[[.v (.int .i64 a)],[.v (.int .i64 b)]]⟩]):=JG [a,b] (show 2<=1000 from ae) c k n
theorem ak4(a b c d:Int)(f:Bool)(k n:Nat):b1 prog 113 [.aG k n 1 0 4 f] [some ⟨n,1,[[.v (.int .i64 a)],[.v (.int .i64 b)],[.v (.int .i64 c)],[.v (.int .i64 d)]]⟩] (fun r H=>r=.v (.string (I [u8 a,u8 b,u8 c,u8 d]))/\H=[some ⟨n,1,[[.v (.int .i64 a)],[.v (.int .i64 b)],[.v (.int .i64 c)],[.v (.int .i64 d)]]⟩]):=JG [a,b,c,d] (show 4<=1000 from ae) f k n
end Go.Proofs.YtdiobdlinjgakaaGreatDoor
