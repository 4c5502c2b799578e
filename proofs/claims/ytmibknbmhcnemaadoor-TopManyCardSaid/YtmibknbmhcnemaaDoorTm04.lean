import Derived.Test.YtmibknbmhcnemaaDoorTm03
import Derived.KernelRfl
set_option linter.unusedVariables false
set_option linter.unusedSimpArgs false
namespace Go.Proofs.YtmibknbmhcnemaaDoor
set_option maxRecDepth 100000
structure XFl where
 same:Bool:=false
 mks:Bool:=false
 own:Bool:=false
 ows:Bool:=false
 typed:Bool:=false
 inpl:Bool:=false
 ext:Bool:=false
 xk:Nat:=0
 loose:Bool:=false
def d8:Nat→D8
 |0=>.d0|1=>.d1|2=>.d2|3=>.d3|4=>.d4|5=>.d5|6=>.d6|_=>.d7
def sT (t:Nat):Sl:=⟨d8 (t / 64),d8 (t / 8 % 8),d8 (t % 8)⟩
def kv {v:Value}:Value:=v
theorem YM {v:Value}:@kv v=v:=rfl
attribute [irreducible] kv
def kvs:List Value→List Value
 |[]=>[]
 |v::r=>@kv v::kvs r
def tA:Operand→XA
 |.tmp t=>.t (sT t)
 |.const v=>.c (@kv v)
 |.global _=>.g
 |.func f=>.f f
def oE (P:Program) (t:TypeId):TypeId:=match P.underlying t with|some (.slice e)=>e|some (.array _ e)=>e|_=>0
def zO (P:Program) (t:TypeId):List Value:=match P.info? t with|some i=>(match i.zero with|some (.agg a)=>kvs a.toList|some z=>[@kv z]|none=>[])|none=>[]
def byO (P:Program) (t:TypeId):Nat:=match P.info? t with|some i=>i.bytes|none=>0
def szO (P:Program) (t:TypeId):Nat:=match P.info? t with|some i=>i.size|none=>0
def agO (P:Program) (t:TypeId):Bool:=match P.underlying t with|some (.struct _)=>true|some (.array _ _)=>true|_=>false
def fO (P:Program) (t:TypeId) (i:Nat):Nat×TypeId:=match P.underlying t with|some (.struct fs)=>(match fs.toList[i]? with|some f=>(f.offset,f.type)|none=>(0,0))|_=>(0,0)
def pO (P:Program) (t:TypeId):List (Nat×Operand)→List (Nat×Nat×XA)
 |[]=>[]
 |(i,x)::r=>(match P.underlying t with
  |some (.array _ e)=>(i*szO P e,szO P e,tA x)
  |_=>((fO P t i).1,szO P (fO P t i).2,tA x))::pO P t r
def mA:List Operand→List XA
 |[]=>[]
 |x::r=>tA x::mA r
def mP:List (Nat×Operand)→List (Nat×XA)
 |[]=>[]
 |(i,x)::r=>(i,tA x)::mP r
def lfO (P:Program):Nat→TypeId→List Nat
 |0,_=>[]
 |d+1,t=>match P.underlying t with
  |some .bool=>[1]
  |some .string=>[2]
  |some (.pointer _)=>[3]
  |some (.struct fs)=>fs.toList.flatMap fun f=>lfO P d f.type
  |some (.array n e)=>(List.replicate n (lfO P d e)).flatten
  |_=>[0]
def ikO (P:Program):Nat→TypeId→List IntKind
 |0,_=>[]
 |d+1,t=>match P.underlying t with
  |some (.int k)=>[k]
  |some (.struct fs)=>fs.toList.flatMap fun f=>ikO P d f.type
  |some (.array n e)=>(List.replicate n (ikO P d e)).flatten
  |_=>[]
def mkO (P:Program) (t:TypeId):KT:=match P.underlying t with|some (.map k _)=>(match P.underlying k with|some (.int i)=>.one i|_=>.cells (ikO P 9 k))|_=>.cells []
def mzO (P:Program) (t:TypeId):Value:=match P.underlying t with|some (.map _ e)=>(match zO P e with|[z]=>z|_=>.bool false)|_=>.bool false
def YU (P:Program) (t:TypeId):Value:=match P.underlying t with|some (.map k _)=>(match zO P k with|[z]=>z|l=>.agg l.toArray)|_=>.bool false
def oA:Option Operand→Option XA
 |some x=>some (tA x)
 |none=>none
def nS (s:Nat×Nat):Nat×Nat:=(s.1+1,s.2)
def aS (b:Bool) (s:Nat×Nat):Nat×(Nat×Nat):=match b,s with
 |false,(a,c)=>(a,a+1,c)
 |true,(a,0)=>(a,a+1,a+1)
 |true,(a,c+1)=>(c,a,c+1)
def nT:BinOp→Bool
 |.neq=>true
 |_=>false
def tO (F:XFl) (P:Program) (o:Op) (s:Nat×Nat):XO×(Nat×Nat):=
 match o with
 |.move x|.assign x=>(.move (tA x),s)
 |.pick c a b=>(.pick (tA c) (tA a) (tA b),s)
 |.box t x=>(.box s.1 (szO P t) (tA x),nS s)
 |.alloc t=>(.alloc s.1 (zO P t),nS s)
 |.build t ps=>(.build (zO P t) (pO P t ps.toList),s)
 |.buildSlice t n ps=>(.buildSlice s.1 n (zO P (oE P t)) (mP ps.toList) !F.ows,nS s)
 |.load t a=>(.load (agO P t) (szO P t) (tA a),s)
 |.store t a b=>(.store (szO P t) (tA a) (tA b),s)
 |.nilCheck x=>(.nilCheck (tA x),s)
 |.fieldAddr t a i=>(.fieldAddr (fO P t i).1 (tA a),s)
 |.field t a i=>(.field (agO P (fO P t i).2) (fO P t i).1 (szO P (fO P t i).2) (tA a),s)
 |.binOp o t a b _=>(match P.underlying t with
  |some .string=>.sbin o (tA a) (tA b)
  |some (.int _)=>.bin o (tA a) (tA b)
  |some .bool=>.eqb (nT o) (tA a) (tA b)
  |some (.slice _)=>.isnil (nT o) (tA a)
  |some (.pointer _)=>.isnilP (nT o) (tA a)
  |some (.interface _)=>.isnilI (nT o) (tA a)
  |some (.struct _)=>.eqs (nT o) (lfO P 9 t) (tA a) (tA b)
  |some (.array _ _)=>.eqs (nT o) (lfO P 9 t) (tA a) (tA b)
  |_=>.dead,s)
 |.unOp o _ x=>(.un o (tA x),s)
 |.convert a b x=>(match P.underlying b,P.underlying a with
  |some .string,some (.slice _)=>.b2s (tA x)
  |some .string,some .string=>.move (tA x)
  |some (.slice _),some .string=>(match F.own with|true=>.s2bO s.1 (tA x)|false=>.s2b (tA x))
  |some (.int k),_=>.convInt k (tA x)
  |_,_=>.dead,match F.own,P.underlying b with|true,some (.slice _)=>nS s|_,_=>s)
 |.extract x i=>(.extract i (tA x),s)
 |.indexAddr t a i=>(match P.underlying t with
  |some (.array n e)=>(match a with|.global g=>.gidx (szO P e) n g (tA i)|_=>.indexArr (szO P e) n (tA a) (tA i))
  |_=>.indexSl (szO P (oE P t)) (tA a) (tA i),s)
 |.slice t x l h m=>(match P.underlying t with
  |some .string=>.substr (tA x) (oA l) (oA h)
  |some (.array n e)=>.sliceA (szO P e) n (tA x)
  |_=>(match F.inpl,l,h with
   |true,some _,none=>.slice (szO P (oE P t)) (tA x) (oA l) (oA h) (oA m)
   |true,_,_=>.sliceW (szO P (oE P t)) (tA x) (oA l) (oA h) (oA m)
   |_,_,_=>.slice (szO P (oE P t)) (tA x) (oA l) (oA h) (oA m)),s)
 |.index t x i=>(match P.underlying t with
  |some (.array n e)=>.indexV (agO P e) (szO P e) n (tA x) (tA i)
  |_=>.strAt (tA x) (tA i),s)
 |.makeSlice t a b=>(.makeSlice (aS F.mks s).1 (byO P (oE P t)) (zO P (oE P t)) (tA a) (tA b),(aS F.mks s).2)
 |.makeMap t none=>(match F.loose with|true=>.makeMapL s.1 (mkO P t) (mzO P t) (YU P t)|false=>.makeMap s.1,nS s)
 |.lookup t m x false=>(match F.loose with|true=>.mgetL (mkO P t) (mzO P t) (tA m) (tA x)|false=>.mget (mkO P t) (mzO P t) (tA m) (tA x),s)
 |.mapEntry t m x=>(.mentry (mkO P t) (mzO P t) (tA m) (tA x),s)
 |.entryStore t m x v=>(.estore (mkO P t) (tA m) (tA x) (tA v),s)
 |.mapUpdate t m k v=>(.mput (mkO P t) (tA m) (tA k) (tA v),s)
 |.sliceToArrayPointer t x=>(match P.underlying t with|some (.array n _)=>.arrp n (tA x)|_=>.dead,s)
 |.makeFunc f a b=>(match f with|.func g=>.mkfn g (mA a.toList) (mA b.toList)|_=>.dead,s)
 |.call ⟨.value (.func f),args,_⟩=>(match (P.funcs[f]?).bind (·.body),F.ext with|some _,_=>.call f (mA args.toList)|none,true=>.ext F.xk (mA args.toList)|none,false=>.dead,s)
 |.call ⟨.value x,args,_⟩=>(.callv (tA x) (mA args.toList),s)
 |.call ⟨.builtin b,args,ts⟩=>(match b,args.toList,ts.toList with
  |.len,[x],[t]=>(match P.underlying t with|some .string=>.slen (tA x)|some (.map _ _)=>.mlen (mkO P t) (tA x)|_=>.len (tA x),s)
  |.append,[x,y],[t,_]=>(match F.typed,F.inpl with
   |true,_=>(.appT (aS F.same s).1 (byO P (oE P t)) (oE P t) (tA x) (tA y),(aS F.same s).2)
   |_,true=>(.appendW (szO P (oE P t)) (byO P (oE P t)) (tA x) (tA y),s)
   |_,_=>(.append (aS F.same s).1 (szO P (oE P t)) (byO P (oE P t)) (tA x) (tA y),(aS F.same s).2))
  |.min,[x,y],_=>(.minI (tA x) (tA y),s)
  |.max,[x,y],_=>(.maxI (tA x) (tA y),s)
  |.clear,[x],[t]=>(.clear (zO P (oE P t)) (tA x),s)
  |_,_,_=>(.dead,s))
 |_=>(.dead,s)
def oD:Option Tmp→Option Sl
 |some t=>some (sT t)
 |none=>none
def gO (l:List Oper):Option (Nat×Bool)→Option (Sl×Bool)
 |some (j,b)=>(match l[j]? with|some ⟨some t,_,_,_,_,_⟩=>some (sT t,b)|_=>none)
 |none=>none
def tL (F:XFl) (P:Program) (L:List Oper):List Oper→Nat×Nat→List XOp×(Nat×Nat)
 |[],s=>([],s)
 |o::r,s=>match tO F P o.op s with
  |(x,s1)=>match tL F P L r s1 with
   |(l,s2)=>(⟨oD o.dst,x,gO L o.guard⟩::l,s2)
def psL:List Oper→List Nat→List Nat
 |[],acc=>acc
 |o::r,acc=>psL r (acc++[jk acc ((o.after.toList.filter (Region.binds .any)).map (·.on))])
def tC (F:XFl) (P:Program):Code→Nat×Nat→XC×(Nat×Nat)
 |.skip,s=>(.skip,s)
 |.ret,s=>(.ret,s)
 |.region _ ops d,s=>match tL F P ops.toList ops.toList s with
  |(l,s1)=>(match d with|true=>.regionD (psL ops.toList []) l|false=>.region l,s1)
 |.seq a b,s=>match tC F P a s with|(x,s1)=>match tC F P b s1 with|(y,s2)=>(.seq x y,s2)
 |.cond c a b,s=>match tC F P a s with|(x,s1)=>match tC F P b s1 with|(y,s2)=>(.cond (tA c) x y,s2)
 |.block i a,s=>match tC F P a s with|(x,s1)=>(.block i x,s1)
 |.loop a,s=>match tC F P a s with|(x,s1)=>(.loop x,s1)
 |.exit i,s=>(.exit i,s)
 |_,s=>(.skip,s)
def tF (F:XFl) (P:Program) (fn:Func) (s:Nat):XC:=(tC F P (pH fn) (s,0)).1
def tR (P:Program):List ResultVar→List XR
 |[]=>[]
 |.tmp t::r=>.tmp (sT t)::tR P r
 |.cell a t::r=>.cell (sT a) (agO P t) (szO P t)::tR P r
theorem z4 {P:Program} {f:FuncId} {fn:Func} {ds:List DV} {R:DV→HL→Prop} (fl:XFl) (s:Nat) (hf:P.funcs[f]?=some fn)
  (hgo:∀Γ:Gm,(∀g,¬Γ.W0 g)→Go Γ P fn.ntmps (p9 Γ (tR P fn.results.toList) 0 R) (tF fl P fn s) [] ⟨wW ds yS wk,[],Γ.g0⟩) (hk:okF P f fn (tF fl P fn s) (tR P fn.results.toList)=true:=by kernel_rfl) (hN:Nat.ble ds.length fn.ntmps=true:=by rfl):zy P f ds [] R:=
 kz hf hk (fun Γ h _ _=>hgo Γ (h rfl)) hN
theorem zv {P:Program} {f:FuncId} {fn:Func} {ds:List DV} {H0:HL} {R:DV→HL→Prop} (fl:XFl) (s:Nat) (hf:P.funcs[f]?=some fn)
  (hgo:∀Γ:Gm,(∀k o,z8 H0 k=some o→o.n<Γ.g0)→(∀g,Γ.W0 g→∃k o,z8 H0 k=some o∧Γ.K0.real o.n∧Γ.K0.μ o.n=g)→Go Γ P fn.ntmps (p9 Γ (tR P fn.results.toList) H0.length R) (tF fl P fn s) [] ⟨wW ds yS wk,H0,Γ.g0⟩) (hk:okF P f fn (tF fl P fn s) (tR P fn.results.toList)=true:=by kernel_rfl) (hN:Nat.ble ds.length fn.ntmps=true:=by rfl):zy P f ds H0 R:=
 kz hf hk (fun Γ _=>hgo Γ) hN
theorem uq {P:Program} {f:FuncId} {fn:Func} {ds:List DV} {R:Nat→DV→HL→Prop} (fl:XFl) (s:Nat) (hf:P.funcs[f]?=some fn)
  (hgo:∀Γ:Gm,(∀g,¬Γ.W0 g)→Go Γ P fn.ntmps (qJ Γ (tR P fn.results.toList) 0 R) (tF fl P fn s) [] ⟨wW ds yS wk,[],Γ.g0⟩) (hk:okF P f fn (tF fl P fn s) (tR P fn.results.toList)=true:=by kernel_rfl) (hN:Nat.ble ds.length fn.ntmps=true:=by rfl):u0 P f ds [] R:=
 cH hf hk (fun Γ h _ _=>hgo Γ (h rfl)) hN
theorem bO {P:Program} {f:FuncId} {fn:Func} {ds:List DV} {c:Nat} {R:Nat→DV→HL→Prop} (fl:XFl) (s:Nat) (hf:P.funcs[f]?=some fn)
  (hgo:∀Γ:Gm,(∀g,¬Γ.W0 g)→Go Γ P fn.ntmps (rX Γ (tR P fn.results.toList) 0 c R) (tF fl P fn s) [] ⟨wW ds yS wk,[],Γ.g0⟩) (hk:okF P f fn (tF fl P fn s) (tR P fn.results.toList)=true:=by kernel_rfl) (hN:Nat.ble ds.length fn.ntmps=true:=by rfl):wU P f ds [] c R:=
 k8 hf hk (fun Γ h _ _=>hgo Γ (h rfl)) hN
theorem xf {P:Program} {f:FuncId} {fn:Func} {ds:List DV} {H0:HL} {c:Nat} {R:Nat→DV→HL→Prop} (fl:XFl) (s:Nat) (hf:P.funcs[f]?=some fn)
  (hgo:∀Γ:Gm,(∀k o,z8 H0 k=some o→o.n<Γ.g0)→(∀g,Γ.W0 g→∃k o,z8 H0 k=some o∧Γ.K0.real o.n∧Γ.K0.μ o.n=g)→Go Γ P fn.ntmps (rX Γ (tR P fn.results.toList) H0.length c R) (tF fl P fn s) [] ⟨wW ds yS wk,H0,Γ.g0⟩) (hk:okF P f fn (tF fl P fn s) (tR P fn.results.toList)=true:=by kernel_rfl) (hN:Nat.ble ds.length fn.ntmps=true:=by rfl):wU P f ds H0 c R:=
 k8 hf hk (fun Γ _=>hgo Γ) hN
theorem auC {p q:Prop} (h:q) (e:q→p:=by intro hq;(conv in tF _ _ _ _=>reduce);(conv in tR _ _=>reduce);dsimp only [YM];exact hq):p:=e h
end Go.Proofs.YtmibknbmhcnemaaDoor
