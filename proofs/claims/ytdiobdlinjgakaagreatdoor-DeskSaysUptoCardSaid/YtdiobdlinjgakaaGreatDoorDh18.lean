import Derived.Deep.Slices
import Derived.SizedLaws
import Derived.Lib.Hide
import Derived.Laws.BytesArg
import Derived.Laws.IdiomStrings
import Derived.Laws.OwnMore
import Derived.Deep.Draws
import Derived.Lib.LaidTab
import Derived.Lib.LaidU8
import Derived.Test.YtdiobdlinjgakaaGreatDoorDh16
import Derived.Test.YtdiobdlinjgakaaGreatDoorDh08
import Derived.Test.YtdiobdlinjgakaaGreatDoorDh17
import Derived.Lib.Builder
import Derived.Laws.Externs
set_option linter.unusedVariables false
set_option linter.unusedSimpArgs false
set_option maxHeartbeats 8000000
set_option maxRecDepth 100000
open Go.Proofs.Tryz
open Go.Lib renaming decDigits->_a,countByte->_j,indexByte->_s,TabIs->_B,parseUintB->_E,pow10Tab->_J,join->_L,itoa->_M
open Option.some renaming inj->_b
open Go.IntKind renaming i64->_c
open Int renaming toNat_natCast->_d,tdiv_eq_ediv_of_nonneg->_r
open List renaming getElem?_eq_getElem->_e,getElem?_append_right->_g,getElem?_eq_some_iff->_h,getElem?_map->_k,length_cons->_m,getElem?_append_left->_q,mem_map->_t,length_eq_one_iff->_u,getElem?_eq_none->_v,mem_of_getElem?->_w,map->_x,mem_append->_z,append_nil->_A,all_cons->_C
open Go.Value renaming int->_f,okWide->_D
open Bool renaming and_eq_true->_i
open Go.Proofs.Tryz renaming underlying46->_l,underlying105->_y,ntmps17->_F
open Go.World renaming cell?->_n,var?->_I
open Nat renaming le_refl->_o,zero_add->_G,le_trans->_H,not_lt->_K
open Go.Oper renaming upon_value->_p
namespace Go.Proofs.YtdiobdlinjgakaaGreatDoor
open Go.ChangeShapes Go.WideShapes Go.ChangeAt Go.RowKit
inductive cu where
 |int (k:IntKind)
 |bool
 |str
 |nil
 |cons (s r:cu)
 |slice (bytes size:Nat) (e:cu)
def cu.size:cu->Nat
 |.nil=>0
 |.cons s r=>s.size+r.size
 |_=>1
def Fe(P:Program)(t:TypeId):Option (List (Nat×TypeId)):=
 match P.underlying t with
 |some (.struct b)=>some (b.toList.map fun f=>(f.offset,f.type))
 |some (.array n e)=>some ((List.range n).map fun i=>(i*P.cellsOf e,e))
 |_=>none
def cu.fit(P:Program):cu->Option (Nat×List (Nat×TypeId))->TypeId->Bool
 |.int k,none,t=>match P.underlying t with|some (.int j)=>decide (j=k)|_=>false
 |.bool,none,t=>match P.underlying t with|some .bool=>true|_=>false
 |.str,none,t=>match P.underlying t with|some .string=>true|_=>false
 |.slice b n e,none,t=>match P.underlying t with
  |some (.slice f)=>decide (P.cellsOf f=n)&&decide (P.bytesOf f=b)&&decide (0<n)&&e.fit P none f
  |_=>false
 |.cons s r,none,t=>match Fe P t with
  |some ((o,c)::g)=>decide (o=0)&&decide (P.cellsOf c=s.size)&&s.fit P none c&&r.fit P (some (s.size,g)) t&&decide (P.cellsOf t=s.size+r.size)
  |_=>false
 |.nil,some (_,[]),_=>true
 |.cons s r,some (o,(m,c)::g),t=>decide (m=o)&&decide (P.cellsOf c=s.size)&&s.fit P none c&&r.fit P (some (o+s.size,g)) t
 |_,_,_=>false
def qN(w:World)(B:Nat):cu->List Value->Prop
 |.int k,c=>∃n,c=[.int k n]/\(Lit.int k n).wf=true
 |.bool,c=>∃b,c=[.bool b]
 |.str,c=>∃s:ByteArray,c=[.string s]/\s.size<=140737488351232
 |.nil,c=>c=[]
 |.cons s r,c=>∃f m,c=f++m/\f.length=s.size/\qN w B s f/\qN w B r m
 |.slice b n e,c=>∃(A:Option Addr)(len cap:Nat),c=[.slice A len cap]/\len<=cap/\cap*b<=140737488351232/\cap<=maxLen/\(A=none->cap=0)/\
   ∀ad,A=some ad->(0<len->ad.block<B)/\∀i,i<len->∃g,g.length=n/\(∀j,j<n->w.cell? (ad.add (i*n+j))=g[j]?)/\qN w B e g
section
variable {H:Type} {enc:TypeId×Value->H} {P:Program} {w:World} {B:Nat}
end
theorem Zt{H:Type}{enc:TypeId×Value->H}{P:Program}(hl:laidOutB P=true){W j:World}(m:Below W.heap.size W j):∀ {c:List TypeId} {q:List Value} {u:List (DataW H)} {ps:List MemPlace},
 c.all (fun t=>P.readableRec t&&decide (t<P.types.size))=true->DataW.TrodAll enc P W 0 (fun _=>true) true c q u ps->(∀x∈ps,x.block<W.heap.size)->DataW.TrodAll enc P j 0 (fun b=>decide (b<W.heap.size)) true c q u ps
 |[],_,_,_,_,h,_=>by
  obtain⟨rfl,rfl,rfl⟩:=trodAll_nil h;rfl
 |t::c,_,_,_,f,h,z=>by
  obtain⟨v,C,d,G,a,b,rfl,rfl,rfl,h1,h2⟩:=trodAll_cons h;simp only[_C,_i,decide_eq_true_eq]at f;refine⟨a,b,Below.trod hl f.1.1 f.1.2 h1 m (fun x g=>z x (_z.2 (.inl g))),Zt hl m (by simpa using f.2) h2 (fun x g=>z x (_z.2 (.inr g))),rfl⟩
theorem Zx{H:Type}{enc:TypeId×Value->H}{P:Program}{w:World}{base:Nat}{g:Nat->Bool}{j:Bool}:∀ {c:List TypeId} {m:List Value} {f:List (DataW H)} {ps:List MemPlace},DataW.TrodAll enc P w base g j c m f ps->f.length=c.length
 |[],_,_,_,h=>by obtain⟨rfl,rfl,rfl⟩:=trodAll_nil h;rfl
 |t::c,_,_,_,h=>by
  obtain⟨v,q,d,u,a,b,rfl,rfl,rfl,h1,h2⟩:=trodAll_cons h;simp[Zx h2]
def cu.val:cu->List Value->Value
 |.cons _ _,b=>.agg ⟨b⟩
 |_,b=>b.headD undef
theorem afz{P:Program}{w:World}{r:Reach}{b:Nat}{t:TypeId}{v:Value}:∀(s:cu),s.fit P none t=true->_D P w r b t v->v=s.val v.cells.toList:=by
 intro s f j;cases s with
 |int k=>
  simp only[cu.fit]at f;split at f
  .rename_i u g;obtain⟨n,rfl⟩:=okWide_int g j;rfl
  cases f
 |bool=>
  simp only[cu.fit]at f;split at f
  .rename_i g;obtain⟨n,rfl⟩:=okWide_bool g j;rfl
  cases f
 |str=>
  simp only[cu.fit]at f;split at f
  .rename_i g;obtain⟨n,rfl⟩:=okWide_string g j;rfl
  cases f
 |nil=>simp[cu.fit]at f
 |slice b n e=>
  simp only[cu.fit]at f;split at f
  .rename_i x g;obtain⟨a,l,c,rfl⟩:=okWide_slice g j;rfl
  cases f
 |cons s r=>
  simp only[cu.fit,Fe]at f;split at f
  .rename_i o z C m;split at m
   .rename_i G g;obtain⟨q,rfl,_⟩:=okWide_struct g j;rfl
   .rename_i k e g;simp only[_D,g]at j;obtain⟨q,rfl,_⟩:=j;rfl
   cases m
  cases f
def vv(w:World)(B:Nat):List cu->List Value->Prop
 |[],b=>b=[]
 |s::f,b=>∃c r,b=s.val c::r/\qN w B s c/\vv w B f r
theorem below_drewN{B:Nat}{a w:World}(h:Below B a w)(n:Nat):Below B a (w.drewN n):=⟨h.os,h.tape,h.output,h.size,h.block⟩
theorem aiM(w:World)(n:Nat):(w.drewN n).heap=w.heap:=rfl
theorem UQ{α:Type}{p:Nat->α->Prop}:∀(n:Nat),(∀i,i<n->∃x,p i x)->∃l:List α,l.length=n/\∀i (h:i<l.length),p i l[i]
 |0,_=>⟨[],rfl,fun i h=>fE⟩
 |n+1,h=>by
  obtain⟨l,hl,g⟩:=UQ n (fun i b=>h i G);obtain⟨x,c⟩:=h n G;refine⟨l++[x],by simp[hl],fun i b=>?_⟩;by_cases f:i<l.length
  .rw[List.getElem_append_left f];exact g i f
  have:i=l.length:=by simp at b;omega
  subst this;rw[List.getElem_append_right (_o _)];simp[hl]at c⊢;simpa[hl]using c
end Go.Proofs.YtdiobdlinjgakaaGreatDoor
namespace Go.Proofs.YtdiobdlinjgakaaGreatDoor
open Go.RowKit
def mO:cu->Type
 |.int _=>Int
 |.bool=>Bool
 |.str=>ByteArray
 |.nil=>Unit
 |.cons s r=>mO s×mO r
 |.slice _ _ e=>List (mO e)
def j3:(s:cu)->mO s->List O
 |.int k,n=>[.v (.int k n)]
 |.bool,b=>[.v (.bool b)]
 |.str,t=>[.v (.string t)]
 |.nil,_=>[]
 |.cons s r,(x,y)=>j3 s x++j3 r y
 |.slice _ n e,(l:List (mO e))=>[.snap n (l.map (j3 e)) false]
def ux:(s:cu)->mO s->Prop
 |.int k,n=>(Lit.int k n).wf=true
 |.bool,_=>True
 |.str,t=>t.size<=140737488351232
 |.nil,_=>True
 |.cons s r,(x,y)=>ux s x/\ux r y
 |.slice b _ e,(l:List (mO e))=>l.length*b<=140737488351232/\l.length<=maxLen/\∀x∈l,ux e x
def cu.qW:cu->Bool
 |.cons s r=>s.qW&&r.qW
 |.slice _ n e=>decide (0<n)&&decide (n=e.size)&&e.qW
 |_=>true
def K0:aO:=⟨fun _=>False,fun _=>False,fun _=>0,fun _=>False⟩
theorem yx:∀(s:cu)(x:mO s),(j3 s x).length=s.size
 |.int k,x=>rfl
 |.bool,x=>rfl
 |.str,x=>rfl
 |.nil,x=>rfl
 |.cons s r,(x,y)=>by simp[j3,cu.size,yx s x,yx r y]
 |.slice b n e,x=>rfl
theorem DE{w:World}:∀(s:cu)(g:List Value),s.qW=true->qN w w.heap.size s g->∃x:mO s,g.length=s.size/\ux s x/\∀(i:Nat)(d:O)(c:Value),(j3 s x)[i]?=some d->g[i]?=some c->aJ K0 w d c
 |.int k,g,_,h=>by exact aah
 |.bool,g,_,h=>by
  obtain⟨n,rfl⟩:=h;refine⟨n,rfl,trivial,fun i d c bf bn=>?_⟩;exact TY
 |.str,g,_,h=>by exact aah
 |.nil,g,_,h=>by
  have aj:g=[]:=h;subst aj;exact⟨(),rfl,trivial,fun i d c bf bn=>by simp at bn⟩
 |.cons s r,g,z,h=>by
  simp only[cu.qW,_i]at z;obtain⟨I,ak,rfl,hl,h1,h2⟩:=h;obtain⟨x,J,M,Q⟩:=DE s I z.1 h1;obtain⟨y,al,am,y3⟩:=DE r ak z.2 h2;refine⟨(x,y),by simp[cu.size,J,al],⟨M,am⟩,fun i d c bf bn=>?_⟩;simp only[j3]at bf;have e:(j3 s x).length=I.length:=by rw[yx,J]
  by_cases m:i<I.length
  .rw[_q G]at bf;rw[_q m]at bn;exact Q i d c bf bn
  rw[_g G,e]at bf;rw[_g G]at bn;exact y3 _ d c bf bn
 |.slice b n e,g,z,h=>by
  simp only[cu.qW,_i,decide_eq_true_eq]at z;obtain⟨⟨an,aa⟩,ao⟩:=z;obtain⟨A,len,cap,rfl,ab,ap,az,q,U⟩:=h;have aq:∀i,i<len->∃x:mO e,ux e x/\∀ad,A=some ad->∀(j:Nat)(d:O),(j3 e x)[j]?=some d->∃c,w.cell? (ad.add (i*n+j))=some c/\aJ K0 w d c:=by
   intro i m;cases A with
   |none=>have:=q rfl;omega
   |some ad=>
    obtain⟨_,h2⟩:=U ad rfl;obtain⟨C,ar,X,ac⟩:=h2 i m;obtain⟨x,J,M,Q⟩:=DE e C ao ac;refine⟨x,M,fun aA au j d bf=>?_⟩;obtain rfl:=_b au;have av:j<n:=by rw[aa,<-yx e x];exact(_h.1 bf).1
    have ae:j<C.length:=G;exact⟨C[j],by rw[X j av];exact _e ae,Q j d _ bf (_e ae)⟩
  obtain⟨l,hl,af⟩:=UQ len aq;refine⟨l,rfl,⟨by rw[hl];exact _H (Nat.mul_le_mul_right _ ab) ap,by rw[hl];omega,fun x f=>?_⟩,fun i d c bf bn=>?_⟩
  .obtain⟨i,m,rfl⟩:=List.mem_iff_getElem.1 f;exact(af i m).1
  cases i with
  |succ i=>simp at bn
  |zero=>
   simp[j3]at bf bn;subst bf bn;have ag:∀(ad:Addr)(i:Nat)(x:List O)(j:Nat)(d:O),A=some ad->(l.map (j3 e))[i]?=some x->x[j]?=some d->∃c,w.cell? (ad.add (i*n+j))=some c/\aJ K0 w d c:=by
    intro ad i x j d q f bf;rw[_k]at f;cases Y:l[i]? with
    |none=>rw[Y]at f;cases f
    |some y=>
     rw[Y]at f;obtain rfl:=_b f;obtain⟨m,aw⟩:=_h.1 Y;have:=(af i m).2 ad q j d (by rw[aw];exact bf);exact this
   refine .snap (fun i j=>match A with|some ad=>(w.cell? (ad.add (i*n+j))).getD undef|none=>undef) (by simp[hl]) ab (fun h=>ha) (fun x f=>?_) (fun ah=>?_) (fun ad i x j d q f bf=>?_) (fun i x j d f bf=>?_)
   .obtain⟨y,_,rfl⟩:=_t.1 f;rw[yx,aa]
   .cases A with
    |none=>have:=q rfl;omega
    |some ad=>
     refine⟨ad,rfl,?_,(U ad rfl).1 ah,fun h=>h⟩;obtain⟨C,ar,X,ac⟩:=(U ad rfl).2 0 ah;have u:=X 0 an;rw[Nat.zero_mul,_e (G:0<C.length)]at u;have ax:ad.add 0=ad:=by simp[Addr.add]
     rw[ax]at u;unfold _n at u;split at u
     .split at u
      .cases u
      rename_i ay;simpa using ay
     cases u
   .obtain⟨c,Z,ai⟩:=ag ad i x j d q f bf;subst q;simp[Z]
   have m:i<len:=by
    have:=(_h.1 f).1;simpa[hl]using this
   cases A with
   |none=>have:=q rfl;omega
   |some ad=>
    obtain⟨c,Z,ai⟩:=ag ad i x j d rfl f bf;simp only[Z,Option.getD_some];exact ai
def V5:(s:cu)->mO s->O
 |.int k,n=>.v (.int k n)
 |.bool,b=>.v (.bool b)
 |.str,t=>.v (.string t)
 |.nil,_=>.any
 |.cons s r,(x,y)=>.agg (j3 s x++j3 r y)
 |.slice _ n e,(l:List (mO e))=>.snap n (l.map (j3 e)) false
theorem al4{w:World}{s:cu}{f:List Value}(u:s.qW=true)(aj:s≠.nil)(h:qN w w.heap.size s f):∃x:mO s,ux s x/\aJ K0 w (V5 s x) (s.val f):=by
 obtain⟨x,m,v,g⟩:=DE s f u h;refine⟨x,v,?_⟩;have one:s.size=1->(j3 s x).length=1->aJ K0 w ((j3 s x).headD .any) (f.headD undef):=by
  intro h1 h2;obtain⟨d,j⟩:=_u.1 h2;obtain⟨c,bn⟩:=_u.1 (m.trans h1);rw[j,bn]at g⊢;exact g 0 d c rfl rfl
 cases s with
 |nil=>exact absurd rfl aj
 |cons s r=>
  obtain⟨y,q⟩:=x;have hl:=yx (.cons s r) (y,q);exact .agg (ds:=j3 s y++j3 r q) (by simp only[List.size_toArray];rw[m,<-hl];rfl) (fun i d c j bn=>g i d c j uZ)
 |int k=>exact one rfl rfl
 |bool=>exact one rfl rfl
 |str=>exact one rfl rfl
 |slice b n e=>exact one rfl rfl
def CZ:List cu->Type
 |[]=>Unit
 |s::r=>mO s×CZ r
def pz:(b:List cu)->CZ b->List O
 |[],_=>[]
 |s::r,(x,y)=>V5 s x::pz r y
def HN:(b:List cu)->CZ b->Prop
 |[],_=>True
 |s::r,(x,y)=>ux s x/\HN r y
def cu.okB:cu->Bool
 |.nil=>false
 |s=>s.qW
theorem ZB{w:World}:∀(b:List cu)(c:List Value),b.all cu.okB=true->vv w w.heap.size b c->∃x:CZ b,HN b x/\dS K0 w (pz b x) c.toArray
 |[],c,_,h=>by
  have j:c=[]:=h;subst j;exact⟨(),trivial,rfl,fun i d v f=>by simp[pz]at f⟩
 |s::r,c,g,h=>by
  simp only[_C,_i]at g;obtain⟨I,m,rfl,h1,h2⟩:=h;have aj:s≠.nil:=by rintro rfl;simp[cu.okB]at g
  have q:s.qW=true:=by have:=g.1;cases s<;>first|exact absurd rfl aj|exact this
  obtain⟨x,u,z⟩:=al4 q aj h1;obtain⟨y,C,G,y3⟩:=ZB r m g.2 h2;refine⟨(x,y),⟨u,C⟩,by simpa[pz]using G,fun i d v f eX=>?_⟩;cases i with
  |zero=>simp[pz]at f eX;rw[<-f,<-eX];exact z
  |succ i=>exact y3 i d v (by simpa[pz]using f) xJ
theorem Se{P:Program}{W:World}{n:String}{g:Nat}{c:Array Value}(f:P.globalNamed n=some g)(h:W.var? P n=some c):g<W.heap.size/\∀i,W.cell? ⟨g,i,none⟩=c[i]?:=by
 refine⟨?_,World.var?_cell f h⟩;simp only[_I,f,Option.bind_some]at h;rcases Nat.lt_or_ge g W.heap.size with b|b
 .exact b
 simp[Array.getElem?_eq_none b]at h
theorem akx{W:World}{g:Nat}{f:Array Value}(j:∀i,W.cell? ⟨g,i,none⟩=f[i]?){b:List Value}(h:f.toList=b)(q:∀c∈b,t_ c=true):se W g b:=by
 subst h;refine⟨fun i c m=>.inl ⟨q c (_w m),?_⟩,?_⟩
 .rw[j i,<-Array.getElem?_toList];exact m
 rw[j];simp
theorem XE{P:Program}{b:List (String×DataW Unit)}{W:World}(h:laidMet P b W){name:String}{k:IntKind}{zs:List Int}(j:(name,Lib.tabData k zs)∈b){g:Nat}{t e:TypeId}{n:Nat}
 (f:P.globalNamed name=some g) (m:(P.globals[g]?).map (·.type)=some t) (q:P.underlying t=some (.array n e)) (u:P.underlying e=some (.int k)) (v:P.cellsOf e=1) (x:P.cellsOf t=n):g<W.heap.size/\se W g (zs.map (_f k)):=by
 obtain⟨M,O,Q,U,p,z,C,G,I⟩:=Lib.laidMet.reads h j;obtain rfl:=_b (f.symm.trans z);obtain rfl:=_b (m.symm.trans C);obtain⟨h1,h2⟩:=Se f G;exact⟨h1,akx h2 (Lib.cells_of_tab q u v x I) (fun c J=>by
  obtain⟨X,-,rfl⟩:=_t.1 J;rfl)⟩
theorem Z6{P:Program}{m:List (String×DataW Unit)}{W:World}(h:laidMet P m W){name u:String}{d:DataW Unit}(x:(name,.iface u d)∈m){g:Nat}{t:TypeId}{ms:Array (String×TypeId)}
 (q:P.globalNamed name=some g) (z:(P.globals[g]?).map (·.type)=some t) (C:P.underlying t=some (.interface ms)):g<W.heap.size/\se W g [.tuple #[]]:=by
 obtain⟨Q,U,G,X,p,I,J,M,O⟩:=Lib.laidMet.reads h x;obtain rfl:=_b (q.symm.trans I);obtain rfl:=_b (z.symm.trans J);obtain⟨h1,h2⟩:=Se q M;obtain⟨f1,f,v,j,-,-⟩:=iface_of_trod C O;obtain⟨l⟩:=G;have j:l=[.iface f v]:=j;subst j;refine⟨h1,fun i c b=>?_,?_⟩
 .match i,b with
  |0,b=>
   obtain rfl:=_b b;exact .inr ⟨rfl,(show M9 _ from⟨.iface f v,by rw[h2];rfl,.inr ⟨f,v,rfl⟩⟩)⟩
  |i+1,b=>simp at b
 rw[h2];rfl
theorem YO{P:Program}{W:World}{x:String}{k:IntKind}{zs:List Int}{g:Nat}(C:P.globalNamed x=some g)(G:zs≠[])(h:se W g (zs.map (_f k))):_B P W x k zs:=by
 have j:∀i c,(zs.map (_f k))[i]?=some c->W.cell? ⟨g,i,none⟩=some c:=fun i c b=>WT (h.1 i c b) (by
  obtain⟨f,-,rfl⟩:=_t.1 (_w b);rfl)
 have m:=h.2;obtain⟨f,r,rfl⟩:=List.exists_cons_of_ne_nil G;have q:=j 0 _ rfl;unfold _B _I;rw[C];show(match W.heap[g]? with|some (.cells I _ _)=>some I|_=>none)=_;unfold _n at q m j;cases u:W.heap[g]? with
 |none=>simp[u]at q
 |some J=>
  cases J with
  |cells v t ax=>
   dsimp only;congr 1
   simp only[u]at j m;apply Array.ext';apply List.ext_getElem?;intro i;by_cases b:i<(f::r).length
   .have z:((f::r).map (_f k))[i]?=some (_f k ((f::r)[i]'(b))):=by rw[_k,_e b];rfl
    have M:v[i]?=some (_f k ((f::r)[i]'(b))):=j i _ z;rw[Array.getElem?_toList,M];exact z.symm
   have O:v.size<=(f::r).length:=by
    have:v[((f::r).map (_f k)).length]?=none:=m;rw[List.length_map]at this;exact oe
   rw[_v (by simpa using _H O (_K.1 b)),_v (by simpa using _K.1 b)]
  |_=>simp[u]at q
end Go.Proofs.YtdiobdlinjgakaaGreatDoor
namespace Go.Proofs.YtdiobdlinjgakaaGreatDoor
theorem pN{w c:World}(h:RowKit.Below w.heap.size w c):cN (fun _=>False) w c:=
 ⟨h.os,h.tape,h.output,h.size,fun g b _=>h.block g b,fun g j t ax f=>⟨j,ax,(h.block g (lt_of_heap f)).trans f,rfl⟩,.of_eq fun g _ _ b=>h.block g (lt_of_heap b)⟩
theorem r4{P:Program}{f:FuncId}{g:List O}{D:O}(m:k6 P f=true)
 (h:∀(K:aO)(w:World)(b:Array Value)(g0:Nat),Inv (cz K w g0 []) (K.cut w) (aB []) w->dS (K.cut w) w g b->Calls P f b w fun e c=>∃v,e=.returned v/\cN (fun _=>False) w c/\aJ (K.cut w) c D v):Spec P f g D:=
 ⟨m,fun K w b g0 j C q=>(h K w b g0 j q).mono fun e c ⟨v,u,x,z⟩=>⟨v,D,[],u,⟨rfl,rfl⟩,JM j x,z⟩⟩
theorem Rx(b o n:Nat):(⟨b,o,none⟩:Addr).add n=⟨b,o+n,none⟩:=by
 unfold Addr.add;split
 .rename_i h;rw[h];rfl
 rfl
theorem afL{K:aO}{w:World}{xs:List ByteArray}{c:Bool}{v:Value}(h:aJ K w (.snap 1 (xs.map fun x=>[.v (.string x)]) c) v):∃A cap,v=.slice A xs.length cap/\xs.length<=cap/\(0<xs.length->∃b o,A=some ⟨b,o,none⟩/\b<w.heap.size/\∀(j:Nat) x,xs[j]?=some x->w.cell? ⟨b,o+j,none⟩=some (.string x)):=by
 cases h with
 |snap f hl z U aj C G I=>
  rename_i A len cap;have J:len=xs.length:=by rw[<-hl];simp
  subst J;refine⟨A,cap,rfl,z,fun M=>?_⟩;obtain⟨ad,g,m,q,-⟩:=C M;obtain⟨b,o,X⟩:=ad;dsimp only at m q;subst m;refine⟨b,o,g,q,fun j x Q=>?_⟩;have u:(xs.map fun x=>[O.v (.string x)])[j]?=some [.v (.string x)]:=by rw[_k,Q];rfl
  have h1:=G _ j _ 0 _ g u rfl;have h2:=I j _ 0 _ u rfl;generalize f j 0=y at h1 h2;cases h2;rw[Rx]at h1;simpa using h1
theorem Cx{K:aO}{w:World}{d:O}{b:Array Value}(h:dS K w [d] b):∃v,b = #[v]/\aJ K w d v:=by
 obtain⟨aj,c⟩:=h;obtain⟨l⟩:=b;match l,aj with
 |[a],_=>exact⟨a,rfl,c 0 _ _ rfl rfl⟩
theorem Yc{K:aO}{w:World}{d1 d2:O}{c:Array Value}(h:dS K w [d1,d2] c):∃f g,c = #[f,g]/\aJ K w d1 f/\aJ K w d2 g:=by
 obtain⟨aj,j⟩:=h;obtain⟨l⟩:=c;match l,aj with
 |[a,b],_=>exact⟨a,b,rfl,j 0 _ _ rfl rfl,j 1 _ _ rfl rfl⟩
theorem Ds{K:aO}{w:World}{d1 d2 d3:O}{f:Array Value}(h:dS K w [d1,d2,d3] f):∃j m q,f = #[j,m,q]/\aJ K w d1 j/\aJ K w d2 m/\aJ K w d3 q:=by
 obtain⟨aj,g⟩:=h;obtain⟨l⟩:=f;match l,aj with
 |[a,b,c],_=>exact⟨a,b,c,rfl,g 0 _ _ rfl rfl,g 1 _ _ rfl rfl,g 2 _ _ rfl rfl⟩
attribute [local irreducible] bc Go
def bk(l:List ByteArray):List (List O):=l.map fun x=>[.v (.string x)]
theorem Jf(c:UInt8):∀l:List UInt8,(bm c l).length=_j l c+1
 |[]=>rfl
 |b::l=>by
  have f:=Jf c l;unfold _j at f⊢;by_cases h:b=c
  .subst h;rw[ri,_m,f,List.count_cons_self]
  cases g:bm c l with
  |nil=>exact absurd g (nG c l)
  |cons p ps=>
   rw[oZ h g,List.count_cons_of_ne h,<-f,g];rfl
theorem rK(c:UInt8)(l:List UInt8):(bm c l).length<=l.length+1:=by
 rw[Jf];unfold _j;have:=List.count_le_length (a:=c) (l:=l);omega
theorem VF{c:UInt8}:∀ {p:List UInt8} (r:List UInt8),c∉p->_s (p++c::r) c=p.length
 |[],r,_=>by simp[_s]
 |b::p,r,h=>by
  have f:¬b=c:=fun e=>h (by simp[e])
  have g:=VF (p:=p) r (fun q=>h (List.mem_cons_of_mem _ q));simp only[List.cons_append,_s,beq_iff_eq,if_neg f,g,_m];rw[if_neg G];omega
def o6:List O:=[.v (.string ⟨#[]⟩)]
theorem aia(x:List O)(k:Nat)(A:List (List O))(y:List O):hv (A++dX x (k+1)) A.length y=A++[y]++dX x k:=by
 have:=Ip x y [] (dX x k) A;simpa[dX]using this
theorem Qa(x:List O):∀k,(dX x k).length=k
 |0=>rfl
 |k+1=>by simp[dX,Qa x k]
theorem NP(b:List (List UInt8))(k:Nat):(bk (b.map I)++dX o6 k).length=b.length+k:=by simp[bk,Qa]
theorem Y6(b:List (List UInt8))(k:Nat)(y:O):hv (bk (b.map I)++dX o6 (k+1)) b.length (iX (cf (bk (b.map I)++dX o6 (k+1)) b.length) 0 [y])=bk (b.map I)++[[y]]++dX o6 k:=by
 have hl:(bk (b.map I)).length=b.length:=lD;have c:cf (bk (b.map I)++dX o6 (k+1)) b.length=o6:=by
  rw[lZ,_g G,hl,Nat.sub_self];rfl
 rw[c];have:=aia o6 k (bk (b.map I)) [y];rw[hl]at this;exact this
theorem agm(c:UInt8)(l:List UInt8)(hl:l.length<=1048576):Spec prog 14 [.v (.string (I l)),.v (.string (I [c])),.v (.int .i64 0),.v (.int .i64 (-1))] (.snap 1 (bk ((bm c l).map I)) false):=by
 have X:=abd c l;have ax:=rK c l;have z:=Jf c l;have aA:0<(bm c l).length:=by rw[z];omega
 have bl:_c.wrap ((_j l c:Nat)+1)=((bm c l).length:Nat):=by rw[z,IntWalk.i64_in _ G];omega
 have bD:_c.wrap ((l.length:Nat)+1)=((l.length+1:Nat):Int):=er;have eO:min ((bm c l).length:Int) ((l.length+1:Nat):Int)=((bm c l).length:Nat):=G;have Y:_c.wrap (((bm c l).length:Nat)-1)=(((bm c l).length-1:Nat):Int):=er;have Z:(I [c]=⟨#[]⟩)=False:=by
  refine eq_false ?_;show¬I [c]=I [];rw[dF];simp
 generalize ac:(bm c l).length=n at *;refine az {} 0 func14 fun Γ an=>ar ?_
 repeat' first|refine af ?_|simp only[Z]|simp only[aU,bl,bD,eO,Y,_d]|refine J X ?_|refine ag ?_|refine ab ?_ ?_<;>intro h<;>try exact aa|refine aK ⟨G,G,by(unfold cx maxLen;omega)⟩ ?_|exact al|fail
 refine bS (α:=List (List UInt8)×List UInt8) (fun x=>[(⟨.d0,.d0,.d0⟩,.v (.string (I x.2))),(⟨.d0,.d1,.d2⟩,.v (.int .i64 (x.1.length:Nat)))]) (fun x=>[(0,some ⟨Γ.g0,1,bk (x.1.map I)++dX o6 (n-x.1.length)⟩)]) (fun _=>Γ.g0+1) (fun x=>n-x.1.length) (fun x=>bm c l=x.1++bm c x.2/\x.2.length<=1048576) ([],l) ⟨rfl,hl⟩ ?_ ?_
 .exact bs
 rintro⟨f,g⟩ ⟨j,C⟩;dsimp only at j C⊢;refine bz ?_;have m:f.length+(bm c g).length=n:=by rw[<-ac,j,List.length_append]
 cases ay:bm c g with
 |nil=>exact absurd ay (nG _ _)
 |cons p ps=>
 rw[ay]at m j;rw[_m]at m;obtain⟨ae,ah⟩:=ui ay;rcases ah with⟨rfl,rfl⟩|⟨r,rfl,M⟩
 .have ai:f.length=n-1:=by simp at m;omega
  have q:_c.wrap ((f.length:Int)+1)=((n:Nat):Int):=er;have aj:=Y6 f 0;have u:=NP f (0+1);rw[show n-f.length=0+1 from G];have aC:bk (f.map I)++dX o6 0=bk (f.map I):=_A _;generalize bk (f.map I)++dX o6 (0+1)=ak at aj u⊢;repeat' first|refine af ?_|simp only[q,aj,_G,_d]|refine ag ?_|refine ab ?_ ?_<;>intro h<;>try exact aa|refine aK ⟨G,_o _,rfl⟩ ?_|exact al|fail
  refine ev (fG an ⟨.d0,.d1,.d0⟩ rfl rfl ⟨rfl,rfl,?_⟩) ?_
  .simp[bk];omega
  rw[j,List.map_append,_A,show(n:Int)-0=((n:Nat):Int)from G,_d];rw[e1 (l:=bk (f.map I)++[[O.v (.string (I g))]]) (by simp[bk];omega)];rw[show bk (f.map I)++[[O.v (.string (I g))]]=bk (_x I f++_x I [g])from lD];have aD:c1 Γ.g0 (bk (_x I f++_x I [g])):=eS (fun x=>fY);all_goals exact b0
 have ai:f.length<n-1:=by
  have:0<ps.length:=by rw[<-M];exact List.length_pos_iff.2 (nG _ _)
  omega
 have Q:=index_spec c (p++c::r);rw[VF r ae]at Q;have aE:p.length+1+r.length<=1048576:=by simp at C;omega
 have am:(I (p++c::r)).extract 0 p.length=I p:=by rw[fK];simp
 have ao:(I (p++c::r)).extract (p.length+1) (p++c::r).length=I r:=by
  have ap:(p++c::r).drop (p.length+1)=r:=by
   rw[show p++c::r=(p++[c])++r from aF];exact List.drop_left' aF
  rw[fK,ap,List.take_of_length_le c7]
 have q:_c.wrap ((p.length:Int)+0)=((p.length:Nat):Int):=er;have oP:_c.wrap ((p.length:Int)+1)=((p.length+1:Nat):Int):=er;have aq:_c.wrap ((f.length:Int)+1)=((f.length+1:Nat):Int):=er;have au:((I [c]).size:Int)=1:=rfl;obtain⟨k,av⟩:∃k,n-f.length=k+1:=⟨n-f.length-1,G⟩;rw[av];have aj:=Y6 f k;have u:=NP f (k+1);generalize bk (f.map I)++dX o6 (k+1)=ak at aj u⊢;repeat' first|refine af ?_|simp only[au,q,oP,aq,_d,am,ao,aj,_G]|simp only[aU]|refine J Q ?_|refine ag ?_|refine ab ?_ ?_<;>intro h<;>try exact aa|refine aK ⟨G,_o _,rfl⟩ ?_|exact al|fail
 refine br ⟨(f++[p],r),⟨by dsimp only;rw[j,M];simp,iS⟩,c7,?_⟩;have U:(f++[p]).length=f.length+1:=aF;have aw:n-(f.length+1)=k:=G;refine dB ?_ ?_ (_o _);all_goals first|refine dD ?_|exact dE
 all_goals repeat' first|exact trivial|exact rfl|apply And.intro
 .rw[U]
 rw[U,aw];simp[bk]
theorem va(c:UInt8)(l:List UInt8)(hl:l.length<=1048576):Spec prog 6 [.v (.string (I l)),.v (.string (I [c]))] (.snap 1 (bk ((bm c l).map I)) false):=by
 have j:=agm c l hl;have f:∀g,c1 g (bk ((bm c l).map I)):=fun g=>eS (fun x=>fY)
 refine az {} 0 func6 fun Γ an=>ar ?_
 repeat' first|refine af ?_|refine J j ?_|refine ag ?_|refine ab ?_ ?_<;>intro h<;>try exact aa|exact al|fail
 have f:=f Γ.g0;all_goals exact bM
theorem WL(w:World)(k:Nat)(os:Array Obj):RowKit.Below w.heap.size w (Sort.grow (w.drewN k) os):=by
 have h:=below_drewN (RowKit.Below.refl w.heap.size w) k;exact⟨h.os,h.tape,h.output,by simp[Sort.grow],fun g b=>by
  show((w.drewN k).heap++os)[g]?=_;rw[aiM,Array.getElem?_append_left b]⟩
theorem Am (n:Nat) (x:n<1000000000000):Spec prog 19 [.v (.int .i64 (n:Nat))] (.v (.string (I (_a n)))):=
 r4 b4 fun K w z g0 b c=>by
  obtain⟨v,rfl,f⟩:=Cx c;cases f;obtain⟨-,-,g⟩:=b.mC (g:=3) (cs:=_J.map (_f .u64)) qt;have j:_B prog w "internal/strconv.uint64pow10" .u64 _J:=YO b4 ae g;refine(Tryz.strconv_Itoa n G G w j).mono fun e C ⟨m,k,os,q⟩=>⟨_,?_,pN (q▸WL w k os),.v _⟩
  rw[m];have u:_M (n:Int)=_a n:=by
   unfold _M;rw[if_neg G,_d]
  rw[u];rfl
theorem yU{K:aO}{w:World}{Γ:bw}{H:Nat->Option aR}(c:Inv Γ K H w){g:Nat}(f:(g,[Value.tuple #[]])∈rS):∃b,w.cell? ⟨g,0,none⟩=some b/\(b=.nilIface\/∃j ki,b=.iface j ki):=
 adw ((c.mC f).2.2.1 0 _ rfl) rfl
def K2(w:List UInt8):O:=match _E 8 w with
 |.ok n=>.aS [.v (.int .u64 (n:Nat)),.v .nilIface]
 |.range=>.aS [.v (.int .u64 255),.e7]
 |_=>.aS [.v (.int .u64 0),.e7]
theorem ah7(l:List UInt8)(hl:l.length<=1048576):Spec prog 97 [.v (.string (I l)),.v (.int .i64 10),.v (.int .i64 8)] (K2 l):=by
 have bf:(I l).data.toList=l:=nY;have C:(I l).size=l.length:=aU l;refine r4 b4 fun K w J g0 q u=>?_
 obtain⟨M,Q,U,rfl,aw,aY,z⟩:=Ds u;cases aw;cases aY;cases z;unfold K2;have aS:∀ {f:World} (a:Value) (b:Value) (d:O),aJ (K.cut w) f d b->aJ (K.cut w) f (.aS [.v a,d]) (.tuple #[a,b]):=fun a b d bf=>.aS rfl fun i x c aP bn=>by exact Nd
 cases a6:_E 8 l with
 |ok n=>
  refine(Tryz.strconv_ParseUint_10_at8_ok (I l) G n q3 w).mono fun e f ⟨g,cy⟩=>⟨_,g,?_,aS _ _ _ (.v _)⟩
  exact Im
 |range=>
  obtain⟨j,h1,h2⟩:=yU q (g:=5) qt;exact(Tryz.strconv_ParseUint_10_at8_range (I l) G q3 j w h1 h2).mono fun e f ⟨N,g,_,_,m⟩=>⟨_,g,pN m,aS _ _ _ (.e7 _ _)⟩
 |_=>
  obtain⟨j,h1,h2⟩:=yU q (g:=4) qt;exact(Tryz.strconv_ParseUint_10_at8_syntax (I l) G q3 j w h1 h2).mono fun e f ⟨N,g,_,_,m⟩=>⟨_,g,pN m,aS _ _ _ (.e7 _ _)⟩
theorem Nu:∀n:Nat,(_a n).length<=n+1:=fun n=>by
 induction n using Nat.strongRecOn with
 |_ n b=>
  rw[_a];split
  .simp
  have:=b (n/10) G;simp;omega
theorem ahH:∀n:Fin 10,(([48,49,50,51,52,53,54,55,56,57]:List UInt8).drop n.val).take 1=[UInt8.ofNat (48+n.val)]:=n7
theorem NI(n:Nat)(h:n<10):(ByteArray.mk #[48,49,50,51,52,53,54,55,56,57]).extract n (n+1)=I (_a n):=by
 show(I [48,49,50,51,52,53,54,55,56,57]).extract n (n+1)=_;rw[fK,_a,dif_pos h,show n+1-n=1 from G];exact congrArg I (ahH ⟨n,h⟩)
theorem wk(k:Nat):∀n:Nat,n<=k->n<=1000000000->Spec prog 27 [.v (.int .i64 (n:Nat))] (.v (.string (I (_a n)))):=by
 induction k with
 |zero=>
  intro n f _;obtain rfl:n=0:=G;have e:=NI 0 ae;refine az {} 0 func27 fun Γ an=>ar ?_
  repeat' first|refine af ?_|simp only[e]|refine ag ?_|refine ab ?_ ?_<;>intro h<;>try exact aa|exact al|fail
  all_goals(refine cI ?_;first|exact cc|try simp only[cE]at *)
  all_goals exact congrArg (fun x=>O.v (.string x)) e
 |succ k c=>
  intro n f j;by_cases h10:n<10
  .have e:=NI n h10;have bl:_c.wrap ((n:Int)+1)=((n+1:Nat):Int):=er;have g:((ByteArray.mk #[48,49,50,51,52,53,54,55,56,57]).size:Int)=10:=rfl;refine az {} 0 func27 fun Γ an=>ar ?_
   repeat' first|refine af ?_|simp only[bl,g,_d,e]|refine ag ?_|refine ab ?_ ?_<;>intro h<;>try exact aa|exact al|fail
   all_goals exact bM
  have h1:=c (n/10) G G;have h2:=c (n%10) G G;have bl:_c.wrap (((n:Nat):Int).tdiv 10)=((n/10:Nat):Int):=by rw[IntWalk.i64_in _ (by rw[_r G];omega),_r G];omega
  have bD:((n:Nat):Int).tmod 10=((n%10:Nat):Int):=(Int.ofNat_tmod n 10).symm;have m:=Nu (n/10);have q:=Nu (n%10);have e:I (_a (n/10))++I (_a (n%10))=I (_a n):=by
   rw[dt];congr 1
   conv=>rhs;rw[_a,dif_neg h10]
   rw[show _a (n%10)=[UInt8.ofNat (48+n%10)]by rw[_a,dif_pos G]]
  refine az {} 0 func27 fun Γ an=>ar ?_
  repeat' first|refine af ?_|simp only[bl,bD,e]|refine J h1 ?_|refine J h2 ?_|refine ag ?_|refine ab ?_ ?_<;>intro h<;>try exact aa|refine aK (by simp only[aU];omega) ?_|exact al|fail
  all_goals exact bM
end Go.Proofs.YtdiobdlinjgakaaGreatDoor
namespace Go.Proofs.YtdiobdlinjgakaaGreatDoor
theorem Kv(xs:List ByteArray)(f:ByteArray)(c:Bool)(m:0<xs.length)(aA:xs.length<=140737488355328)(q:(_L (xs.map (·.data.toList)) f.data.toList).length<=140737488355328):
 Spec prog 20 [.snap 1 (xs.map fun x=>[.v (.string x)]) c,.v (.string f)] (.v (.string ⟨(_L (xs.map (·.data.toList)) f.data.toList).toArray⟩)):=
 r4 b4 fun K w g g0 X ⟨aj,j⟩=>by
  have u:g.size=2:=aj;obtain⟨z,C,rfl⟩:∃a b,g = #[a,b]:=by
   obtain⟨l⟩:=g;match l,u with
   |[a,b],_=>exact⟨a,b,rfl⟩
  have aw:=j 0 _ z rfl rfl;have aY:=j 1 _ C rfl rfl;cases aY;obtain⟨A,cap,rfl,G,I⟩:=afL aw;obtain⟨J,o,rfl,M,O⟩:=I m;exact(Tryz.strings_Join J o cap xs f w O M aA G q).mono fun e Y ⟨Q,U⟩=>⟨_,Q,pN U,.v _⟩
open Go.RowKit in
set_option maxRecDepth 100000 in
theorem acF(b:Nat)(w:World)(g:w.cell? ⟨b,0,none⟩=some (.pointer (some ⟨b,0,none⟩))):
 Calls prog 17 #[.pointer (some ⟨b,0,none⟩)] w fun e c=>e=.returned (.tuple #[])/\c=w:=by
 obtain⟨j,f,_⟩:=Option.map_eq_some_iff.1 (show(prog.info? 49).map (·.size)=some 2 from b4);have m:=u9;go_enter func17,_F
 go_wp2
 rw[Lib.run_neq_ptr_same w _ _l f];go_wp2
 go_end0
 exact⟨rfl,rfl⟩
open Go.RowKit in
set_option maxRecDepth 100000 in
theorem ad7(b:Nat)(w:World)(u:w.cell? ⟨b,0,none⟩=some (.pointer none))(c:w.shape? b=some (49,2))(v:w.frozen? ⟨b,0,none⟩=false):
 Calls prog 17 #[.pointer (some ⟨b,0,none⟩)] w fun e g=>e=.returned (.tuple #[])/\g=w.setCell ⟨b,0,none⟩ (.pointer (some ⟨b,0,none⟩)):=by
 obtain⟨j,f,m⟩:=Option.map_eq_some_iff.1 (show(prog.info? 49).map (·.size)=some 2 from b4);have q:liesAt prog prog.depth 49 (2/prog.cellsOf 49) 0 49 1=true:=b4;have x:=u9;go_enter func17,_F
 go_wp2
 rw[Lib.run_to_unsafe w ⟨b,0,none⟩ _l _y f (by rw[m];decide) c (Nat.zero_lt_succ 1)];simp only[Result.andThen];rw[_p];go_wp2
 rw[run_callFunc_extern (fn:=Tryz.f38) func38 b4 b4 b4 (e:=Extern.AbiNoEscape.same) b4];rw[Lib.run_noEscape];simp only[Result.andThen];rw[_p];go_wp2
 rw[Lib.run_from_unsafe w ⟨b,0,none⟩ _y _l f c q];simp only[Result.andThen];rw[_p];go_wp2
 go_end0
 exact⟨rfl,rfl⟩
abbrev e5:TypeId:=49
theorem afh{st:bb}(s:bK)(k:Nat){n sz:Nat}{T:TypeId}(aj:st.tm.get s=.ch n sz T):fP st ⟨st.tm.set s (.ptr k n sz 0 0),st.H,st.gen⟩:=by
 intro Γ N K a w b;refine⟨K,b.inv,b.fresh,b.g0,b.size,b.defers,fun q=>?_⟩;show aJ K w ((st.tm.set s _).get q) _;rw[bQ.iP];by_cases e:q=s
 .rw[if_pos e,e];have:=b.tm s;rw[aj]at this;generalize a.tmps.getD s.nat undef=v at this⊢;cases this with
  |ch c f=>
   obtain⟨g,ax,j,m⟩:=f;have h2:aJ K w (.ptr k n sz 0 0) (.pointer (some ⟨K.aD n,0*sz+0,none⟩)):=.ptr c ⟨g,T,ax,j⟩;simpa using h2
 rw[if_neg e];exact b.tm q
theorem aee(b:Nat)(d:O):b1 prog 17 [.ch b 2 e5] [some ⟨b,2,[[.v (.pointer none),d]]⟩] (fun r H=>r=.aS []/\H=[some ⟨b,2,[[.ch b 2 e5,d]]⟩]):=by
 refine⟨b4,fun K w aA g0 J aC Z=>?_⟩;obtain⟨v,rfl,aa⟩:=Cx Z;cases aa with
 |ch C ab=>
  obtain⟨m,ax,u,G⟩:=ab;rcases(J.obj 0 _ rfl).two (fun q=>Aj)with⟨U,I⟩|⟨U,ac,ae,af,I,e8,ag,aE,M⟩
  .exact absurd C U
  dsimp only at I e8 ag M;rw[u]at e8;obtain⟨rfl,rfl,rfl⟩:m=ac/\_=ae/\ax=af:=by exact aag
  obtain⟨aG,ah,ai⟩:=M 0 _ 0 _ rfl rfl;obtain⟨aj,ak,al⟩:=M 0 _ 1 d rfl rfl;cases ai;have am:w.cell? ⟨(K.cut w).aD b,0,none⟩=some (.pointer none):=by simp[_n,u,ah]
  have an:w.shape? ((K.cut w).aD b)=some (e5,2):=by simp[World.shape?,u,G]
  have ao:w.frozen? ⟨(K.cut w).aD b,0,none⟩=false:=by
   obtain⟨aH,aI⟩:=ax;have ap:=I.1;simp only[World.frozen?,u,Bool.and_eq_false_iff,decide_eq_false_iff_not];simp only[wu]at ap;omega
  have aq:=ad7 ((K.cut w).aD b) w am an ao;refine aq.mono ?_;rintro e Q ⟨rfl,rfl⟩;have ar:=setCell_eq_setRow w ((K.cut w).aD b) 0 m e5 ax (.pointer (some ⟨(K.cut w).aD b,0,none⟩)) u;have X:dH (K.cut w) w (K.cut w) (w.setRow ((K.cut w).aD b) (m.setIfInBounds 0 (.pointer (some ⟨(K.cut w).aD b,0,none⟩)))):=⟨aav u aF (J.own 0 _ rfl C).1,fun n h=>⟨h,rfl⟩,fun g _ h=>h⟩;have Y:=setRow_heap w ((K.cut w).aD b) m (m.setIfInBounds 0 (.pointer (some ⟨(K.cut w).aD b,0,none⟩))) e5 ax u;have au:∀g,g≠(K.cut w).aD b->(w.setRow ((K.cut w).aD b) (m.setIfInBounds 0 (.pointer (some ⟨(K.cut w).aD b,0,none⟩)))).heap[g]?=w.heap[g]?:=fun g av=>setRow_other av
  rw[ar];generalize w.setRow ((K.cut w).aD b) (m.setIfInBounds 0 (.pointer (some ⟨(K.cut w).aD b,0,none⟩)))=Q at *;have aw:aJ (K.cut w) Q (.ch b 2 e5) (.pointer (some ⟨(K.cut w).aD b,0,none⟩)):=.ch C ⟨_,ax,Y,by simp[G]⟩;have ay:mQ (K.cut w) Q ⟨b,2,[[.ch b 2 e5,d]]⟩:=by
   refine .inr (.inl ⟨C,_,e5,ax,by rw[Array.size_setIfInBounds];exact I,Y,by simp[G],fun x f=>?_,fun i x j e f z=>?_⟩)
   .simp at f;rw[f];rfl
   match i,f with
   |0,f=>
    obtain rfl:=_b f;match j,z with
    |0,z=>
     obtain rfl:=_b z;exact⟨_,by simp[G],aw⟩
    |1,z=>
     obtain rfl:=_b z;exact⟨aj,by simpa using ak,al.mono X⟩
    |j+2,z=>simp at z
   |i+1,f=>simp at f
  have az:=Ei J (k:=0) rfl C X au ay;refine⟨.tuple #[],.aS [],_,rfl,⟨rfl,rfl⟩,?_,.aS rfl (fun i d c h=>fE)⟩;have e:(fun j=>if j=0 then some (aR.mk b 2 [[.ch b 2 e5,d]])else aB [some (aR.mk b 2 [[.v (.pointer none),d]])] j)=aB [some (aR.mk b 2 [[.ch b 2 e5,d]])]:=by
   funext j;cases j with
   |zero=>rfl
   |succ j=>rfl
  rw[<-e];exact az
theorem afF(b:Nat)(d:O):b1 prog 17 [.ch b 2 e5] [some ⟨b,2,[[.ch b 2 e5,d]]⟩] (fun r H=>r=.aS []/\H=[some ⟨b,2,[[.ch b 2 e5,d]]⟩]):=by
 refine⟨b4,fun K w aa g0 f ab x=>?_⟩;obtain⟨v,rfl,z⟩:=Cx x;cases z with
 |ch C G=>
  obtain⟨I,ax,g,ac⟩:=G;rcases(f.obj 0 _ rfl).two (fun q=>Aj)with⟨j,m⟩|⟨j,J,M,Q,m,e8,U,ae,u⟩
  .exact absurd C j
  dsimp only at m e8 U u;rw[g]at e8;obtain⟨rfl,rfl,rfl⟩:I=J/\_=M/\ax=Q:=by exact aag
  obtain⟨af,X,Y⟩:=u 0 _ 0 _ rfl rfl;cases Y;have Z:w.cell? ⟨(K.cut w).aD b,0,none⟩=some (.pointer (some ⟨(K.cut w).aD b,0,none⟩)):=by simp[_n,g,X]
  refine(acF ((K.cut w).aD b) w Z).mono ?_;rintro e ag ⟨rfl,rfl⟩;exact⟨.tuple #[],.aS [],_,rfl,⟨rfl,rfl⟩,f,.aS rfl (fun i d c h=>fE)⟩
end Go.Proofs.YtdiobdlinjgakaaGreatDoor
