import Derived.Test.YtdiobdlinjgakaaGreatDoorDh01
import Derived.Laws.Cells
import Derived.Laws.Entries
import Derived.Laws.CopyRow
import Derived.Deep.LoopGhost
import Derived.Lib.Bytealg
import Derived.Lib.ConvBytes
import Derived.MapKept
import Derived.Laws.StructEq
import Derived.ChangeKeysEq
import Derived.Laws.Append
import Derived.Laws.BytesString
set_option linter.unusedVariables false
set_option linter.unusedSimpArgs false
set_option maxHeartbeats 8000000
set_option maxRecDepth 100000
open Go.Proofs.Tryz
open Option.some renaming inj->_a,injEq->_F
open Array renaming getElem?_eq_getElem->_b,getElem?_toList->_u,getElem?_eq_none->_T,ext'->_U,range->_X,foldl_toList->_0
open Go.Result renaming andThen_ok->_c
open List renaming getElem?_eq_getElem->_d,getElem?_eq_some_iff->_f,mem_of_getElem?->_k,getElem?_append_right->_l,getElem?_append_left->_n,replicate->_p,getElem?_drop->_r,eq_nil_of_length_eq_zero->_v,mem_cons_of_mem->_A,mem_iff_getElem?->_C,getElem?_toArray->_D,getElem?_take_of_lt->_G,mem_append->_H,getElem?_cons_succ->_I,mem_cons_self->_M,length_append->_N,size_toArray->_P,length_take->_R,getElem?_eq_none->_W,getElem?_map->_1,append_assoc->_2,mem_flatMap->_6,length_drop->_7,length_cons->_8,length_nil->_9
open Nat renaming mul_le_mul_right->_e,add_zero->_o,zero_add->_q,le_refl->_s,add_mul->_t,add_assoc->_w,lt_of_lt_of_le->_y,zero_mul->_B,le_trans->_V,one_mul->_Y
open Go.Sem renaming run_bind->_g,run_pure->_j
open Go.Builtin renaming zeroCells->_h,firstCells->_m,append_->_z
open Go.Instr renaming sliceBounds->_i
open Bool renaming and_eq_true->_x
open Go.RowKit.Below renaming heap_alloc->_E
open Go.Op renaming equalIn->_J,stringOp->_Q,bytesLess->_Z
open Go.Value renaming cells->_K
open Int renaming le_refl->_L
open Option renaming isSome_iff_exists->_O,map_some->_S
open Go.IntKind renaming i64->_3
open Go.Program renaming cellsOf->_4
open UInt8 renaming ofNat->_5
namespace Go.Proofs.YtdiobdlinjgakaaGreatDoor
inductive kL|d0|d1|d2|d3|d4|d5|d6|d7
deriving DecidableEq
def kL.nat:kL->Nat|.d0=>0|.d1=>1|.d2=>2|.d3=>3|.d4=>4|.d5=>5|.d6=>6|.d7=>7
inductive c9 (α:Type) where
 |nil
 |mk (a b c d e f g h:α)
def c9.get{α}(j:α):c9 α->kL->α
 |.nil,_=>j
 |.mk a _ _ _ _ _ _ _,.d0=>a
 |.mk _ b _ _ _ _ _ _,.d1=>b
 |.mk _ _ c _ _ _ _ _,.d2=>c
 |.mk _ _ _ d _ _ _ _,.d3=>d
 |.mk _ _ _ _ e _ _ _,.d4=>e
 |.mk _ _ _ _ _ f _ _,.d5=>f
 |.mk _ _ _ _ _ _ g _,.d6=>g
 |.mk _ _ _ _ _ _ _ h,.d7=>h
def c9.set{α}(j:α):c9 α->kL->α->c9 α
 |.nil,.d0,v=>.mk v j j j j j j j
 |.nil,.d1,v=>.mk j v j j j j j j
 |.nil,.d2,v=>.mk j j v j j j j j
 |.nil,.d3,v=>.mk j j j v j j j j
 |.nil,.d4,v=>.mk j j j j v j j j
 |.nil,.d5,v=>.mk j j j j j v j j
 |.nil,.d6,v=>.mk j j j j j j v j
 |.nil,.d7,v=>.mk j j j j j j j v
 |.mk _ b c d e f g h,.d0,v=>.mk v b c d e f g h
 |.mk a _ c d e f g h,.d1,v=>.mk a v c d e f g h
 |.mk a b _ d e f g h,.d2,v=>.mk a b v d e f g h
 |.mk a b c _ e f g h,.d3,v=>.mk a b c v e f g h
 |.mk a b c d _ f g h,.d4,v=>.mk a b c d v f g h
 |.mk a b c d e _ g h,.d5,v=>.mk a b c d e v g h
 |.mk a b c d e f _ h,.d6,v=>.mk a b c d e f v h
 |.mk a b c d e f g _,.d7,v=>.mk a b c d e f g v
theorem c9.iP{α}(b:α)(n:c9 α)(i j:kL)(v:α):(n.set b i v).get b j=if j=i then v else n.get b j:=by cases n<;>cases i<;>cases j<;>rfl
structure bK where
 (i j k:kL)
deriving DecidableEq
def bK.nat(s:bK):Nat:=64*s.i.nat+8*s.j.nat+s.k.nat
theorem kL.wE(d:kL):d.nat<8:=by cases d<;>decide
theorem kL.vB{a b:kL}(h:a.nat=b.nat):a=b:=by cases a<;>cases b<;>first|rfl|revert h;decide
theorem bK.vB{a b:bK}(h:a.nat=b.nat):a=b:=by
 obtain⟨c,f,g⟩:=a;obtain⟨ah,ai,j⟩:=b;have:=c.wE;have:=f.wE;have:=g.wE;have:=ah.wE;have:=ai.wE;have:=j.wE
 simp only[bK.nat]at h;have m:c=ah:=kL.vB G;have q:f=ai:=kL.vB G;have u:g=j:=kL.vB G;rw[m,q,u]
inductive O where
 |any
 |dY
 |e7
 |v (x:Value)
 |agg (cs:List O)
 |aS (cs:List O)
 |ptr (k n sz i j:Nat)
 |bY (x:List O)
 |aG (k n sz lo len:Nat) (full:Bool)
 |eA (k n sz len:Nat)
 |snap (sz:Nat) (xs:List (List O)) (b:Bool)
 |fn (f:Fn) (first c:List O)
 |mp (k n:Nat)
 |ch (n sz:Nat) (T:TypeId)
 |eZ (k n len:Nat) (T:TypeId)
 |gA (n:Nat) (key:Value)
instance:Inhabited O:=⟨.any⟩
abbrev bQ:=c9 (c9 (c9 O))
def bQ.get(e:bQ)(s:bK):O:=c9.get .any (c9.get .nil (c9.get .nil e s.i) s.j) s.k
def bQ.set(e:bQ)(s:bK)(v:O):bQ:=c9.set .nil e s.i (c9.set .nil (c9.get .nil e s.i) s.j (c9.set .any (c9.get .nil (c9.get .nil e s.i) s.j) s.k v))
theorem bQ.iP(e:bQ)(s t:bK)(v:O):(bQ.set e s v).get t=if t=s then v else e.get t:=by
 obtain⟨b,c,f⟩:=s;obtain⟨t1,t2,t3⟩:=t;simp only[bQ.get,bQ.set,c9.iP,bK.mk.injEq];by_cases h1:t1=b
 .subst h1;simp only[if_true,true_and,c9.iP];by_cases h2:t2=c
  .subst h2;simp only[if_true,true_and,c9.iP]
  simp only[h2,if_false,false_and]
 simp only[h1,if_false,false_and]
structure aR where
 (n sz:Nat) (xs:List (List O))
abbrev aV:=List (Option aR)
def aB:aV->Nat->Option aR
 |[],_=>none
 |x::_,0=>x
 |_::r,k+1=>aB r k
def cl:aV->Nat->Option aR->aV
 |[],0,o=>[o]
 |[],k+1,o=>none::cl [] k o
 |_::r,0,o=>o::r
 |x::r,k+1,o=>x::cl r k o
theorem lS(o:Option aR):∀(H:aV)(k j:Nat),aB (cl H k o) j=if j=k then o else aB H j
 |[],0,0=>rfl
 |[],0,j+1=>DG
 |[],k+1,0=>DG
 |[],k+1,j+1=>by
  have:=lS o [] k j;exact Sp
 |x::r,0,0=>rfl
 |x::r,0,j+1=>DG
 |x::r,k+1,0=>DG
 |x::r,k+1,j+1=>by
  have:=lS o r k j;exact Sp
structure bb where
 (tm:bQ) (H:aV) (gen:Nat)
structure aO where
 bG:Nat->Prop
 real:Nat->Prop
 aD:Nat->Nat
 M:Nat->Prop
inductive aJ (K:aO) (w:World):O->Value->Prop
 |any (x:Value):aJ K w .any x
 |dY (b:Bool):aJ K w .dY (.bool b)
 |e7 (t:TypeId) (x:Value):aJ K w .e7 (.iface t x)
 |v (x:Value):aJ K w (.v x) x
 |agg {ds:List O} {cs:Array Value} (hl:cs.size=ds.length) (h:∀(i:Nat)(d:O)(c:Value),ds[i]?=some d->cs[i]?=some c->aJ K w d c):aJ K w (.agg ds) (.agg cs)
 |aS {ds:List O} {cs:Array Value} (hl:cs.size=ds.length) (h:∀(i:Nat)(d:O)(c:Value),ds[i]?=some d->cs[i]?=some c->aJ K w d c):aJ K w (.aS ds) (.tuple cs)
 |ptr {k n sz i j:Nat} (g:K.real n) (m:∃cs t ax,w.heap[K.aD n]?=some (.cells cs t ax)):aJ K w (.ptr k n sz i j) (.pointer (some ⟨K.aD n,i*sz+j,none⟩))
 |bY {x:List O} {ad:Addr} (f:Nat->Value) (aj:ad.spot=none) (Q:ad.block<w.heap.size) (U:¬K.M ad.block) (m:∀(t:Nat)(d:O),x[t]?=some d->w.cell? (ad.add t)=some (f t)) (h:∀(t:Nat)(d:O),x[t]?=some d->aJ K w d (f t)):aJ K w (.bY x) (.pointer (some ad))
 |aG {k n sz lo len:Nat} {full:Bool} {A:Option Addr} {cap:Nat} (q:len<=cap) (X:full=true->cap=len)
   (h:cap=0\/(K.real n/\A=some ⟨K.aD n,lo*sz,none⟩/\∃cs t ax,w.heap[K.aD n]?=some (.cells cs t ax)/\(lo+cap)*sz<=cs.size/\(full=false->(lo+cap)*sz=cs.size))):aJ K w (.aG k n sz lo len full) (.slice A len cap)
 |eA {k n sz len:Nat} {cap:Nat} (q:len<=cap) (g:K.real n) (h:∃cs t ax,w.heap[K.aD n]?=some (.cells cs t ax)/\cap*sz=cs.size):aJ K w (.eA k n sz len) (.slice (some ⟨K.aD n,0,none⟩) len cap)
 |snap {sz:Nat} {xs:List (List O)} {G:Bool} {A:Option Addr} {len cap:Nat} (f:Nat->Nat->Value) (hl:xs.length=len) (q:len<=cap) (m:G=true->cap=len) (aj:∀x∈xs,x.length=sz)
   (Y:0<len->∃ad,A=some ad/\ad.spot=none/\ad.block<w.heap.size/\¬K.M ad.block)
   (Z:∀(ad:Addr)(i:Nat)(x:List O)(j:Nat)(d:O),A=some ad->xs[i]?=some x->x[j]?=some d->w.cell? (ad.add (i*sz+j))=some (f i j))
   (h:∀(i:Nat)(x:List O)(j:Nat)(d:O),xs[i]?=some x->x[j]?=some d->aJ K w d (f i j)):aJ K w (.snap sz xs G) (.slice A len cap)
 |fn {f:Fn} {first u:List O} {z C:Array Value} (h1:z.size=first.length) (h2:C.size=u.length)
   (aa:∀(i:Nat)(d:O)(c:Value),first[i]?=some d->z[i]?=some c->aJ K w d c) (ab:∀(i:Nat)(d:O)(c:Value),u[i]?=some d->C[i]?=some c->aJ K w d c):aJ K w (.fn f first u) (.func f z C)
 |mp {k n:Nat} (g:K.real n):aJ K w (.mp k n) (.map (some (K.aD n)))
 |ch {n sz:Nat} {T:TypeId} (g:K.real n) (m:∃cs ax,w.heap[K.aD n]?=some (.cells cs T ax)/\cs.size=sz):aJ K w (.ch n sz T) (.pointer (some ⟨K.aD n,0,none⟩))
 |eZ {k n len:Nat} {T:TypeId} {A:Option Addr} {cap:Nat} (q:len<=cap) (h:cap=0\/(K.real n/\A=some ⟨K.aD n,0,none⟩/\∃cs ax,w.heap[K.aD n]?=some (.cells cs T ax)/\cap=cs.size)):aJ K w (.eZ k n len T) (.slice A len cap)
 |gA {n i:Nat} {key:Value} (g:K.real n) (h:∃I J e,w.heap[K.aD n]?=some (.map I J)/\I[i]?=some e/\e.key=key):aJ K w (.gA n key) (.int .i64 (i:Nat))
def sG(w j:World):Prop:=∀(g:Nat)(b:Array MapEntry)(m:Nat),w.heap[g]?=some (.map b m)->∃(c:Array MapEntry)(q:Nat),j.heap[g]?=some (.map c q)/\∀(i:Nat)(e:MapEntry),b[i]?=some e->∃f:MapEntry,c[i]?=some f/\f.key=e.key
theorem sG.of_eq{w f:World}(h:∀(g:Nat)(b:Array MapEntry)(c:Nat),w.heap[g]?=some (.map b c)->f.heap[g]?=w.heap[g]?):sG w f:=fun g b c j=>⟨b,c,by rw[h g b c j];exact j,fun i e m=>⟨e,m,rfl⟩⟩
theorem sG.trans{a b c:World}(h:sG a b)(k:sG b c):sG a c:=fun g f j m=>by
 obtain⟨q,u,h1,h2⟩:=h g f j m;obtain⟨v,z,C,G⟩:=k g q u h1;refine⟨v,z,C,fun i e I=>?_⟩;obtain⟨x,J,M⟩:=h2 i e I;obtain⟨y,O,Q⟩:=G i x J;exact⟨y,O,Q.trans M⟩
structure cN (W:Nat->Prop) (w w':World):Prop where
 os:w'.os=w.os
 tape:w'.tape=w.tape
 output:w'.output=w.output
 size:w.heap.size<=w'.heap.size
 keep:∀g,g<w.heap.size->¬W g->w'.heap[g]?=w.heap[g]?
 shape:∀(g:Nat)(cs:Array Value)(t:TypeId)(ax:Nat×Nat),w.heap[g]?=some (.cells cs t ax)->∃(cs':Array Value)(b:Nat×Nat),w'.heap[g]?=some (.cells cs' t b)/\cs'.size=cs.size
 maps:sG w w'
theorem cN.refl(W:Nat->Prop)(w:World):cN W w w:=⟨rfl,rfl,rfl,_s _,fun _ _ _=>rfl,fun g b t ax h=>⟨b,ax,h,rfl⟩,.of_eq fun _ _ _ _=>rfl⟩
theorem cN.trans{W:Nat->Prop}{a b c:World}(h:cN W a b)(k:cN W b c):cN W a c:=
 ⟨k.os.trans h.os,k.tape.trans h.tape,k.output.trans h.output,_V h.size k.size,fun g f an=>(k.keep g (_y f h.size) an).trans (h.keep g f an),fun g j t ax m=>by
  obtain⟨q,u,h1,v⟩:=h.shape g j t ax m;obtain⟨x,z,h2,C⟩:=k.shape g q t u h1;exact⟨x,z,h2,C.trans v⟩,h.maps.trans k.maps⟩
theorem cN.weaken{W c:Nat->Prop}{a b:World}(h:cN W a b)(an:∀g,g<a.heap.size->W g->c g):cN c a b:=
 ⟨h.os,h.tape,h.output,h.size,fun g f j=>h.keep g f (fun m=>j (an g f m)),h.shape,h.maps⟩
theorem lt_of_heap{w:World}{g:Nat}{o:Obj}(h:w.heap[g]?=some o):g<w.heap.size:=by
 rcases Nat.lt_or_ge g w.heap.size with b|c
 .exact b
 rw[_T c]at h;cases h
theorem cN.cell{W:Nat->Prop}{w b:World}(h:cN W w b){p:Addr}(c:p.block<w.heap.size)(an:¬W p.block):b.cell? p=w.cell? p:=
 World.cell?_of_block (h.keep _ c an)
theorem cN.sX{W:Nat->Prop}{w b:World}(f:b.os=w.os)(j:b.tape=w.tape)(m:b.output=w.output)(c:b.heap=w.heap):cN W w b:=
 ⟨f,j,m,by rw[c];exact hT,fun g _ _=>by rw[c],fun g q t ax h=>⟨q,ax,by rw[c];exact h,rfl⟩,.of_eq fun _ _ _ _=>by rw[c]⟩
structure dH (K:aO) (w:World) (b:aO) (w':World):Prop where
 ext:cN K.M w w'
 real:∀n,K.real n->b.real n/\b.aD n=K.aD n
 M:∀g,g<w.heap.size->b.M g->K.M g
theorem dH.refl(K:aO)(w:World):dH K w K w:=⟨cN.refl _ _,fun n h=>⟨h,rfl⟩,fun g _ h=>h⟩
theorem dH.trans{m q u:aO}{a b c:World}(h:dH m a q b)(k:dH q b u c):dH m a u c where
 ext:=by
  refine⟨k.ext.os.trans h.ext.os,k.ext.tape.trans h.ext.tape,k.ext.output.trans h.ext.output,_V h.ext.size k.ext.size,fun g f an=>?_,fun g v t ax x=>?_,h.ext.maps.trans k.ext.maps⟩
  .exact(k.ext.keep g (_y f h.ext.size) (fun h2=>an (h.M g f h2))).trans (h.ext.keep g f an)
  obtain⟨z,C,h1,G⟩:=h.ext.shape g v t ax x;obtain⟨I,J,h2,O⟩:=k.ext.shape g z t C h1;exact⟨I,J,h2,O.trans G⟩
 real:=fun n j=>⟨(k.real n (h.real n j).1).1,((k.real n (h.real n j).1).2).trans (h.real n j).2⟩
 M:=fun g f Q=>h.M g f (k.M g (_y f h.ext.size) Q)
theorem aJ.mono{K aa:aO}{w ab:World}(c:dH K w aa ab):∀ {d:O} {x:Value},aJ K w d x->aJ aa ab d x:=by
 intro d x h;induction h with
 |any x=>exact .any x
 |dY b=>exact .dY b
 |e7 t x=>exact .e7 t x
 |v x=>exact .v x
 |agg hl h C=>exact .agg hl C
 |aS hl h C=>exact .aS hl C
 |@ptr k n sz i j g G=>
  obtain⟨Q,t,ax,m⟩:=G;have bg:=c.real n g;obtain⟨u,z,h1,_⟩:=c.ext.shape _ _ _ _ m;rw[<-bg.2];exact .ptr bg.1 ⟨u,t,z,BC⟩
 |@mp k n g=>
  have:=c.real n g;exact HT
 |@eZ k n len T A cap I h=>
  refine .eZ I ?_;rcases h with h|⟨g,J,Q,ax,m,X⟩
  .exact .inl h
  have bg:=c.real n g;obtain⟨u,z,h1,h2⟩:=c.ext.shape _ _ _ _ m;exact .inr ⟨bg.1,by rw[bg.2];exact J,u,z,BC,by rw[h2];exact X⟩
 |@ch n sz T g G=>
  obtain⟨Q,ax,m,af⟩:=G;have bg:=c.real n g;obtain⟨u,z,h1,h2⟩:=c.ext.shape _ _ _ _ m;rw[<-bg.2];exact .ch bg.1 ⟨u,z,BC,h2.trans af⟩
 |@gA n i av g h=>
  obtain⟨aw,ay,e,h1,h2,U⟩:=h;have bg:=c.real n g;obtain⟨ag,ah,ai,ak⟩:=c.ext.maps _ _ _ h1;obtain⟨al,am,an⟩:=ak i e h2;exact .gA bg.1 ⟨ag,ah,al,by rw[bg.2];exact ai,am,an.trans U⟩
 |@bY x ad f aj aN oV G h C=>
  refine .bY f aj (_y aN c.ext.size) (fun h2=>oV (c.M _ aN h2)) (fun t d Y=>?_) C;rw[<-G t d Y];have bO:(ad.add t).block=ad.block:=Cf;exact c.ext.cell Ex GC
 |@aG k n sz az len aA A cap I ao h=>
  refine .aG I ao ?_;rcases h with h|⟨g,J,Q,t,ax,m,Z,X⟩
  .exact .inl h
  have bg:=c.real n g;obtain⟨u,z,h1,h2⟩:=c.ext.shape _ _ _ _ m;exact .inr ⟨bg.1,by rw[bg.2];exact J,u,t,z,BC,by rw[h2];exact Z,fun q=>by rw[h2];exact X q⟩
 |@eA k n sz len cap I g h=>
  obtain⟨Q,t,ax,m,Z⟩:=h;have bg:=c.real n g;obtain⟨u,z,h1,h2⟩:=c.ext.shape _ _ _ _ m;rw[<-bg.2];exact .eA I bg.1 ⟨u,t,z,BC,by rw[h2];exact Z⟩
 |@snap sz xs aB A len cap f hl I G aj ac ap h C=>
  refine .snap f hl I G aj (fun aq=>?_) (fun ad i x j d J aP Y=>?_) C
  .obtain⟨ad,e,ae,h1,h2⟩:=ac aq;exact⟨ad,e,ae,_y h1 c.ext.size,fun U=>h2 (c.M _ h1 U)⟩
  rw[<-ap ad i x j d J aP Y];obtain⟨aC,e,ae,h1,h2⟩:=ac Sd;rw[J]at e;obtain rfl:=_a e;have bO:(ad.add (i*sz+j)).block=ad.block:=Cf;exact c.ext.cell (by rw[bO];exact h1) (by rw[bO];exact h2)
 |fn h1 h2 U aD ar au=>exact .fn h1 h2 ar au
def iu(e:MapEntry):List O:=[.v e.key,.v e.val]
def wu(n:Nat)(ax:Nat×Nat):Prop:=ax.2<=ax.1\/n<=ax.1
theorem ak3(n:Nat):wu n (0,0):=.inl (_s _)
structure JO (sz n:Nat) (ax:Nat×Nat):Prop where
 amE:wu n ax
 pos:0<sz
 plain:sz≠1->ax.2<=ax.1
inductive ef where
 |one (k:IntKind)
 |cells (ks:List IntKind)
def jI:Bool->Bool->Bool
 |true,b=>b
 |false,_=>false
def jk:IntKind->IntKind->Bool
 |.i8,.i8|.i16,.i16|.i32,.i32|.i64,.i64|.u8,.u8|.u16,.u16|.u32,.u32|.u64,.u64=>true
 |_,_=>false
def jZ:List IntKind->List Value->Bool
 |[],[]=>true
 |k::ks,.int b _::r=>jI (jk k b) (jZ ks r)
 |_,_=>false
def cF:ef->Value->Bool
 |.one k,.int b _=>jk k b
 |.cells ks,.agg c=>jZ ks c.toList
 |_,_=>false
def sV:List Value->List Value->Bool
 |[],[]=>true
 |.int _ a::r,.int _ b::s=>decide (a=b)&&sV r s
 |_,_=>false
def hD:Value->Value->Bool
 |.int _ a,.int _ b=>decide (a=b)
 |.agg a,.agg b=>sV a.toList b.toList
 |_,_=>false
def j9:List (List O)->Value->Option Value
 |[.v a,.v b]::r,k=>if hD k a then some b else j9 r k
 |_,_=>none
def h6:List MapEntry->Value->Nat->Option (Nat×Value)
 |[],_,_=>none
 |e::r,k,i=>if hD k e.key then some (i,e.val)else h6 r k (i+1)
structure Cp (z s:Value) (r:List (List O)) (f:Array MapEntry) (m:Nat):Prop where
 uU:∀e∈f.toList,∀c,cF c s=true->cF c e.key=true
 rows:∀x∈r,∃a b,x=[.v a,.v b]/\∀c,cF c s=true->cF c a=true
 val:∀c key,cF c s=true->cF c key=true->(j9 r key).getD z=((h6 f.toList key 0).map (·.2)).getD z
 born:∀(i:Nat)(e:MapEntry),f[i]?=some e->e.born=i
 clock:m=f.size
 apart:∀(i j:Nat)(e g:MapEntry),f[i]?=some e->f[j]?=some g->e.key=g.key->i=j
def rb(K:aO)(w:World)(o:aR):Prop:=K.real o.n/\o.sz=0/\∃b clock,w.heap[K.aD o.n]?=some (.map b clock)/\(o.xs=b.toList.map iu\/∃c s r,o.xs=[.dY,.v c,.v s]::r/\Cp c s r b clock)
def mQ(K:aO)(w:World)(o:aR):Prop:=
 (¬K.real o.n/\o.xs=[])\/
 (K.real o.n/\∃b t ax,JO o.sz b.size ax/\w.heap[K.aD o.n]?=some (.cells b t ax)/\o.xs.length*o.sz<=b.size/\(∀x∈o.xs,x.length=o.sz)/\
   ∀(i:Nat)(x:List O)(j:Nat)(d:O),o.xs[i]?=some x->x[j]?=some d->∃c,b[i*o.sz+j]?=some c/\aJ K w d c)\/
 rb K w o
theorem rb.out{K:aO}{w:World}{o:aR}(h:rb K w o){p:Prop}{c:Array Value}{t:TypeId}{ax:Nat×Nat}(b:w.heap[K.aD o.n]?=some (.cells c t ax)):p:=by
 obtain⟨_,_,f,g,h1,_⟩:=h;rw[h1]at b;cases b
theorem mQ.two{K:aO}{w:World}{o:aR}(h:mQ K w o)(f:¬rb K w o):(¬K.real o.n/\o.xs=[])\/
 (K.real o.n/\∃b t ax,JO o.sz b.size ax/\w.heap[K.aD o.n]?=some (.cells b t ax)/\o.xs.length*o.sz<=b.size/\(∀x∈o.xs,x.length=o.sz)/\
   ∀(i:Nat)(x:List O)(j:Nat)(d:O),o.xs[i]?=some x->x[j]?=some d->∃c,b[i*o.sz+j]?=some c/\aJ K w d c):=by
 rcases h with h|h|h
 .exact .inl h
 .exact .inr h
 exact absurd h f
structure bw where
 w0:World
 W0:Nat->Prop
 K0:aO
 g0:Nat
 df:List Deferred:=[]
 pq:List PanicEntry->bb->Prop:=fun _ _=>False
def bw.ok(Γ:bw):Prop:=∀(g:Nat)(cs:List Value),(g,cs)∈rS->¬Γ.W0 g/\¬Γ.K0.M g/\g<Γ.w0.heap.size/\se Γ.w0 g cs
structure Ta (Γ:bw) (K:aO):Prop where
 bG:∀n,K.bG n->Γ.K0.bG n\/Γ.g0<=n
 cn:∀n,K.real n->n<Γ.g0->Γ.K0.real n
 keep:∀n,Γ.K0.real n->K.real n/\K.aD n=Γ.K0.aD n
 M:∀g,g<Γ.w0.heap.size->(K.M g↔Γ.K0.M g)
structure Inv (Γ:bw) (K:aO) (H:Nat->Option aR) (w:World):Prop where
 ext:cN Γ.W0 Γ.w0 w
 base:Ta Γ K
 obj:∀k o,H k=some o->mQ K w o
 inj:∀k c o b,H k=some o->H c=some b->K.real o.n->K.real b.n->K.aD o.n=K.aD b.n->k=c
 db:∀n,K.real n->K.bG n
 lt:∀n,K.real n->K.aD n<w.heap.size
 dz:∀k o,H k=some o->K.bG o.n
 own:∀k o,H k=some o->K.real o.n->K.M (K.aD o.n)/\(Γ.w0.heap.size<=K.aD o.n\/Γ.W0 (K.aD o.n))
 ga:Γ.ok
theorem Inv.mC{Γ:bw}{K:aO}{H:Nat->Option aR}{w:World}(h:Inv Γ K H w){g:Nat}{cs:List Value}(j:(g,cs)∈rS):¬K.M g/\g<w.heap.size/\se w g cs:=by
 obtain⟨h1,h2,b,f⟩:=h.ga g cs j;refine⟨fun q=>h2 ((h.base.M g b).1 q),_y b h.ext.size,fun i c m=>?_,?_⟩
 .rw[h.ext.cell b h1];exact f.1 i c m
 rw[h.ext.cell b h1];exact f.2
structure ft (Γ:bw) (N:Nat) (st:bb) (K:aO) (a:Act) (w:World):Prop where
 inv:Inv Γ K (aB st.H) w
 fresh:∀n,K.bG n->n<st.gen
 g0:Γ.g0<=st.gen
 size:a.tmps.size=N
 defers:a.defers=Γ.df
 tm:∀s:bK,aJ K w (st.tm.get s) (a.tmps.getD s.nat undef)
theorem mQ.mono{K f:aO}{w g:World}(b:dH K w f g){o:aR}(h:mQ K w o)(v:¬K.real o.n->¬f.real o.n)(u:K.real o.n->g.heap[K.aD o.n]?=w.heap[K.aD o.n]?):mQ f g o:=by
 rcases h with⟨h1,h2⟩|⟨h1,z,t,ax,C,h2,m,q,G⟩|⟨h1,h2,I,J,m,q⟩
 .exact .inl ⟨v h1,h2⟩
 rotate_left
 .exact .inr (.inr ⟨(b.real _ h1).1,h2,I,J,by rw[(b.real _ h1).2,u h1];exact m,q⟩)
 refine .inr (.inl ⟨(b.real _ h1).1,z,t,ax,C,by rw[(b.real _ h1).2,u h1];exact h2,m,q,fun i x j d M O=>?_⟩);obtain⟨c,Q,U⟩:=G i x j d M O;exact⟨c,Q,U.mono b⟩
inductive a7 where
 |t (s:bK)
 |c (v:Value)
 |f (f:FuncId)
 |g
inductive sW where
 |makeMap (k:Nat)
 |zG (j:ef) (z:Value) (m x:a7)
 |zv (j:ef) (m x v:a7)
 |C2 (j:ef) (x:a7)
 |B4 (k:Nat) (j:ef) (z s:Value)
 |Be (j:ef) (z:Value) (m x:a7)
 |zy (j:ef) (z:Value) (m x:a7)
 |AX (j:ef) (m st v:a7)
 |AA (k:Nat) (x:a7)
 |move (x:a7)
 |pick (c a b:a7)
 |box (k n:Nat) (x:a7)
 |alloc (k:Nat) (zs:List Value)
 |BV (k:Nat) (zs:List Value) (T:TypeId)
 |build (zs:List Value) (parts:List (Nat×Nat×a7))
 |buildSlice (k len:Nat) (zs:List Value) (parts:List (Nat×a7)) (full:Bool)
 |load (q:Bool) (n:Nat) (p:a7)
 |store (n:Nat) (p x:a7)
 |nilCheck (x:a7)
 |fieldAddr (off:Nat) (p:a7)
 |field (q:Bool) (off n:Nat) (x:a7)
 |bin (op:BinOp) (x y:a7)
 |un (op:UnOp) (x:a7)
 |Cb (k:IntKind) (x:a7)
 |extract (i:Nat) (x:a7)
 |len (x:a7)
 |AG (sz:Nat) (x i:a7)
 |Co (sz n:Nat) (p i:a7)
 |Ab (sz n g:Nat) (i:a7)
 |append (k sz bytes:Nat) (x y:a7)
 |Au (k bytes:Nat) (T:TypeId) (x y:a7)
 |eqs (neg:Bool) (ks:List Nat) (x y:a7)
 |B2 (neg:Bool) (x y:a7)
 |Ag (x y:a7)
 |y_ (x y:a7)
 |CM (f:FuncId) (first caps:List a7)
 |slice (sz:Nat) (x:a7) (lo hi mx:Option a7)
 |AP (neg:Bool) (x:a7)
 |zE (op:BinOp) (x y:a7)
 |A1 (x:a7)
 |Bu (x i:a7)
 |substr (x:a7) (lo hi:Option a7)
 |makeSlice (k bytes:Nat) (zs:List Value) (l c:a7)
 |clear (zs:List Value) (x:a7)
 |Bi (sz:Nat) (x:a7) (lo hi mx:Option a7)
 |C_ (sz bytes:Nat) (x y:a7)
 |BS (x:a7)
 |C8 (q:Bool) (sz n:Nat) (x i:a7)
 |Bj (neg:Bool) (x:a7)
 |Cg (neg:Bool) (x:a7)
 |Cr (sz n:Nat) (x:a7)
 |Ai (x:a7)
 |zx (n:Nat) (x:a7)
 |ext (k:Nat) (args:List a7)
 |dead
 |A8 (x:a7) (args:List a7)
 |call (f:FuncId) (args:List a7)
structure cP where
 (dst:Option bK) (op:sW) (g:Option (bK×Bool))
inductive bA where
 |ok (d:O) (nj:List Nat) (wr:List (Nat×Option aR)) (g:Nat)
 |ite (t:Bool) (x y:bA)
 |need (p:Prop) (x:bA)
 |alt (x y:bA)
 |call (f:FuncId) (args:List O)
 |bad
def aW(tm:bQ):a7->O
 |.t s=>tm.get s
 |.c v=>.v v
 |.f f=>.fn (.func f) [] []
 |.g=>.any
def iO:O->List O
 |.agg b=>b
 |d=>[d]
def xY:Value->Bool
 |.agg _|.tuple _=>false
 |_=>true
def pY:O->Bool
 |.v x=>xY x
 |.ptr .. | .bY .. | .aG .. | .eA .. | .snap .. | .fn .. | .mp .. | .ch .. | .eZ .. | .gA ..=>true
 |.dY=>true
 |.e7=>true
 |.any|.agg _|.aS _=>false
def l7:List O->Bool
 |[]=>true
 |d::r=>jI (pY d) (l7 r)
def oL:List O->Nat->Bool
 |[],0=>true
 |_::r,k+1=>oL r k
 |_,_=>false
def fs:List Value->List O
 |[]=>[]
 |x::r=>.v x::fs r
def jY:List O->Nat->O
 |[],_=>.any
 |x::_,0=>x
 |_::r,k+1=>jY r k
def fT:List O->Nat->List O
 |l,0=>l
 |[],_+1=>[]
 |_::r,k+1=>fT r k
def kJ:List O->Nat->List O
 |_,0=>[]
 |[],_+1=>[]
 |x::r,k+1=>x::kJ r k
def iX:List O->Nat->List O->List O
 |x,_,[]=>x
 |[],_,_=>[]
 |_::r,0,d::c=>d::iX r 0 c
 |x::r,j+1,c=>x::iX r j c
def cf:List (List O)->Nat->List O
 |[],_=>[]
 |x::_,0=>x
 |_::r,k+1=>cf r k
def hv:List (List O)->Nat->List O->List (List O)
 |[],_,_=>[]
 |_::r,0,y=>y::r
 |x::r,k+1,y=>x::hv r k y
def fX(t:Bool):bA:=.ok (.v (.bool t)) [] [] 0
def zJ(op:BinOp)(k:IntKind)(a b:Int):bA:=
 match op with
 |.add=>.ok (.v (.int k (k.wrap (a+b)))) [] [] 0
 |.sub=>.ok (.v (.int k (k.wrap (a-b)))) [] [] 0
 |.mul=>.ok (.v (.int k (k.wrap (a*b)))) [] [] 0
 |.quo=>.need (b≠0) (.ok (.v (.int k (k.wrap (a.tdiv b)))) [] [] 0)
 |.rem=>.need (b≠0) (.ok (.v (.int k (a.tmod b))) [] [] 0)
 |.and=>.ok (.v (.int k (bits .and k a b))) [] [] 0
 |.or=>.ok (.v (.int k (bits .or k a b))) [] [] 0
 |.xor=>.ok (.v (.int k (bits .xor k a b))) [] [] 0
 |.andNot=>.ok (.v (.int k (bits .andNot k a b))) [] [] 0
 |.shl=>.need (0<=b) (.ok (.v (.int k (k.wrap (a*2 ^ (min b.toNat k.bits))))) [] [] 0)
 |.shr=>.need (0<=b) (.ok (.v (.int k (a.fdiv (2 ^ (min b.toNat k.bits))))) [] [] 0)
 |.eql=>fX (decide (a=b))
 |.neq=>fX (!decide (a=b))
 |.lss=>fX (decide (a<b))
 |.leq=>fX (decide (a<=b))
 |.gtr=>fX (decide (b<a))
 |.geq=>fX (decide (b<=a))
def q2:BinOp->Bool
 |.shl|.shr=>true
 |_=>false
def uO:Bool->bA->bA
 |true,r=>r
 |false,_=>.bad
def zr:Bool->Bool->Bool
 |true,_=>true
 |false,b=>b
def wS(op:BinOp):O->O->bA
 |.v (.int k a),.v (.int c b)=>uO (zr (jk k c) (q2 op)) (zJ op k a b)
 |_,_=>.bad
def wj(op:UnOp):O->bA
 |.v (.bool b)=>match op with
  |.not=>fX (!b)
  |_=>.bad
 |.v (.int k n)=>match op with
  |.neg=>.ok (.v (.int k (k.wrap (0-n)))) [] [] 0
  |.xor=>.ok (.v (.int k (bits .xor k (bif k.signed then -1 else k.max) n))) [] [] 0
  |_=>.bad
 |_=>.bad
def yV:O->O->O->bA
 |.v (.bool t),a,b=>.ite t (.ok a [] [] 0) (.ok b [] [] 0)
 |_,_,_=>.bad
def wq(k n gen:Nat)(x:O):bA:=
 .need (jI (l7 (iO x)) (oL (iO x) n)=true/\0<n) (.ok (.ptr k gen n 0 0) [k] [(k,some ⟨gen,n,[iO x]⟩)] 1)
def kx(b:Bool)(n:Nat)(x:List O):O:=
 match b with
 |true=>.agg (kJ x n)
 |false=>jY x 0
def B9(b:Bool)(k n c sz i j:Nat):Option aR->bA
 |some o=>.need (o.n=c/\o.sz=sz) (.need (i<o.xs.length/\j+n<=o.sz) (.ok (kx b n (fT (cf o.xs i) j)) [k] [] 0))
 |none=>.bad
def vQ(b:Bool)(n:Nat)(H:aV):O->bA
 |.ptr k c sz i j=>B9 b k n c sz i j (aB H k)
 |.bY x=>.need (n<=x.length) (.ok (kx b n x) [] [] 0)
 |_=>.bad
def Cs(n k b sz i j:Nat)(c:List O):Option aR->bA
 |some o=>.need (o.n=b/\o.sz=sz) (.need (i<o.xs.length/\j+n<=o.sz/\jI (l7 c) (oL c n)=true)
   (.ok (.v undef) [k] [(k,some ⟨o.n,o.sz,hv o.xs i (iX (cf o.xs i) j c)⟩)] 0))
 |none=>.bad
def w2(n:Nat)(H:aV)(x:O):O->bA
 |.ptr k b sz i j=>Cs n k b sz i j (iO x) (aB H k)
 |_=>.bad
def vS:O->bA
 |.ptr k n sz i j=>.ok (.ptr k n sz i j) [] [] 0
 |.bY x=>.ok (.bY x) [] [] 0
 |_=>.bad
def wN(off:Nat):O->bA
 |.ptr k n sz i j=>.ok (.ptr k n sz i (j+off)) [] [] 0
 |.bY x=>.ok (.bY (fT x off)) [] [] 0
 |_=>.bad
def wZ(c:Bool)(off n:Nat):O->bA
 |.agg b=>.need (off+n<=b.length) (.ok (kx c n (fT b off)) [] [] 0)
 |_=>.bad
def xI(k:IntKind):O->bA
 |.v (.int _ n)=>.ok (.v (.int k (k.wrap n))) [] [] 0
 |_=>.bad
def yY(i:Nat):O->bA
 |.aS b=>.need (i<b.length) (.ok (jY b i) [] [] 0)
 |.v (.tuple c)=>.need (i<c.size) (.ok (.v (c.getD i undef)) [] [] 0)
 |_=>.bad
def wV:O->bA
 |.aG _ _ _ _ len _=>.ok (.v (.int .i64 (len:Nat))) [] [] 0
 |.eA _ _ _ len=>.ok (.v (.int .i64 (len:Nat))) [] [] 0
 |.eZ _ _ len _=>.ok (.v (.int .i64 (len:Nat))) [] [] 0
 |.snap _ xs _=>.ok (.v (.int .i64 (xs.length:Nat))) [] [] 0
 |.v (.slice _ n _)=>.ok (.v (.int .i64 (n:Nat))) [] [] 0
 |_=>.bad
def vT(sz:Nat):O->O->bA
 |.aG k n b c len _,.v (.int _ i)=>.need (b=sz) (.need (0<=i/\i<len) (.ok (.ptr k n sz (c+i.toNat) 0) [] [] 0))
 |.snap b xs _,.v (.int _ i)=>.need (b=sz) (.need (0<=i/\i<xs.length) (.ok (.bY (cf xs i.toNat)) [] [] 0))
 |_,_=>.bad
def xi(sz n:Nat):O->O->bA
 |.ptr k b s i j,.v (.int _ q)=>.need (0<=q/\q<n) (.ok (.ptr k b s i (j+q.toNat*sz)) [] [] 0)
 |.bY x,.v (.int _ q)=>.need (0<=q/\q<n) (.ok (.bY (fT x (q.toNat*sz))) [] [] 0)
 |_,_=>.bad
def uH:List (Nat×List Value)->Nat->Option (List Value)
 |[],_=>none
 |(h,b)::r,g=>bif Nat.beq h g then some b else uH r g
def w5(sz n:Nat):Option (List Value)->O->bA
 |some b,.v (.int _ q)=>.need (b.all t_=true) (.need (0<=q/\q<n) (.ok (.bY (fT (fs b) (q.toNat*sz))) [] [] 0))
 |_,_=>.bad
def jH(tm:bQ):List a7->List O
 |[]=>[]
 |x::r=>aW tm x::jH tm r
def uh(tm:bQ):List (Nat×Nat×a7)->List O->List O
 |[],c=>c
 |(off,_,x)::r,c=>uh tm r (iX c off (iO (aW tm x)))
def sr(tm:bQ)(b:Nat):List (Nat×Nat×a7)->Bool
 |[]=>true
 |(off,n,x)::r=>jI (jI (l7 (iO (aW tm x))) (oL (iO (aW tm x)) n)) (jI (decide (off+n<=b)) (sr tm b r))
def tF(tm:bQ):List (Nat×a7)->List (List O)->List (List O)
 |[],c=>c
 |(i,x)::r,c=>tF tm r (hv c i (iO (aW tm x)))
def tb(tm:bQ)(len n:Nat):List (Nat×a7)->Bool
 |[]=>true
 |(i,x)::r=>jI (jI (l7 (iO (aW tm x))) (oL (iO (aW tm x)) n)) (jI (decide (i<len)) (tb tm len n r))
def dX(x:List O):Nat->List (List O)
 |0=>[]
 |k+1=>x::dX x k
inductive sk where
 |ok (ys:List (List O)) (nj:List Nat) (p:Prop)
 |bad
def cC:List (List O)->Nat->List (List O)
 |l,0=>l
 |[],_+1=>[]
 |_::r,k+1=>cC r k
def cp:List (List O)->Nat->List (List O)
 |_,0=>[]
 |[],_+1=>[]
 |x::r,k+1=>x::cp r k
def xw(sz k n b c f:Nat):Option aR->sk
 |some o=>.ok (cp (cC o.xs c) f) [k] (o.n=n/\o.sz=b/\b=sz/\c+f<=o.xs.length)
 |none=>.bad
def kD(sz:Nat)(H:aV):O->sk
 |.snap b ys _=>.ok ys [] (b=sz)
 |.aG k n b c f _=>xw sz k n b c f (aB H k)
 |.v (.slice none 0 _)=>.ok [] [] True
 |_=>.bad
def kq(s:ByteArray):List (List O):=s.data.toList.map (fun b=>[.v (.int .u8 (b.toNat:Int))])
def lO(sz:Nat)(H:aV):O->sk
 |.v (.string s)=>.ok (kq s) [] (sz=1)
 |d=>kD sz H d
def eW:List (List O)->Bool
 |[]=>true
 |x::r=>jI (l7 x) (eW r)
def s8:List Nat->List Nat->List Nat
 |[],l=>l
 |x::r,l=>x::s8 r l
def cx(n bytes:Nat):Prop:=n<=maxLen/\n*bytes<=140737488355328
def Hd(k sz bytes gen b n c f len:Nat)(H:aV)(ys:List (List O))(g:List Nat):Option aR->bA
 |some o=>.need (o.n=n/\o.sz=c/\c=sz/\f=0/\len=o.xs.length) (.need (eW ys=true/\cx (o.xs.length+ys.length) bytes)
   (.ok (.aG k gen sz 0 (o.xs.length+ys.length) false) (b::k::g) [(b,none),(k,some ⟨gen,sz,o.xs++ys⟩)] 1))
 |none=>.bad
def uC(k sz bytes gen:Nat)(x:O)(ys:List (List O))(b:List Nat):sk->bA
 |.ok xs c p=>.need p (.alt
   (.need ((0<ys.length\/xs.length=0)/\eW xs=true/\eW ys=true/\cx (xs.length+ys.length) bytes) (.ok (.aG k gen sz 0 (xs.length+ys.length) false) (k::s8 c b) [(k,some ⟨gen,sz,xs++ys⟩)] 1))
   (.need (ys.length=0) (.ok x b [] 0)))
 |.bad=>.bad
def CK(k sz bytes gen:Nat)(H:aV)(x:O):sk->bA
 |.ok ys f p=>.need p (match x with
  |.aG c n b g len false=>Hd k sz bytes gen c n b g len H ys f (aB H c)
  |.aG c n b g len true=>uC k sz bytes gen (.aG c n b g len true) ys f (kD sz H (.aG c n b g len true))
  |.snap b xs true=>uC k sz bytes gen (.snap b xs true) ys f (kD sz H (.snap b xs true))
  |.v (.slice none 0 0)=>uC k sz bytes gen (.v (.slice none 0 0)) ys f (.ok [] [] True)
  |_=>.bad)
 |.bad=>.bad
def Dk(k bytes gen b n len:Nat)(T:TypeId)(ys:List (List O))(c:List Nat):Option aR->bA
 |some o=>.need (o.n=n/\o.sz=1/\len=o.xs.length) (.need (eW ys=true/\cx (o.xs.length+ys.length) bytes)
   (.ok (.eZ k gen (o.xs.length+ys.length) T) (b::k::c) [(b,none),(k,some ⟨gen,1,o.xs++ys⟩)] 1))
 |none=>.bad
def AF(k bytes:Nat)(T:TypeId)(gen:Nat)(H:aV)(x:O):sk->bA
 |.ok ys c p=>.need p (match x with
  |.eZ b n len f=>.need (f=T) (Dk k bytes gen b n len T ys c (aB H b))
  |_=>.bad)
 |.bad=>.bad
def qZ:Nat->O->O->Option Bool
 |0,.v (.int k a),.v (.int c b)=>match jk k c with
  |true=>some (decide (a=b))
  |false=>none
 |1,.v (.bool a),.v (.bool b)=>some (a==b)
 |2,.v (.string a),.v (.string b)=>some (decide (a=b))
 |3,.v (.pointer none),.v (.pointer none)=>some true
 |3,.bY _,.v (.pointer none)=>some false
 |3,.ptr _ _ _ _ _,.v (.pointer none)=>some false
 |_,_,_=>none
def uT:Option Bool->Option (List Bool)->Option (List Bool)
 |some b,some l=>some (b::l)
 |_,_=>none
def qc:List Nat->List O->List O->Option (List Bool)
 |[],[],[]=>some []
 |q::ks,a::r,b::s=>uT (qZ q a b) (qc ks r s)
 |_,_,_=>none
def oE:List Bool->Bool
 |[]=>true
 |[b]=>b
 |b::r=>b&&oE r
def ih:Bool->Bool->Bool
 |true,b=>!b
 |false,b=>b
def CI(neg:Bool):Option (List Bool)->bA
 |some aQ=>fX (ih neg (oE aQ))
 |none=>.bad
def xE(neg:Bool)(ks:List Nat):O->O->bA
 |.agg x,.agg y=>CI neg (qc ks x y)
 |_,_=>.bad
def xL(neg:Bool):O->O->bA
 |.v (.bool a),.v (.bool b)=>fX (ih neg (a==b))
 |_,_=>.bad
def vr(c:Bool):O->O->bA
 |.v (.int k a),.v (.int f b)=>uO (jk k f) (.ok (.v (.int k (bif c then max a b else min a b))) [] [] 0)
 |_,_=>.bad
def gY(tm:bQ):Option a7->Option O
 |none=>none
 |some x=>some (aW tm x)
def iW:Option O->Int->Option Int
 |none,d=>some d
 |some (.v (.int _ a)),_=>some a
 |some _,_=>none
def He:Option O->Bool->Bool
 |none,b=>b
 |some _,_=>false
def tz:Option O->Bool
 |none=>false
 |some _=>true
def E7(sz c:Nat)(a b:Int)(n:Nat):Prop:=c=sz/\0<=a/\a<=b/\b<=n
def BD(sz f:Nat)(xs:List (List O))(j:Bool)(g:Option O):Option Int->Option Int->Option O->bA
 |some a,some b,none=>.need (E7 sz f a b xs.length) (.ok (.snap sz (cp (cC xs a.toNat) (b-a).toNat) (He g j)) [] [] 0)
 |some a,some b,some (.v (.int _ c))=>.need (E7 sz f a b xs.length/\c=b/\tz g=true) (.ok (.snap sz (cp (cC xs a.toNat) (b-a).toNat) true) [] [] 0)
 |_,_,_=>.bad
def A2(k n sz f g len:Nat)(j:Bool)(m:Option O):Option Int->Option Int->Option O->bA
 |some a,some b,none=>.need (E7 sz f a b len/\(j=true->b=len)) (.ok (.aG k n sz (g+a.toNat) (b-a).toNat j) [] [] 0)
 |some a,some b,some (.v (.int _ c))=>.need (E7 sz f a b len/\c=b/\tz m=true) (.ok (.aG k n sz (g+a.toNat) (b-a).toNat true) [] [] 0)
 |_,_,_=>.bad
def BP(f:Option O):Option Int->Option Int->Option O->bA
 |some a,some b,none=>.need (a=0/\b=0) (.ok (.v (.slice none 0 0)) [] [] 0)
 |some a,some b,some (.v (.int _ c))=>.need (a=0/\b=0/\c=0/\tz f=true) (.ok (.v (.slice none 0 0)) [] [] 0)
 |_,_,_=>.bad
def ym(sz:Nat)(c b f:Option O):O->bA
 |.snap g xs j=>BD sz g xs j b (iW c 0) (iW b xs.length) f
 |.aG k n g o len m=>A2 k n sz g o len m b (iW c 0) (iW b len) f
 |.v (.slice none 0 0)=>BP b (iW c 0) (iW b 0) f
 |_=>.bad
def AM(neg:Bool):Nat->bA
 |0=>.ok .dY [] [] 0
 |_+1=>fX neg
def AD(neg:Bool):List (List O)->bA
 |[]=>.ok .dY [] [] 0
 |_::_=>fX neg
def xW(neg:Bool):O->bA
 |.v (.slice none _ _)=>fX (!neg)
 |.snap _ xs _=>AD neg xs
 |.aG _ _ _ _ len _=>AM neg len
 |_=>.bad
def Bh(op:BinOp)(a b:ByteArray):bA:=
 match op with
 |.add=>.need (a.size+b.size<=9223372036854775807) (.ok (.v (.string (a++b))) [] [] 0)
 |.eql=>fX (decide (a=b))
 |.neq=>fX (!decide (a=b))
 |.lss=>fX (_Z a.toList b.toList)
 |.geq=>fX (!_Z a.toList b.toList)
 |_=>.bad
def wF(op:BinOp):O->O->bA
 |.v (.string a),.v (.string b)=>Bh op a b
 |_,_=>.bad
def yl:O->bA
 |.v (.string a)=>.ok (.v (.int .i64 a.size)) [] [] 0
 |_=>.bad
def vK:List O->List O->List O
 |[],l=>l
 |x::r,l=>x::vK r l
def xd(b:List O):O->bA
 |.fn (.func g) [] c=>.call g (vK b c)
 |_=>.bad
def og(s:ByteArray)(i:Nat):Int:=((s[i]?).getD 0).toNat
def x3:O->O->bA
 |.v (.string s),.v (.int _ i)=>.need (0<=i/\i<(s.size:Nat)) (.ok (.v (.int .u8 (og s i.toNat))) [] [] 0)
 |_,_=>.bad
def Ao(s:ByteArray):Option Int->Option Int->bA
 |some a,some b=>.need (0<=a/\a<=b/\b<=(s.size:Nat)) (.ok (.v (.string (s.extract a.toNat b.toNat))) [] [] 0)
 |_,_=>.bad
def x0(b c:Option O):O->bA
 |.v (.string s)=>Ao s (iW b 0) (iW c (s.size:Nat))
 |_=>.bad
def xo(k bytes gen:Nat)(zs:List Value):O->O->bA
 |.v (.int _ l),.v (.int _ c)=>.need (0<=l/\l<=c/\cx c.toNat bytes) (.ok (.aG k gen zs.length 0 l.toNat false) [k] [(k,some ⟨gen,zs.length,dX (fs zs) l.toNat⟩)] 1)
 |_,_=>.bad
def Bx(k n sz b len:Nat)(zs:List Value):Option aR->bA
 |some o=>.need (o.n=n/\o.sz=sz/\sz=zs.length/\b+len<=o.xs.length/\l7 (fs zs)=true)
   (.ok (.v (.tuple #[])) [k] [(k,some ⟨n,sz,cp o.xs b++(dX (fs zs) len++cC o.xs (b+len))⟩)] 0)
 |none=>.bad
def vM(zs:List Value)(H:aV):O->bA
 |.aG k n sz b len _=>Bx k n sz b len zs (aB H k)
 |.v (.slice none _ _)=>.ok (.v (.tuple #[])) [] [] 0
 |_=>.bad
def BU(k n sz c f len:Nat):Option Int->Option Int->bA
 |some a,some b=>.need (c=sz/\f=0/\a=0/\0<=b/\b<=len/\0<len) (.ok (.eA k n sz b.toNat) [] [] 0)
 |_,_=>.bad
def CS(k n sz c:Nat)(a b:Option Int):Option aR->bA
 |some o=>match a,b with
  |some a,some b=>.need (o.n=n/\o.sz=c/\c=sz/\0<sz/\0<=a/\a<=b/\b<=o.xs.length) (.ok (.aG k n sz a.toNat (b-a).toNat false) [k] [] 0)
  |_,_=>.bad
 |none=>.bad
def AV(len:Nat):Option Int->Option Int->O->bA
 |some a,some b,.v (.int _ c)=>.need (0<=a/\a<=b/\b<=c/\c<=len) (.ok .any [] [] 0)
 |_,_,_=>.bad
def we(sz:Nat)(H:aV)(c b g:Option O):O->bA
 |.aG k n f j len false=>match g with
  |none=>BU k n sz f j len (iW c 0) (iW b len)
  |some m=>match tz b with
   |true=>AV len (iW c 0) (iW b len) m
   |false=>.bad
 |.eA k n f len=>match g with
  |none=>CS k n sz f (iW c 0) (iW b len) (aB H k)
  |some _=>.bad
 |_=>.bad
def Cc(k n sz b len:Nat)(ys:List (List O))(c:List Nat):Option aR->bA
 |some o=>.need (o.n=n/\o.sz=b/\b=sz/\len+ys.length<=o.xs.length/\eW ys=true)
   (.ok (.eA k n sz (len+ys.length)) (k::c) [(k,some ⟨n,sz,cp o.xs len++(ys++cC o.xs (len+ys.length))⟩)] 0)
 |none=>.bad
def zq(sz:Nat)(H:aV)(x:O):sk->bA
 |.ok ys b p=>.need p (match x with
  |.eA k n c len=>Cc k n sz c len ys b (aB H k)
  |_=>.bad)
 |.bad=>.bad
def zV:List O->Bool
 |[.v (.int .u8 _)]=>true
 |_=>false
def ow:List (List O)->Bool
 |[]=>true
 |x::r=>jI (zV x) (ow r)
def byteOf:List O->UInt8
 |[.v (.int _ n)]=>_5 n.toNat
 |_=>0
def strOf(xs:List (List O)):ByteArray:=⟨(xs.map byteOf).toArray⟩
def BX:sk->bA
 |.ok ys b p=>.need (p/\ow ys=true) (.ok (.v (.string (strOf ys))) b [] 0)
 |.bad=>.bad
def wH(c:Bool)(sz n:Nat):O->O->bA
 |.agg b,.v (.int _ i)=>.need (0<=i/\i<(n:Nat)) (.need (i.toNat*sz+sz<=b.length) (.ok (kx c sz (fT b (i.toNat*sz))) [] [] 0))
 |_,_=>.bad
def oY(sz:Nat):Nat->List O->List (List O)
 |0,_=>[]
 |n+1,l=>kJ l sz::oY sz n (fT l sz)
def wG(sz n:Nat):O->bA
 |.bY x=>.need (0<sz/\0<n/\n*sz<=x.length) (.ok (.snap sz (oY sz n x) true) [] [] 0)
 |_=>.bad
def xB:O->bA
 |.v (.string s)=>.ok (.snap 1 (kq s) false) [] [] 0
 |_=>.bad
def qM:List (List O)->List O
 |[]=>[]
 |x::r=>jY x 0::qM r
def x7(n:Nat):O->bA
 |.snap sz xs _=>.need (sz=1/\0<n/\n<=xs.length) (.ok (.bY (qM (cp xs n))) [] [] 0)
 |_=>.bad
def xe(k:Nat):List O->bA
 |[.v (.string s),.v (.int .u8 c)]=>match k with
  |0=>.ok (.v (.int .i64 (Lib.indexByte s.data.toList c.toNat.toUInt8))) [] [] 0
  |1=>.ok (.v (.int .i64 ((Lib.countByte s.data.toList c.toNat.toUInt8:Nat):Int))) [] [] 0
  |_=>.bad
 |_=>.bad
def xX(neg:Bool):O->bA
 |.v (.pointer none)=>fX (!neg)
 |.ptr _ _ _ _ _=>fX neg
 |.bY _=>fX neg
 |_=>.bad
def yI(neg:Bool):O->bA
 |.v .nilIface=>fX (!neg)
 |.e7=>fX neg
 |_=>.bad
def pP(b:ef):List (List O)->Bool
 |[]=>true
 |[.v a,.v _]::r=>jI (cF b a) (pP b r)
 |_=>false
def ja:List (List O)->Value->Value->List (List O)
 |[.v a,.v b]::r,k,v=>if hD k a then[.v a,.v v]::r else[.v a,.v b]::ja r k v
 |[],k,v=>[[.v k,.v v]]
 |_,_,_=>[]
def sb:List O->Option (List Value)
 |[]=>some []
 |.v x::r=>(match sb r with
  |some l=>some (x::l)
  |none=>none)
 |_=>none
def rk:O->Option Value
 |.v x=>some x
 |.agg b=>(match sb b with
  |some l=>some (.agg l.toArray)
  |none=>none)
 |_=>none
def Ar(b:ef)(f:Value)(k n:Nat)(c:Value):Option aR->bA
 |some o=>.need (o.n=n/\o.sz=0) (.need (pP b o.xs=true/\cF b c=true) (.ok (.v ((j9 o.xs c).getD f)) [k] [] 0))
 |none=>.bad
def C6(b:ef)(v:Value)(k n:Nat)(c:Value):Option aR->bA
 |some o=>.need (o.n=n/\o.sz=0) (.need (pP b o.xs=true/\cF b c=true) (.ok (.v undef) [k] [(k,some ⟨o.n,0,ja o.xs c v⟩)] 0))
 |none=>.bad
def B_(b:ef)(k n:Nat):Option aR->bA
 |some o=>.need (o.n=n/\o.sz=0/\pP b o.xs=true) (.ok (.v (.int .i64 (o.xs.length:Nat))) [k] [] 0)
 |none=>.bad
def B0(b:ef)(c:Value)(H:aV)(k n:Nat):Option Value->bA
 |some f=>Ar b c k n f (aB H k)
 |none=>.bad
def AR(b:ef)(H:aV)(k n:Nat):Option Value->O->bA
 |some c,.v v=>C6 b v k n c (aB H k)
 |_,_=>.bad
def yD(b:ef)(c:Value)(H:aV):O->O->bA
 |.mp k n,x=>B0 b c H k n (rk x)
 |_,_=>.bad
def wy(b:ef)(H:aV):O->O->O->bA
 |.mp k n,x,v=>AR b H k n (rk x) v
 |_,_,_=>.bad
def x5(b:ef)(H:aV):O->bA
 |.mp k n=>B_ b k n (aB H k)
 |_=>.bad
def AZ(b:ef)(c:Value)(k:Nat)(f:Value):List (List O)->bA
 |[.dY,.v g,.v s]::r=>.need (g=c/\cF b s=true/\cF b f=true) (.ok (.v ((j9 r f).getD c)) [k] [] 0)
 |_=>.bad
def AN(b:ef)(f:Value)(k n:Nat)(c:Value):List (List O)->bA
 |[.dY,.v g,.v s]::r=>.need (g=f/\cF b s=true/\cF b c=true) (.ok (.aS [.any,.gA n c]) [k] [] 0)
 |_=>.bad
def BL(b:ef)(c:Value)(k n:Nat)(f:Value):Option aR->bA
 |some o=>.need (o.n=n/\o.sz=0) (AZ b c k f o.xs)
 |none=>.bad
def Ae(b:ef)(c:Value)(k n:Nat)(f:Value):Option aR->bA
 |some o=>.need (o.n=n/\o.sz=0) (AN b c k n f o.xs)
 |none=>.bad
def AO(b:ef)(c:Value)(H:aV)(k n:Nat):Option Value->bA
 |some f=>BL b c k n f (aB H k)
 |none=>.bad
def z8(b:ef)(c:Value)(H:aV)(k n:Nat):Option Value->bA
 |some f=>Ae b c k n f (aB H k)
 |none=>.bad
def w_(b:ef)(c:Value)(H:aV):O->O->bA
 |.mp k n,x=>AO b c H k n (rk x)
 |_,_=>.bad
def yK(b:ef)(c:Value)(H:aV):O->O->bA
 |.mp k n,x=>z8 b c H k n (rk x)
 |_,_=>.bad
def By(b:ef)(k n:Nat)(c v:Value):List (List O)->bA
 |[.dY,.v f,.v s]::r=>.need (cF b s=true/\cF b c=true) (.ok (.v undef) [k] [(k,some ⟨n,0,[.dY,.v f,.v s]::ja r c v⟩)] 0)
 |_=>.bad
def Aq(b:ef)(k n:Nat)(c v:Value):Option aR->bA
 |some o=>.need (o.n=n/\o.sz=0) (By b k n c v o.xs)
 |none=>.bad
def xu(b:ef)(H:aV):O->O->O->bA
 |.mp k n,.gA c f,.v v=>.need (c=n) (Aq b k n f v (aB H k))
 |_,_,_=>.bad
def wQ(k gen:Nat):O->bA
 |.v (.string s)=>.ok (.aG k gen 1 0 s.size false) [k] [(k,some ⟨gen,1,kq s⟩)] 1
 |_=>.bad
def kI(st:bb):sW->bA
 |.makeMap k=>.ok (.mp k st.gen) [k] [(k,some ⟨st.gen,0,[]⟩)] 1
 |.zG j q m x=>yD j q st.H (aW st.tm m) (aW st.tm x)
 |.zv j m x v=>wy j st.H (aW st.tm m) (aW st.tm x) (aW st.tm v)
 |.C2 j x=>x5 j st.H (aW st.tm x)
 |.B4 k _ q s=>.ok (.mp k st.gen) [k] [(k,some ⟨st.gen,0,[[.dY,.v q,.v s]]⟩)] 1
 |.Be j q m x=>w_ j q st.H (aW st.tm m) (aW st.tm x)
 |.zy j q m x=>yK j q st.H (aW st.tm m) (aW st.tm x)
 |.AX j m x v=>xu j st.H (aW st.tm m) (aW st.tm x) (aW st.tm v)
 |.AA k x=>wQ k st.gen (aW st.tm x)
 |.move x=>.ok (aW st.tm x) [] [] 0
 |.pick c a b=>yV (aW st.tm c) (aW st.tm a) (aW st.tm b)
 |.box k n x=>wq k n st.gen (aW st.tm x)
 |.alloc k zs=>.ok (.ptr k st.gen zs.length 0 0) [k] [(k,some ⟨st.gen,zs.length,[fs zs]⟩)] 1
 |.BV k zs T=>.ok (.ch st.gen zs.length T) [k] [(k,some ⟨st.gen,zs.length,[fs zs]⟩)] 1
 |.build zs parts=>.need (sr st.tm zs.length parts=true) (.ok (.agg (uh st.tm parts (fs zs))) [] [] 0)
 |.buildSlice k len zs parts I=>.need (tb st.tm len zs.length parts=true)
   (.ok (.aG k st.gen zs.length 0 len I) [k] [(k,some ⟨st.gen,zs.length,tF st.tm parts (dX (fs zs) len)⟩)] 1)
 |.load u n p=>vQ u n st.H (aW st.tm p)
 |.store n p x=>w2 n st.H (aW st.tm x) (aW st.tm p)
 |.nilCheck x=>vS (aW st.tm x)
 |.fieldAddr off p=>wN off (aW st.tm p)
 |.field u off n x=>wZ u off n (aW st.tm x)
 |.bin op x y=>wS op (aW st.tm x) (aW st.tm y)
 |.un op x=>wj op (aW st.tm x)
 |.Cb k x=>xI k (aW st.tm x)
 |.extract i x=>yY i (aW st.tm x)
 |.len x=>wV (aW st.tm x)
 |.AG sz x i=>vT sz (aW st.tm x) (aW st.tm i)
 |.Co sz n p i=>xi sz n (aW st.tm p) (aW st.tm i)
 |.Ab sz n g i=>w5 sz n (uH rS g) (aW st.tm i)
 |.Au k bytes T x y=>AF k bytes T st.gen st.H (aW st.tm x) (lO 1 st.H (aW st.tm y))
 |.append k sz bytes x y=>CK k sz bytes st.gen st.H (aW st.tm x) (lO sz st.H (aW st.tm y))
 |.eqs neg ks x y=>xE neg ks (aW st.tm x) (aW st.tm y)
 |.B2 neg x y=>xL neg (aW st.tm x) (aW st.tm y)
 |.Ag x y=>vr false (aW st.tm x) (aW st.tm y)
 |.y_ x y=>vr true (aW st.tm x) (aW st.tm y)
 |.CM f first J=>.ok (.fn (.func f) (jH st.tm first) (jH st.tm J)) [] [] 0
 |.slice sz x z C G=>ym sz (gY st.tm z) (gY st.tm C) (gY st.tm G) (aW st.tm x)
 |.AP neg x=>xW neg (aW st.tm x)
 |.zE op x y=>wF op (aW st.tm x) (aW st.tm y)
 |.A1 x=>yl (aW st.tm x)
 |.Bu x i=>x3 (aW st.tm x) (aW st.tm i)
 |.substr x z C=>x0 (gY st.tm z) (gY st.tm C) (aW st.tm x)
 |.makeSlice k bytes zs l c=>xo k bytes st.gen zs (aW st.tm l) (aW st.tm c)
 |.clear zs x=>vM zs st.H (aW st.tm x)
 |.Bi sz x z C G=>we sz st.H (gY st.tm z) (gY st.tm C) (gY st.tm G) (aW st.tm x)
 |.C_ sz bytes x y=>zq sz st.H (aW st.tm x) (kD sz st.H (aW st.tm y))
 |.BS x=>BX (kD 1 st.H (aW st.tm x))
 |.C8 u sz n x i=>wH u sz n (aW st.tm x) (aW st.tm i)
 |.Bj neg x=>xX neg (aW st.tm x)
 |.Cg neg x=>yI neg (aW st.tm x)
 |.Cr sz n x=>wG sz n (aW st.tm x)
 |.Ai x=>xB (aW st.tm x)
 |.zx n x=>x7 n (aW st.tm x)
 |.ext k args=>xe k (jH st.tm args)
 |.dead=>.bad
 |.A8 x args=>xd (jH st.tm args) (aW st.tm x)
 |.call f args=>.call f (jH st.tm args)
def bA.all(b:O->List Nat->List (Nat×Option aR)->Nat->Prop)(c:FuncId->List O->Prop):bA->Prop
 |.ok d t w g=>b d t w g
 |.ite t x y=>(t=true->x.all b c)/\(t=false->y.all b c)
 |.need p x=>p->x.all b c
 |.alt x y=>x.all b c/\y.all b c
 |.call f args=>c f args
 |.bad=>True
def CY:Value->Value->Bool
 |.bool a,.bool b=>a==b
 |.int k n,.int f g=>jk k f&&decide (n=g)
 |.string a,.string b=>a.data.toList==b.data.toList
 |.pointer none,.pointer none=>true
 |.slice none a b,.slice none c d=>decide (a=c)&&decide (b=d)
 |.map none,.map none=>true
 |.nilFunc,.nilFunc=>true
 |.nilIface,.nilIface=>true
 |_,_=>false
theorem nO{a b:IntKind}(h:jk a b=true):a=b:=by cases a<;>cases b<;>first|rfl|simp[jk]at h
theorem Dm:∀ {a b:Value},CY a b=true->a=b:=by
 intro a b h;unfold CY at h;split at h
 .simp at h;rw[h]
 .simp at h;rw[nO h.1,h.2]
 .rename_i a b;have h2:a.data.toList=b.data.toList:=hc;have:a.data=b.data:=_U h2;cases a;cases b;simp at this;rw[this]
 .rfl
 .simp at h;rw[h.1,h.2]
 .rfl
 .rfl
 .rfl
 cases h
def yZ:List Value->List Value->Bool
 |[],[]=>true
 |a::r,b::s=>CY a b&&yZ r s
 |_,_=>false
theorem U5:∀ {a b:List Value},yZ a b=true->a=b
 |[],[],_=>rfl
 |a::r,b::s,h=>by
  simp only[yZ,_x]at h;rw[Dm h.1,U5 h.2]
 |[],_::_,h=>by simp[yZ]at h
 |_::_,[],h=>by simp[yZ]at h
def ba:Operand->a7->Bool
 |.tmp t,.t s=>decide (t=s.nat)
 |.const v,.c b=>CY v b
 |.func f,.f g=>decide (f=g)
 |.global _,.g=>true
 |_,_=>false
theorem ajh{K:aO}{w:World}{tm:bQ}{a:Act}(h:∀s:bK,aJ K w (tm.get s) (a.tmps.getD s.nat undef)){o:Operand}{x:a7}(bX:ba o x=true):aJ K w (aW tm x) (a.eval o):=by
 unfold ba at bX;split at bX
 .have e:=of_decide_eq_true bX;subst e;exact h _
 .rw[Dm bX];exact .v _
 .exact T0
 .exact .any _
 cases bX
def u5:TypeDesc->Bool
 |.struct _|.array _ _=>true
 |_=>false
def fQ(P:Program)(t:TypeId)(n:Nat):Bool:=match P.info? t with|some i=>decide (i.size=n)|none=>false
def jD(P:Program)(t:TypeId)(b:Bool):Bool:=match P.underlying t with|some d=>u5 d==b|none=>false
def mL(P:Program)(t:TypeId)(zs:List Value):Bool:=match P.info? t with|some i=>(match i.zero with|some b=>yZ b.cells.toList zs|none=>false)&&decide (i.size=zs.length)|none=>false
def l2:List Operand->List a7->Bool
 |[],[]=>true
 |a::r,x::s=>ba a x&&l2 r s
 |_,_=>false
def u_(b:List (Nat×Nat)):List (Nat×Operand)->List (Nat×Nat×a7)->Bool
 |[],[]=>true
 |(i,a)::r,(off,n,x)::s=>(match b[i]? with|some (o,c)=>decide (o=off)&&decide (c=n)|none=>false)&&ba a x&&u_ b r s
 |_,_=>false
def uw:List (Nat×Operand)->List (Nat×a7)->Bool
 |[],[]=>true
 |(i,a)::r,(j,x)::s=>decide (i=j)&&ba a x&&uw r s
 |_,_=>false
def Ns(P:Program)(t:TypeId):Option (List (Nat×Nat)):=
 match P.underlying t with
 |some (.struct b)=>some (b.toList.map fun f=>(f.offset,P.cellsOf f.type))
 |some (.array n e)=>some ((List.range n).map fun i=>(i*P.cellsOf e,P.cellsOf e))
 |_=>none
def lV (P:Program):Nat->TypeId->Option (List Nat)
 |0,_=>none
 |d+1,t=>match P.underlying t with
  |some (.int _)=>some [0]
  |some .bool=>some [1]
  |some .string=>some [2]
  |some (.pointer _)=>some [3]
  |some (.struct b)=>if P.stoodInHeld t then none else C0 P (lV P d) b.toList 0
  |some (.array n e)=>match P.info? e with
   |some _=>(match lV P d e with
    |some l=>if l.length=P.cellsOf e then some (_p n l).flatten else none
    |none=>none)
   |none=>none
  |_=>none
where C0 (P:Program) (f:TypeId->Option (List Nat)):List Field->Nat->Option (List Nat)
 |[],_=>some []
 |q::r,o=>if q.offset=o/\¬q.name = "_" then(match f q.type,C0 P f r (o+P.cellsOf q.type)with
  |some l,some c=>if l.length=P.cellsOf q.type then some (l++c)else none
  |_,_=>none)else none
def l4(neg:Bool):BinOp->Bool
 |.eql=>!neg
 |.neq=>neg
 |_=>false
def iC:Option Operand->Option a7->Bool
 |none,none=>true
 |some a,some x=>ba a x
 |_,_=>false
def KP:Operand->Bool
 |.const (.slice none 0 0)=>true
 |_=>false
def HW:Operand->Bool
 |.const (.pointer none)=>true
 |_=>false
def L3:Operand->Bool
 |.const .nilIface=>true
 |_=>false
def k6 (P:Program) (f:FuncId):Bool:=match P.funcs[f]? with|some fn=>fn.body.isSome && !(fn.name == "runtime.NumGoroutine")|none=>false
def adB:Nat->String
 |0 => "internal/bytealg.IndexByteString"
 |_ => "internal/bytealg.CountString"
def Jq (P:Program) (k:Nat) (f:FuncId):Bool:=match P.funcs[f]? with|some fn=>fn.body.isNone&&(fn.name==adB k)&&(fn.origin == "")&&decide (k<2)|none=>false
def Ho(P:Program)(t:TypeId)(k:IntKind):Bool:=match P.underlying t with|some (.int b)=>jk k b|_=>false
def xl (P:Program):List IntKind->List Field->Nat->Bool
 |[],[],_=>true
 |k::ks,f::r,o=>decide (f.offset=o) && !(f.name == "_")&&Ho P f.type k&&xl P ks r (o+1)
 |_,_,_=>false
def DB(k:IntKind):List IntKind->Bool
 |[]=>true
 |b::r=>jk k b&&DB k r
def lX(P:Program)(t:TypeId):ef->Bool
 |.one k=>Ho P t k
 |.cells ks=>decide (lV P 20 t=some (_p ks.length 0))&&jD P t true&&(match P.underlying t with
  |some (.array n e)=>decide (n=ks.length)&&fQ P e 1&&(match P.underlying e with|some (.int k)=>DB k ks|_=>false)
  |some (.struct b)=>xl P ks b.toList 0
  |_=>false)
def sn(P:Program)(t:TypeId)(b:Value):Bool:=match P.info? t with|some i=>(match i.zero with|some y=>CY y b|none=>false)|none=>false
def c6(P:Program)(op:Op)(x:sW):Bool:=
 match x with
 |.makeMap k=>match op with|.makeMap t r=>r.isNone|_=>false
 |.zG G C b i=>match op with|.lookup t a q ok=>ba a b&&ba q i && !ok&&(match P.underlying t with|some (.map J e)=>lX P J G&&sn P e C|_=>false)|_=>false
 |.zv G b i v=>match op with|.mapUpdate t a q U=>ba a b&&ba q i&&ba U v&&(match P.underlying t with|some (.map J e)=>lX P J G|_=>false)|_=>false
 |.C2 _ b=>match op with|.call c=>(match c.callee with|.builtin .len=>true|_=>false)&&(match c.args.toList,c.argTypes.toList with|[a],[t]=>ba a b&&(match P.underlying t with|some (.map _ _)=>true|_=>false)|_,_=>false)|_=>false
 |.B4 k G C s=>match op with|.makeMap t r=>r.isNone|_=>false
 |.Be G C b i=>match op with|.lookup t a q ok=>ba a b&&ba q i && !ok&&(match P.underlying t with|some (.map J e)=>lX P J G&&sn P e C|_=>false)|_=>false
 |.zy G C b i=>match op with|.mapEntry t a q=>ba a b&&ba q i&&(match P.underlying t with|some (.map J e)=>lX P J G&&sn P e C|_=>false)|_=>false
 |.AX G b i v=>match op with|.entryStore t a q U=>ba a b&&ba q i&&ba U v|_=>false
 |.AA k b=>match op with|.convert s d a=>ba a b&&(match P.underlying s with|some .string=>true|_=>false)&&(match P.underlying d with|some (.slice el)=>(match P.underlying el with|some (.int .u8)=>true|_=>false)|_=>false)|_=>false
 |.move b=>match op with|.move a|.assign a=>ba a b|_=>false
 |.pick c a b=>match op with|.pick Y Z aa=>ba Y c&&ba Z a&&ba aa b|_=>false
 |.box k n b=>match op with|.box t a=>ba a b&&fQ P t n|_=>false
 |.alloc k zs=>match op with|.alloc t=>mL P t zs&&decide (0<zs.length)|_=>false
 |.BV k zs T=>match op with|.alloc t=>decide (t=T)&&(mL P t zs&&decide (0<zs.length))|_=>false
 |.build zs parts=>match op with|.build t ps=>mL P t zs&&(match Ns P t with|some M=>u_ M ps.toList parts|none=>false)&&(match P.underlying t with|some (.struct M)=>M.toList.all (fun f=>(P.info? f.type).isSome)|some (.array _ e)=>(P.info? e).isSome|_=>false)|_=>false
 |.buildSlice k len zs parts ag=>match op with|.buildSlice t n ps=>decide (n=len)&&(match P.underlying t with|some (.slice e)=>mL P e zs&&decide (0<zs.length)&&decide (len*zs.length<=2 ^ 24)|_=>false)&&uw ps.toList parts|_=>false
 |.load I n p=>match op with|.load t a=>ba a p&&fQ P t n&&jD P t I&&(I||decide (n=1))|_=>false
 |.store n p b=>match op with|.store t q a=>ba q p&&ba a b&&fQ P t n|_=>false
 |.nilCheck b=>match op with|.nilCheck a=>ba a b|_=>false
 |.fieldAddr off p=>match op with|.fieldAddr t a i=>ba a p&&(match P.underlying t with|some (.struct M)=>(match M[i]? with|some f=>decide (f.offset=off)&&fQ P f.type (P.cellsOf f.type)&&decide (0<P.cellsOf f.type)|none=>false)|_=>false)|_=>false
 |.field I off n b=>match op with|.field t a i=>ba a b&&(match P.underlying t with|some (.struct M)=>(match M[i]? with|some f=>decide (f.offset=off)&&fQ P f.type n&&jD P f.type I&&(I||decide (n=1))|none=>false)|_=>false)|_=>false
 |.bin o b c=>match op with|.binOp m t a d z=>decide (o=m)&&ba a b&&ba d c|_=>false
 |.un o b=>match op with|.unOp m t a=>decide (o=m)&&ba a b|_=>false
 |.Cb k b=>match op with|.convert s d a=>ba a b&&(match P.underlying s with|some _=>true|none=>false)&&(match P.underlying d with|some (.int ab)=>jk k ab|_=>false)|_=>false
 |.extract i b=>match op with|.extract a j=>ba a b&&decide (i=j)|_=>false
 |.len b=>match op with|.call c=>(match c.callee with|.builtin .len=>true|_=>false)&&(match c.args.toList,c.argTypes.toList with|[a],[t]=>ba a b&&(match P.underlying t with|some (.slice _)=>true|_=>false)|_,_=>false)|_=>false
 |.AG sz b i=>match op with|.indexAddr t a q=>ba a b&&ba q i&&(match P.underlying t with|some (.slice e)=>fQ P e sz|_=>false)|_=>false
 |.Co sz n b i=>match op with|.indexAddr t a q=>ba a b&&ba q i&&(match P.underlying t with|some (.array u e)=>fQ P e sz&&decide (u=n)&&decide (1<u)|_=>false)|_=>false
 |.Ab sz n g i=>match op with|.indexAddr t a q=>(match a with|.global h=>decide (h=g)|_=>false)&&ba q i&&(match P.underlying t with|some (.array u e)=>fQ P e sz&&decide (u=n)&&decide (1<u)|_=>false)|_=>false
 |.append k sz bytes b d=>match op with|.call c=>(match c.callee with|.builtin .append=>true|_=>false)&&(match c.args.toList,c.argTypes.toList with|[a,e],[t,z]=>ba a b&&ba e d&&(match P.underlying t with|some (.slice el)=>fQ P el sz&&decide (0<sz)&&(match P.info? el with|some i=>decide (i.bytes=bytes)&&(match i.zero with|some C=>decide (C.cells.size=sz)|none=>false)|none=>false)|_=>false)&&(match P.underlying z with|some (.slice _)=>true|some .string=>true|_=>false)|_,_=>false)|_=>false
 |.Au k bytes T b d=>match op with|.call c=>(match c.callee with|.builtin .append=>true|_=>false)&&(match c.args.toList,c.argTypes.toList with|[a,e],[t,z]=>ba a b&&ba e d&&(match P.underlying t with|some (.slice el)=>fQ P el 1&&decide (el=T)&&(match P.info? el with|some i=>decide (i.bytes=bytes)&&(match i.zero with|some C=>decide (C.cells.size=1)|none=>false)|none=>false)|_=>false)&&(match P.underlying z with|some (.slice _)=>true|some .string=>true|_=>false)|_,_=>false)|_=>false
 |.eqs neg ks b d=>match op with|.binOp m t a e z=>l4 neg m&&ba a b&&ba e d&&decide (lV P 20 t=some ks)&&jD P t true && !(P.eqGuardType P.depth t)|_=>false
 |.B2 neg b d=>match op with|.binOp m t a e z=>l4 neg m&&ba a b&&ba e d&&(match P.underlying t with|some .bool=>true|_=>false)|_=>false
 |.Ag b d=>match op with|.call c=>(match c.callee with|.builtin .min=>true|_=>false)&&(match c.args.toList,c.argTypes.toList with|[a,e],[t,z]=>ba a b&&ba e d|_,_=>false)|_=>false
 |.y_ b d=>match op with|.call c=>(match c.callee with|.builtin .max=>true|_=>false)&&(match c.args.toList,c.argTypes.toList with|[a,e],[t,z]=>ba a b&&ba e d|_,_=>false)|_=>false
 |.CM f first ac=>match op with|.makeFunc (.func g) ae af=>decide (f=g)&&l2 ae.toList first&&l2 af.toList ac|_=>false
 |.slice sz b O Q X=>match op with|.slice t a l h u=>ba a b&&iC l O&&iC h Q&&iC u X&&(match P.underlying t with|some (.slice e)=>fQ P e sz|_=>false)|_=>false
 |.AP neg b=>match op with|.binOp m t a e z=>l4 neg m&&ba a b&&KP e&&(match P.underlying t with|some (.slice _)=>true|_=>false)|_=>false
 |.zE o b c=>match op with|.binOp m t a d z=>decide (o=m)&&ba a b&&ba d c&&(match P.underlying t with|some .string=>true|_=>false)|_=>false
 |.A1 b=>match op with|.call c=>(match c.callee with|.builtin .len=>true|_=>false)&&(match c.args.toList,c.argTypes.toList with|[a],[t]=>ba a b&&(match P.underlying t with|some .string=>true|_=>false)|_,_=>false)|_=>false
 |.Bu b i=>match op with|.index t a q=>ba a b&&ba q i&&(match P.underlying t with|some .string=>true|_=>false)|_=>false
 |.substr b O Q=>match op with|.slice t a l h u=>ba a b&&iC l O&&iC h Q&&u.isNone&&(match P.underlying t with|some .string=>true|_=>false)|_=>false
 |.makeSlice k bytes zs b d=>match op with|.makeSlice t l c=>ba l b&&ba c d&&(match P.underlying t with|some (.slice el)=>mL P el zs&&decide (0<zs.length)&&(match P.info? el with|some i=>decide (i.bytes=bytes)|none=>false)|_=>false)|_=>false
 |.clear zs b=>match op with|.call c=>(match c.callee with|.builtin .clear=>true|_=>false)&&(match c.args.toList,c.argTypes.toList with|[a],[t]=>ba a b&&(match P.underlying t with|some (.slice el)=>mL P el zs&&decide (0<zs.length)|_=>false)|_,_=>false)|_=>false
 |.Bi sz b O Q X=>match op with|.slice t a l h u=>ba a b&&iC l O&&iC h Q&&iC u X&&(match P.underlying t with|some (.slice e)=>fQ P e sz|_=>false)|_=>false
 |.C_ sz bytes b d=>match op with|.call c=>(match c.callee with|.builtin .append=>true|_=>false)&&(match c.args.toList,c.argTypes.toList with|[a,e],[t,z]=>ba a b&&ba e d&&(match P.underlying t with|some (.slice el)=>fQ P el sz&&decide (0<sz)&&(match P.info? el with|some i=>decide (i.bytes=bytes)&&(match i.zero with|some C=>decide (C.cells.size=sz)|none=>false)|none=>false)|_=>false)&&(match P.underlying z with|some (.slice _)=>true|_=>false)|_,_=>false)|_=>false
 |.BS b=>match op with|.convert s d a=>ba a b&&(match P.underlying s with|some (.slice el)=>(match P.underlying el with|some (.int .u8)=>true|_=>false)|_=>false)&&(match P.underlying d with|some .string=>true|_=>false)|_=>false
 |.C8 I sz n b i=>match op with|.index t a q=>ba a b&&ba q i&&(match P.underlying t with|some (.array u e)=>fQ P e sz&&jD P e I&&(I||decide (sz=1))&&decide (u=n)|_=>false)|_=>false
 |.Bj neg b=>match op with|.binOp m t a e z=>l4 neg m&&ba a b&&HW e&&(match P.underlying t with|some (.pointer _)=>true|_=>false)|_=>false
 |.Cg neg b=>match op with|.binOp m t a e z=>l4 neg m&&ba a b&&L3 e&&(match P.underlying t with|some (.interface _)=>true|_=>false)|_=>false
 |.Cr sz n b=>match op with|.slice t a l h u=>ba a b&&l.isNone&&h.isNone&&u.isNone&&(match P.underlying t with|some (.array q e)=>fQ P e sz&&decide (q=n)|_=>false)|_=>false
 |.Ai b=>match op with|.convert s d a=>ba a b&&(match P.underlying s with|some .string=>true|_=>false)&&(match P.underlying d with|some (.slice el)=>(match P.underlying el with|some (.int .u8)=>true|_=>false)|_=>false)|_=>false
 |.zx n b=>match op with|.sliceToArrayPointer t a=>ba a b&&(match P.underlying t with|some (.array q e)=>decide (q=n)|_=>false)|_=>false
 |.ext k args=>match op with|.call c=>(match c.callee with|.value (.func g)=>Jq P k g|_=>false)&&l2 c.args.toList args|_=>false
 |.dead=>true
 |.A8 x args=>match op with|.call c=>(match c.callee with|.value y=>ba y x|_=>false)&&l2 c.args.toList args|_=>false
 |.call f args=>match op with|.call c=>(match c.callee with|.value (.func g)=>decide (f=g)|_=>false)&&l2 c.args.toList args&&k6 P f|_=>false
def a7.reads:a7->List bK
 |.t s=>[s]
 |_=>[]
def kb:Option a7->List bK
 |none=>[]
 |some x=>x.reads
def sW.reads:sW->List bK
 |.makeMap _=>[]
 |.zG _ _ f x=>f.reads++x.reads
 |.zv _ f x v=>f.reads++(x.reads++v.reads)
 |.C2 _ x|.AA _ x=>x.reads
 |.B4 ..=>[]
 |.Be _ _ f x|.zy _ _ f x=>f.reads++x.reads
 |.AX _ f x v=>f.reads++(x.reads++v.reads)
 |.AP _ x|.A1 x=>x.reads
 |.CM _ g aQ=>g.flatMap a7.reads++aQ.flatMap a7.reads
 |.slice _ x a b c=>x.reads++(kb a++(kb b++kb c))
 |.zE _ x y|.Bu x y|.makeSlice _ _ _ x y|.C_ _ _ x y=>x.reads++y.reads
 |.substr x a b=>x.reads++(kb a++kb b)
 |.clear _ x|.BS x|.Bj _ x|.Cg _ x|.Cr _ _ x|.Ai x|.zx _ x=>x.reads
 |.ext _ g=>g.flatMap a7.reads
 |.Ab _ _ _ i=>i.reads
 |.dead=>[]
 |.C8 _ _ _ x i=>x.reads++i.reads
 |.Bi _ x a b c=>x.reads++(kb a++(kb b++kb c))
 |.A8 x g=>x.reads++g.flatMap a7.reads
 |.move x|.box _ _ x|.load _ _ x|.nilCheck x|.fieldAddr _ x|.field _ _ _ x|.un _ x|.Cb _ x|.extract _ x|.len x=>x.reads
 |.pick c a b=>c.reads++a.reads++b.reads
 |.alloc .. | .BV ..=>[]
 |.build _ ps=>ps.flatMap (·.2.2.reads)
 |.buildSlice _ _ _ ps _=>ps.flatMap (·.2.reads)
 |.append _ _ _ p x|.Au _ _ _ p x|.eqs _ _ p x|.B2 _ p x|.Ag p x|.y_ p x=>p.reads++x.reads
 |.store _ p x|.bin _ p x|.AG _ p x|.Co _ _ p x=>p.reads++x.reads
 |.call _ g=>g.flatMap a7.reads
def gT(H:Nat->Option aR):List (Nat×Option aR)->Nat->Option aR
 |[]=>H
 |(k,o)::r=>gT (fun j=>if j=k then o else H j) r
def bh(P:Program)(o:Oper)(rs:List bK)(tm:bQ)(H:aV)(gen:Nat)(d:O)(nj:List Nat)(wr:List (Nat×Option aR))(g:Nat):Prop:=
 ∀(Γ:bw)(K:aO)(f:Nat->Option aR)(a:Act)(w:World)(j:Exit->Act->World->Prop)(next:Act->World->Prop),
  Inv Γ K f w->(∀k∈nj,f k=aB H k)->(∀s∈rs,aJ K w (tm.get s) (a.tmps.getD s.nat undef))->(∀n,gen<=n->n<gen+g->¬K.bG n)->Γ.g0<=gen->
  (∀(b:aO)(c:World)(v:Value),dH K w b c->Inv Γ b (gT f wr) c->aJ b c d v->(∀n,b.bG n->K.bG n\/(gen<=n/\n<gen+g))->next (a.put o.dst v) c)->
  o.wp P a w next j
theorem jQ{P:Program}{o:Oper}{a:Act}{w w':World}{v:Value}{next:Act->World->Prop}{b:Exit->Act->World->Prop}(h:(execOp a.eval o).run P w=.ok (.value v) w')(c:next (a.put o.dst v) w'):o.wp P a w next b:=by unfold Oper.wp;rw[h];exact c
theorem KF{P:Program}{o:Oper}{a:Act}{w b:World}{next:Act->World->Prop}{c:Exit->Act->World->Prop}(h:(execOp a.eval o).run P w=.ok .skip b)(f:next (a.put o.dst undef) b):o.wp P a w next c:=by unfold Oper.wp;rw[h];exact f
section
variable {P:Program} {o:Oper} {rs:List bK} {tm:bQ} {H:aV} {gen:Nat} {d:O}
theorem bh.read{nj:List Nat}
 (h:∀(Γ:bw)(K:aO)(b:Nat->Option aR)(a:Act)(w:World),Inv Γ K b w->(∀k∈nj,b k=aB H k)->(∀s∈rs,aJ K w (tm.get s) (a.tmps.getD s.nat undef))->∃v,(execOp a.eval o).run P w=.ok (.value v) w/\aJ K w d v) :
 bh P o rs tm H gen d nj [] 0:=by
 intro Γ K b a w m next c f g q u j;obtain⟨v,h1,h2⟩:=h Γ K b a w c f g;exact jQ h1 (j K w v (dH.refl K w) c h2 (fun n h=>.inl h))
theorem bh.pure(h:∀(K:aO)(a:Act)(w:World),(∀s∈rs,aJ K w (tm.get s) (a.tmps.getD s.nat undef))->∃v,(execOp a.eval o).run P w=.ok (.value v) w/\aJ K w d v):
 bh P o rs tm H gen d [] [] 0:=bh.read fun Γ K c a w _ _ b=>h K a w b
end
theorem bL{K:aO}{w:World}{tm:bQ}{a:Act}{o:Operand}{x:a7}(h:∀s∈x.reads,aJ K w (tm.get s) (a.tmps.getD s.nat undef))(bX:ba o x=true):aJ K w (aW tm x) (a.eval o):=by
 unfold ba at bX;split at bX
 .have e:=of_decide_eq_true bX;subst e;exact h _ (by simp[a7.reads])
 .rw[Dm bX];exact .v _
 .exact T0
 .exact .any _
 cases bX
theorem c8{a b:List bK}{p:bK->Prop}(h:∀s∈a++b,p s):∀s∈a,p s:=fun s aj=>h s (_H.2 (.inl aj))
theorem cq{a b:List bK}{p:bK->Prop}(h:∀s∈a++b,p s):∀s∈b,p s:=fun s aj=>h s (_H.2 (.inr aj))
theorem cQ{K:aO}{w:World}{x y:Value}(h:aJ K w (.v x) y):y=x:=by cases h;rfl
theorem KO{K:aO}{w:World}{d:O}{x:Value}(h:aJ K w d x)(c:pY d=true):x.oneCell'=true:=by
 cases h with
 |any x=>simp[pY]at c
 |dY b=>rfl
 |e7 t x=>rfl
 |v x=>cases x<;>first|rfl|simp[pY,xY]at c
 |agg hl h=>simp[pY]at c
 |aS hl h=>simp[pY]at c
 |ptr q=>rfl
 |bY f h1 h2 g j m=>rfl
 |aG h1 h2 g=>rfl
 |eA h1 h2 g=>rfl
 |snap f h1 h2 g j m u z=>rfl
 |fn h1 h2 g j=>rfl
 |mp h1=>rfl
 |ch h1 h2=>rfl
 |eZ h1 h2=>rfl
 |gA h1 h2=>rfl
theorem my{a b:Bool}:jI a b=true↔a=true/\b=true:=by cases a<;>simp[jI]
theorem IQ:∀ {l:List O},l7 l=true->∀d∈l,pY d=true
 |[],_,d,h=>fE
 |x::r,b,d,h=>by
  simp only[l7,my]at b;rcases List.mem_cons.1 h with rfl|h
  .exact b.1
  exact IQ b.2 d h
theorem Ck:∀ {l:List O} {n:Nat},oL l n=true->l.length=n
 |[],0,_=>rfl
 |_::r,k+1,h=>by simp only[oL]at h;simp[Ck h]
 |[],k+1,h=>by simp[oL]at h
 |_::_,0,h=>by simp[oL]at h
theorem mU:∀(l:List Value),(fs l).length=l.length
 |[]=>rfl
 |_::r=>by simp[fs,mU r]
theorem uW:∀(l:List Value)(i:Nat),(fs l)[i]?=(l[i]?).map O.v
 |[],i=>by simp[fs]
 |x::r,0=>by simp[fs]
 |x::r,i+1=>by simp[fs,uW r i]
theorem G1{K:aO}{w:World}{d:O}{x:Value}(h:aJ K w d x)(C:l7 (iO d)=true):
 x.cells.size=(iO d).length/\(∀(i:Nat)(e:O)(c:Value),(iO d)[i]?=some e->x.cells[i]?=some c->aJ K w e c)/\∀c∈x.cells.toList,c.oneCell'=true:=by
 have j:=IQ C;have base:(∀eC,d≠.agg eC)->x.cells.size=(iO d).length/\(∀(i:Nat)(e:O)(c:Value),(iO d)[i]?=some e->x.cells[i]?=some c->aJ K w e c)/\∀c∈x.cells.toList,c.oneCell'=true:=by
  intro G;have e:iO d=[d]:=by cases d<;>first|rfl|exact absurd rfl (G _)
  rw[e]at j⊢;have h1:=KO h (j d aF);have I:x.cells = #[x]:=by cases x<;>first|rfl|simp[Value.oneCell']at h1
  rw[I];refine⟨rfl,fun i e c m b=>?_,fun c b=>by simp at b;rw[b];exact h1⟩;cases i with
  |zero=>simp at m b;rw[<-m,<-b];exact h
  |succ i=>simp at m
 cases h with
 |@agg J eC hl q=>
  refine⟨hl,q,fun c b=>?_⟩;obtain⟨i,M,e⟩:=List.mem_iff_getElem.1 b;have u:i<eC.size:=by simpa[_K]using M
  have h1:(Value.agg eC).cells[i]?=some c:=by simp only[_K];rw[_b u,<-e];simp[_K]
  have h2:i<J.length:=by rw[<-hl];exact u
  exact KO (q i _ c (_d h2) h1) (j _ (List.getElem_mem h2))
 |any x=>exact l0
 |dY x=>exact l0
 |e7 t x=>exact l0
 |v x=>exact l0
 |aS hl h=>exact l0
 |ptr U=>exact l0
 |bY f h1 h2 g z Q=>exact l0
 |aG h1 h2 g=>exact l0
 |eA h1 h2 g=>exact l0
 |snap f h1 h2 g z Q X Y=>exact l0
 |fn h1 h2 g z=>exact l0
 |mp h1=>exact l0
 |ch h1 h2=>exact l0
 |eZ h1 h2=>exact l0
 |gA h1 h2=>exact l0
theorem lT{P:Program}{t:TypeId}{n:Nat}(h:fQ P t n=true):∃i,P.info? t=some i/\i.size=n:=by
 unfold fQ at h;split at h
 .rename_i i b;exact⟨i,b,of_decide_eq_true h⟩
 cases h
theorem mD{P:Program}{t:TypeId}{i:TypeInfo}(h:P.info? t=some i)(w:World):(sizeOf t).run P w=.ok i.size w:=by simp[sizeOf,typeInfo,h]
theorem Fl{P:Program}{t:TypeId}{b:Bool}(h:jD P t b=true)(w:World):(isAgg t).run P w=.ok b w:=by
 unfold jD at h;split at h
 .rename_i d c;have e:u5 d=b:=hc;subst e;simp only[isAgg,_g,run_underlying c,_c];cases d<;>rfl
 cases h
theorem mr(H:Nat->Option aR)(k:Nat)(o:Option aR):gT H [(k,o)]=fun j=>if j=k then o else H j:=rfl
theorem Sl{W:Nat->Prop}(w:World)(b:Obj):cN W w (w.alloc b):=
 ⟨rfl,rfl,rfl,aF,fun g c _=>_E w b g c,fun g f t ax h=>⟨f,ax,(_E w b g (lt_of_heap h)).trans h,rfl⟩,.of_eq fun g j m h=>_E w b g (lt_of_heap h)⟩
theorem DU(w:World)(b:Obj):(w.alloc b).heap[w.heap.size]?=some b:=by
 show(w.heap.push b)[w.heap.size]?=_;rw[Array.getElem?_push,if_pos rfl]
def aO.add(K:aO)(n b:Nat):aO:=⟨fun c=>K.bG c\/c=n,fun c=>K.real c\/c=n,fun c=>if c=n then b else K.aD c,fun g=>K.M g\/g=b⟩
theorem qG{K:aO}{w:World}{n:Nat}(b:Obj)(f:¬K.real n):dH K w (K.add n w.heap.size) (w.alloc b):=
 ⟨Sl w b,fun j c=>⟨.inl c,by
  simp only[aO.add];rw[if_neg];rintro rfl;exact f c⟩,fun g m h=>by
  rcases h with h|h
  .exact h
  omega⟩
theorem Iv{Γ:bw}{K:aO}{H:Nat->Option aR}{w b:World}(c:Inv Γ K H w)(h:cN (fun _=>False) w b):cN Γ.W0 Γ.w0 b:=
 c.ext.trans (h.weaken fun g _ f=>f.elim)
theorem Je{Γ:bw}{K:aO}{H:Nat->Option aR}{w:World}(aI:Inv Γ K H w){n sz k:Nat}{xs:List (List O)}{z:Obj}(Q:¬K.bG n)(ah:Γ.g0<=n)
 (aa:mQ (K.add n w.heap.size) (w.alloc z) ⟨n,sz,xs⟩) :
 Inv Γ (K.add n w.heap.size) (fun j=>if j=k then some ⟨n,sz,xs⟩else H j) (w.alloc z):=by
 have U:¬K.real n:=fun h=>Q (aI.db n h)
 have ab:=qG (K:=K) (w:=w) (n:=n) z U;have J:∀k o,H k=some o->K.real o.n->K.aD o.n<w.heap.size:=by
  intro k o b v;exact aI.lt _ v
 have X:∀k o,H k=some o->o.n≠n:=fun k o b e=>Q (e▸aI.dz k o b)
 have x:∀k o,H k=some o->(K.add n w.heap.size).aD o.n=K.aD o.n:=fun k o b=>if_neg (X k o b)
 have m:∀k o,H k=some o->(K.add n w.heap.size).real o.n->K.real o.n:=fun k o b h=>h.elim id (fun e=>absurd e (X k o b))
 have ac:Ta Γ (K.add n w.heap.size):=by
  refine⟨fun aq h=>?_,fun aq h aN=>?_,fun aq h=>?_,fun g ae=>?_⟩
  .exact LS
  .exact S6
  .obtain⟨h1,h2⟩:=aI.base.keep aq h;refine⟨.inl h1,?_⟩;rw[<-h2];show(if aq=n then w.heap.size else K.aD aq)=K.aD aq;rw[if_neg];rintro rfl;exact U h1
  rw[<-aI.base.M g ae];refine⟨fun h=>h.elim id (fun e=>?_),.inl⟩;have:=aI.ext.size;omega
 refine⟨Iv aI (Sl w _),ac,fun c q b=>?_,fun Y Z af ag h1 h2 aw aY u=>?_,fun aq h=>?_,fun aq h=>?_,fun c q b=>?_,fun c q b v=>?_,aI.ga⟩
 .by_cases f:c=k
  .rw[if_pos f]at b;obtain rfl:=_a b;exact aa
  rw[if_neg f]at b;exact(aI.obj c q b).mono ab (fun h h2=>h (m _ _ b h2)) (fun v=>_E w _ _ (J c q b v))
 .by_cases C:Y=k<;>by_cases I:Z=k
  .rw[C,I]
  .rw[if_pos C]at h1;rw[if_neg I]at h2;obtain rfl:=_a h1;rw[x _ _ h2]at u;have aN:=J _ _ h2 (m _ _ h2 aY);simp only[aO.add,if_true]at u;omega
  .rw[if_neg C]at h1;rw[if_pos I]at h2;obtain rfl:=_a h2;rw[x _ _ h1]at u;have aN:=J _ _ h1 (m _ _ h1 aw);simp only[aO.add,if_true]at u;omega
  rw[if_neg C]at h1;rw[if_neg I]at h2;rw[x _ _ h1,x _ _ h2]at u;exact aI.inj Y Z af ag h1 h2 (m _ _ h1 aw) (m _ _ h2 aY) u
 .exact h.elim (fun h=>.inl (aI.db aq h)) .inr
 .have aj:(w.alloc z).heap.size=w.heap.size+1:=by simp
  rw[aj];show(if aq=n then w.heap.size else K.aD aq)<_;by_cases e:aq=n
  .rw[if_pos e];omega
  rw[if_neg e];have:=aI.lt aq (h.resolve_right e);omega
 .by_cases f:c=k
  .rw[if_pos f]at b;obtain rfl:=_a b;exact .inr rfl
  rw[if_neg f]at b;exact .inl (aI.dz c q b)
 by_cases f:c=k
 .rw[if_pos f]at b;obtain rfl:=_a b;refine⟨.inr (if_pos rfl),.inl ?_⟩;simp only[aO.add,if_true];exact aI.ext.size
 rw[if_neg f]at b;rw[x _ _ b];obtain⟨h1,h2⟩:=aI.own c q b (m _ _ b v);exact⟨.inl h1,h2⟩
theorem WQ{Γ:bw}{K:aO}{H:Nat->Option aR}{w:World}(f:Inv Γ K H w){n sz k:Nat}{xs:List (List O)}{b:Array Value}{t:TypeId}{ax:Nat×Nat}(m:wu b.size ax)(g:¬K.bG n)(q:Γ.g0<=n)(u:0<sz)(v:sz≠1->ax.2<=ax.1)
 (z:xs.length*sz<=b.size) (C:∀x∈xs,x.length=sz)
 (G:∀(i:Nat)(x:List O)(j:Nat)(d:O),xs[i]?=some x->x[j]?=some d->∃c,b[i*sz+j]?=some c/\aJ K w d c) :
 Inv Γ (K.add n w.heap.size) (fun j=>if j=k then some ⟨n,sz,xs⟩else H j) (w.alloc (.cells b t ax)):=by
 have I:=qG (K:=K) (w:=w) (n:=n) (.cells b t ax) (fun h=>g (f.db n h));refine Je f g q (.inr (.inl ⟨.inr rfl,b,t,ax,⟨m,u,v⟩,?_,z,C,fun i x j d J M=>?_⟩))
 .exact wm
 obtain⟨c,Q,U⟩:=G i x j d J M;exact⟨c,Q,U.mono I⟩
theorem CG{Γ:bw}{K:aO}{H:Nat->Option aR}{w:World}(f:Inv Γ K H w){n sz k:Nat}{xs:List (List O)}{b:Array Value}{t:TypeId}(g:¬K.bG n)(m:Γ.g0<=n)(q:0<sz)
 (u:xs.length*sz<=b.size) (v:∀x∈xs,x.length=sz)
 (z:∀(i:Nat)(x:List O)(j:Nat)(d:O),xs[i]?=some x->x[j]?=some d->∃c,b[i*sz+j]?=some c/\aJ K w d c) :
 Inv Γ (K.add n w.heap.size) (fun j=>if j=k then some ⟨n,sz,xs⟩else H j) (w.alloc (.cells b t)):=
 WQ f (ak3 _) g m q (fun _=>_s _) u v z
theorem aav{W:Nat->Prop}{w:World}{g:Nat}{m f:Array Value}{t:TypeId}{ax:Nat×Nat}(h:w.heap[g]?=some (.cells m t ax))(aj:f.size=m.size)(an:W g):cN W w (w.setRow g f):=by
 have q:(w.setRow g f).heap.size=w.heap.size:=by simp[World.setRow]
 have j:∀k,k≠g->(w.setRow g f).heap[k]?=w.heap[k]?:=by
  intro k bq;exact UG
 refine⟨rfl,rfl,rfl,by rw[q];exact hT,fun k bq u=>j k (fun e=>u (e▸an)),fun k c v x b=>?_,.of_eq fun k z C b=>j k (fun e=>by rw[e,h]at b;cases b)⟩;by_cases bq:k=g
 .subst bq;rw[h]at b;obtain⟨rfl,rfl,rfl⟩:=b;exact⟨f,_,setRow_heap w k _ _ _ _ h,aj⟩
 exact⟨c,_,by rw[j k bq];exact b,rfl⟩
theorem setRow_other{w:World}{g k:Nat}{b:Array Value}(bq:k≠g):(w.setRow g b).heap[k]?=w.heap[k]?:=by exact UG
theorem Ei{Γ:bw}{K:aO}{H:Nat->Option aR}{w x:World}(b:Inv Γ K H w){k:Nat}{o:aR}(z:H k=some o)(X:K.real o.n)(v:dH K w K x)(Y:∀g,g≠K.aD o.n->x.heap[g]?=w.heap[g]?)
 {xs:List (List O)} (ac:mQ K x ⟨o.n,o.sz,xs⟩) :
 Inv Γ K (fun j=>if j=k then some ⟨o.n,o.sz,xs⟩else H j) x:=by
 have Z:=b.own k o z X;have ae:∀m q,m≠k->H m=some q->K.real q.n->K.aD q.n≠K.aD o.n:=fun m q u f G e=>u (b.inj m k q o f z G X e)
 refine⟨⟨v.ext.os.trans b.ext.os,v.ext.tape.trans b.ext.tape,v.ext.output.trans b.ext.output,_V b.ext.size v.ext.size,fun g af an=>?_,fun g c aa ax ag=>?_,b.ext.maps.trans v.ext.maps⟩,b.base,fun m q f=>?_,fun ah ai av I h1 h2 aw aY J=>?_,b.db,fun aj h=>_y (b.lt aj h) v.ext.size,fun m q f=>?_,fun m q f h2=>?_,b.ga⟩
 .rw[Y g (fun e=>?_),b.ext.keep g af an];subst e;rcases Z.2 with h|h
  .omega
  exact an h
 .obtain⟨ak,al,h1,M⟩:=b.ext.shape g c aa ax ag;obtain⟨am,ao,h2,Q⟩:=v.ext.shape g ak aa al h1;exact⟨am,ao,h2,Q.trans M⟩
 .by_cases u:m=k
  .rw[if_pos u]at f;obtain rfl:=_a f;exact ac
  rw[if_neg u]at f;exact(b.obj m q f).mono v id (fun G=>Y _ (ae m q u f G))
 .have ab:∀j C,(if j=k then some (⟨o.n,o.sz,xs⟩:aR)else H j)=some C->∃I,H j=some I/\I.n=C.n:=by
   intro j C h;by_cases U:j=k
   .rw[if_pos U]at h;obtain rfl:=_a h;exact⟨o,U▸z,rfl⟩
   rw[if_neg U]at h;exact⟨C,h,rfl⟩
  obtain⟨ap,aq,M⟩:=ab _ _ h1;obtain⟨ar,au,Q⟩:=ab _ _ h2;rw[<-M]at aw J;rw[<-Q]at aY J;exact b.inj ah ai ap ar aq au aw aY J
 .by_cases u:m=k
  .rw[if_pos u]at f;obtain rfl:=_a f;exact b.dz k o z
  rw[if_neg u]at f;exact b.dz m q f
 by_cases u:m=k
 .rw[if_pos u]at f;obtain rfl:=_a f;exact Z
 rw[if_neg u]at f;exact b.own m q f h2
theorem Fk{Γ:bw}{K:aO}{H:Nat->Option aR}{w:World}(u:Inv Γ K H w){k:Nat}{o:aR}(v:H k=some o)(m:K.real o.n){f b:Array Value}{t:TypeId}{ax:Nat×Nat}(C:JO o.sz f.size ax)(z:w.heap[K.aD o.n]?=some (.cells f t ax))
 (aj:b.size=f.size) {xs:List (List O)} (G:xs.length*o.sz<=f.size) (I:∀x∈xs,x.length=o.sz)
 (J:∀(i:Nat)(x:List O)(j:Nat)(d:O),xs[i]?=some x->x[j]?=some d->∃c,b[i*o.sz+j]?=some c/\aJ K w d c) :
 dH K w K (w.setRow (K.aD o.n) b)/\Inv Γ K (fun j=>if j=k then some ⟨o.n,o.sz,xs⟩else H j) (w.setRow (K.aD o.n) b):=by
 have M:=u.own k o v m;have q:dH K w K (w.setRow (K.aD o.n) b):=⟨aav z aj M.1,fun n h=>⟨h,rfl⟩,fun g _ h=>h⟩;refine⟨q,Ei u v m q (fun g Q=>setRow_other Q) (.inr (.inl ⟨m,b,t,ax,by rw[aj];exact C,setRow_heap w _ _ _ _ _ z,by rw[aj];exact G,I,fun i x j d U X=>?_⟩))⟩;obtain⟨c,Y,Z⟩:=J i x j d U X;exact⟨c,Y,Z.mono q⟩
theorem BI(P:Program)(g o:Nat)(t:TypeId)(c:Nat×Nat):∀(j:List Value)(i:Nat)(b:Array Value)(w:World),w.heap[g]?=some (.cells b t c)->wu b.size c->o+i+j.length<=b.size->(∀v∈j,v.oneCell'=true)->
 (storeCells ⟨g,o,none⟩ j i).run P w=.ok () (w.setRow g (b.toList.take (o+i)++j++b.toList.drop (o+i+j.length)).toArray)
 |[],i,b,w,f,_,_,_=>by
  simp only[storeCells,List.append_nil,_9,_o,List.take_append_drop,Array.toArray_toList];rw[setRow_self w g b t c f];rfl
 |v::m,i,b,w,f,q,hl,h1=>by
  have u:o+i<b.size:=by simp at hl;omega
  have z:(⟨g,o,none⟩:Addr).add i=⟨g,o+i,none⟩:=yP;have C:w.cell? ⟨g,o+i,none⟩=some b[o+i]:=by simp[World.cell?,f,u]
  have G:w.frozen? ⟨g,o+i,none⟩=false:=by
   obtain⟨M,O⟩:=c;simp only[World.frozen?,f,Bool.and_eq_false_iff,decide_eq_false_iff_not];simp only[wu]at q;omega
  have I:(store ((⟨g,o,none⟩:Addr).add i) v).run P w=.ok () (w.setRow g (b.setIfInBounds (o+i) v)):=by
   rw[z,run_store P w _ v _ (h1 v aF),C];simp[G,setCell_eq_setRow w g (o+i) b t c v f]
  have J:=BI P g o t c m (i+1) (b.setIfInBounds (o+i) v) (w.setRow g (b.setIfInBounds (o+i) v)) (setRow_heap w g b _ t _ f) (by simpa using q) (by simp at hl⊢;omega) (fun x aP=>h1 x oT);simp only[storeCells,_g,I,_c,J,setRow_setRow];congr 3
  have e:=list_seg_step b.toList (o+i) v m (by simp at hl⊢;omega);simpa[Array.toList_setIfInBounds,_w]using e
theorem GQ:∀(l:List O)(i:Nat),jY l i=(l[i]?).getD .any
 |[],i=>rfl
 |x::r,0=>rfl
 |x::r,i+1=>by simp[jY,GQ r i]
theorem oc:∀(l:List O)(i:Nat),fT l i=l.drop i
 |l,0=>by cases l<;>rfl
 |[],i+1=>by simp[fT]
 |x::r,i+1=>by simp[fT,oc r i]
theorem yR:∀(l:List O)(i:Nat),kJ l i=l.take i
 |l,0=>by cases l<;>simp[kJ]
 |[],i+1=>by simp[kJ]
 |x::r,i+1=>by simp[kJ,yR r i]
theorem lZ:∀(l:List (List O))(i:Nat),cf l i=(l[i]?).getD []
 |[],i=>rfl
 |x::r,0=>rfl
 |x::r,i+1=>by simp[cf,lZ r i]
theorem zz:∀(l:List (List O))(i j:Nat)(y:List O),(hv l i y)[j]?=if j=i then(if i<l.length then some y else none)else l[j]?
 |[],i,j,y=>by simp[hv]
 |x::r,0,0,y=>by simp[hv]
 |x::r,0,j+1,y=>by simp[hv]
 |x::r,i+1,0,y=>by simp[hv]
 |x::r,i+1,j+1,y=>by simp[hv,zz r i j y]
theorem EB:∀(l:List (List O))(i:Nat)(y:List O),(hv l i y).length=l.length
 |[],i,y=>rfl
 |x::r,0,y=>rfl
 |x::r,i+1,y=>by simp[hv,EB r i y]
theorem uS:∀(x:List O)(j:Nat)(c:List O),(iX x j c).length=x.length
 |[],j,[]=>wT
 |[],j,d::c=>wT
 |x::r,0,[]=>wT
 |x::r,j+1,[]=>wT
 |x::r,0,d::c=>by simp[iX,uS r 0 c]
 |x::r,j+1,d::c=>by simp[iX,uS r j (d::c)]
theorem DC:∀(x:List O)(j:Nat)(c:List O)(i:Nat),i<x.length->(iX x j c)[i]?=if j<=i/\i<j+c.length then c[i-j]? else x[i]?
 |[],j,c,i,h=>fE
 |x::r,j,[],i,h=>by
  have:iX (x::r) j []=x::r:=by cases j<;>simp[iX]
  rw[this,if_neg (by simp only[_9,_o];omega)]
 |x::r,0,d::c,0,h=>wT
 |x::r,0,d::c,i+1,h=>by
  have:=DC r 0 c i hc;simp only[iX,_I,this,_8,_q,Nat.zero_le,true_and,Nat.sub_zero];by_cases b:i<c.length
  .rw[if_pos b,if_pos G]
  rw[if_neg b,if_neg G]
 |x::r,j+1,d::c,0,h=>wT
 |x::r,j+1,d::c,i+1,h=>by
  have:=DC r j (d::c) i hc;simp only[iX,_I,this];by_cases b:j<=i/\i<j+(d::c).length
  .rw[if_pos b,if_pos G];congr 1
   omega
  rw[if_neg b,if_neg G]
section
variable {P:Program} {o:Oper} {tm:bQ} {H:aV} {gen:Nat}
theorem addr_add(g a j:Nat):(⟨g,a,none⟩:Addr).add j=⟨g,a+j,none⟩:=yP
theorem XG{x:a7}{y:Operand}(b:o.op=.move y\/o.op=.assign y)(c:ba y x=true):bh P o x.reads tm H gen (aW tm x) [] [] 0:=
 bh.pure fun K a w f=>⟨a.eval y,by rcases b with h|h<;>simp[execOp,h],bL f c⟩
theorem afm{c a b:a7}{v j m:Operand}(x:o.op=.pick v j m)(h1:ba v c=true)(h2:ba j a=true)(C:ba m b=true):
 (yV (aW tm c) (aW tm a) (aW tm b)).all (fun d t wr g=>bh P o (c.reads++a.reads++b.reads) tm H gen d t wr g) (fun _ _=>False):=by
 unfold yV;split
 .rename_i t e _ _ G;refine⟨fun q=>bh.pure fun K u w f=>?_,fun q=>bh.pure fun K u w f=>?_⟩
  all_goals
   have aw:=bL (c8 (c8 f)) h1;rw[G]at aw;have z:=cQ aw
  .exact⟨u.eval j,by simp[execOp,x,z,asBool,q],bL (cq (c8 f)) h2⟩
  exact⟨u.eval m,by simp[execOp,x,z,asBool,q],bL (cq f) C⟩
 exact trivial
theorem ZY{K:aO}{w:World}{x:Value}{b:List O}(h1:x.cells.size=b.length)(h2:∀(i:Nat)(e:O)(c:Value),b[i]?=some e->x.cells[i]?=some c->aJ K w e c):
 ∀(i:Nat)(y:List O)(j:Nat)(d:O),[b][i]?=some y->y[j]?=some d->∃c,x.cells[i*b.length+j]?=some c/\aJ K w d c:=by
 intro i y j d f g;cases i with
 |succ i=>simp at f
 |zero=>
  simp at f;subst f;have m:j<x.cells.size:=by rw[h1];exact(_f.1 g).1
  refine⟨x.cells[j],by rw[_B,_q];exact _b m,h2 j d _ g (_b m)⟩
theorem ZX{rs:List bK}{k n:Nat}{b:List O}
 (h:∀(K:aO)(a:Act)(w:World),(∀s∈rs,aJ K w (tm.get s) (a.tmps.getD s.nat undef))->∃x t,(execOp a.eval o).run P w=.ok (.value (.pointer (some ⟨w.heap.size,0,none⟩))) (w.alloc (.cells (_K x) t))/\
   x.cells.size=b.length/\(∀(i:Nat)(e:O)(c:Value),b[i]?=some e->x.cells[i]?=some c->aJ K w e c)) (f:b.length=n) (m:0<n) :
 bh P o rs tm H gen (.ptr k gen n 0 0) [k] [(k,some ⟨gen,n,[b]⟩)] 1:=by
 intro Γ K I a w J next g M q u v z;obtain⟨x,t,h1,h2,C⟩:=h K a w q;have j:¬K.bG gen:=u gen (_s _) G;refine jQ h1 (z (K.add gen w.heap.size) _ _ (qG _ (fun h=>j (g.db _ h))) ?_ ?_ ?_)
 .rw[mr];refine CG g j v m (by simp[h2,f]) (by simp[f]) ?_;rw[<-f];exact ZY h2 C
 .have:aJ (K.add gen w.heap.size) (w.alloc (.cells (_K x) t)) (.ptr k gen n 0 0) (.pointer (some ⟨(K.add gen w.heap.size).aD gen,0*n+0,none⟩)):=.ptr (.inr rfl) ⟨_,_,_,wm⟩;simpa[aO.add]using this
 exact oN
theorem agL{k n:Nat}{x:a7}{t:TypeId}{y:Operand}(c:o.op=.box t y)(f:ba y x=true)(aj:fQ P t n=true):
 (wq k n gen (aW tm x)).all (fun d t wr g=>bh P o x.reads tm H gen d t wr g) (fun _ _=>False):=by
 unfold wq;intro b;obtain⟨b,j⟩:=b;rw[my]at b;have hl:=Ck b.2;refine ZX (fun K a w m=>?_) hl j;obtain⟨h1,h2,q⟩:=G1 (bL m f) b.1;exact⟨a.eval y,t,by simp[execOp,c,Instr.box,newVar,newRow],h1,h2⟩
theorem yk{t:TypeId}{zs:List Value}(h:mL P t zs=true):∃i b,P.info? t=some i/\i.zero=some b/\b.cells.toList=zs/\i.size=zs.length:=by
 unfold mL at h;split at h
 .rename_i i c;simp only[_x,decide_eq_true_eq]at h;split at h
  .rename_i b f;exact⟨i,b,c,f,U5 h.1,h.2⟩
  simp at h
 cases h
theorem aed{k:Nat}{zs:List Value}{t:TypeId}(iw:o.op=.alloc t)(b:mL P t zs=true)(f:0<zs.length):
 bh P o [] tm H gen (.ptr k gen zs.length 0 0) [k] [(k,some ⟨gen,zs.length,[fs zs]⟩)] 1:=by
 obtain⟨i,ff,h1,h2,bI,g⟩:=yk b;refine ZX (fun K a w m=>⟨ff,t,?_,?_,?_⟩) (mU zs) f
 .exact Pw
 .rw[mU,<-bI];simp
 intro j e c bu bn;exact VP
theorem aiQ{k:Nat}{zs:List Value}{t:TypeId}(iw:o.op=.alloc t)(q:mL P t zs=true)(u:0<zs.length):
 bh P o [] tm H gen (.ch gen zs.length t) [k] [(k,some ⟨gen,zs.length,[fs zs]⟩)] 1:=by
 obtain⟨i,ff,h1,h2,bI,J⟩:=yk q;intro Γ K M a w O next b Q U x z C;have I:(execOp a.eval o).run P w=.ok (.value (.pointer (some ⟨w.heap.size,0,none⟩))) (w.alloc (.cells (_K ff) t)):=Pw;have f:ff.cells.size=zs.length:=by rw[<-bI];simp
 have g:ff.cells.size=(fs zs).length:=by rw[mU,f]
 have m:¬K.bG gen:=x gen (_s _) G;refine jQ I (C (K.add gen w.heap.size) _ _ (qG _ (fun h=>m (b.db _ h))) ?_ ?_ ?_)
 .rw[mr];refine CG b m z u (by simp[g,mU]) (by simp[mU]) ?_;have:=ZY (K:=K) (w:=w) g (fun j e c bu bn=>by
   exact VP)
  rw[mU]at this;exact this
 .have:aJ (K.add gen w.heap.size) (w.alloc (.cells (_K ff) t)) (.ch gen zs.length t) (.pointer (some ⟨(K.add gen w.heap.size).aD gen,0,none⟩)):=.ch (.inr rfl) ⟨_,_,wm,f⟩;simpa[aO.add]using this
 exact oN
theorem LY{w:World}{K:aO}{g:Bool}{n:Nat}{t:TypeId}{ad:Addr}{ds:List O}(J:fQ P t n=true)(u:jD P t g=true)(h1:g=true\/n=1)(hl:n<=ds.length)
 (M:∀(j:Nat)(d:O),j<n->ds[j]?=some d->∃c,w.cell? (ad.add j)=some c/\aJ K w d c) :
 ∃v,(loadVar t ad).run P w=.ok v w/\aJ K w (kx g n ds) v:=by
 obtain⟨i,Q,U⟩:=lT J;have q:∀j,j<n->∃c,w.cell? (ad.add j)=some c/\aJ K w (ds[j]?.getD .any) c:=by
  intro j b;have x:j<ds.length:=G;obtain⟨c,h1,h2⟩:=M j ds[j] b (_d x);exact⟨c,h1,by rw[_d x];exact h2⟩
 cases g with
 |true=>
  let f:Nat->Value:=fun j=>(w.cell? (ad.add j)).getD undef
  have z:∀j,j<n->w.cell? (ad.add j)=some (f j):=by
   intro j b;obtain⟨c,h1,_⟩:=q j b;simp only[f,h1,Option.getD_some]
  have X:=run_loadCells (P:=P) w ad n f z;refine⟨.agg ((List.range n).map f).toArray,?_,?_⟩
  .simp only[loadVar,_g,Fl u,mD Q,_c,if_true,U,X,_j]
  refine .agg (by simp[yR];omega) (fun j d c bf C=>?_);rw[yR]at bf;have b:j<n:=by exact ZI
  obtain⟨Y,h2,m⟩:=q j b;have Z:ds[j]?=some d:=by rw[_G b]at bf;exact bf
  rw[Z]at m;have aa:c=Y:=by
   have:(((List.range n).map f).toArray)[j]?=some (f j):=by simp[b]
   rw[this]at C;have I:=z j b;rw[h2]at I;exact(_a C).symm.trans (_a I).symm
  rw[aa];exact m
 |false=>
  have ab:n=1:=by rcases h1 with h|h<;>simp_all
  obtain⟨c,h2,m⟩:=q 0 G;refine⟨c,?_,?_⟩
  .have:ad.add 0=ad:=by simp[Addr.add]
   rw[this]at h2;simp only[loadVar,_g,Fl u,_c];simp[run_load,h2]
  show aJ K w (jY ds 0) c;rw[GQ];exact m
theorem agD{z:Bool}{n:Nat}{p:a7}{t:TypeId}{y:Operand}(iw:o.op=.load t y)(J:ba y p=true)(M:fQ P t n=true)(O:jD P t z=true)(h1:z=true\/n=1):
 (vQ z n H (aW tm p)).all (fun d t wr g=>bh P o p.reads tm H gen d t wr g) (fun _ _=>False):=by
 unfold vQ;split
 .rename_i k U sz i j C;unfold B9;split
  .rename_i m X;intro u Y;refine bh.read fun Γ K aq a w Z aa G=>?_
   have aw:=bL G J;rw[C]at aw;have Q:=aa k aF;rw[X]at Q;generalize bB:a.eval y=ab at aw;cases aw with
   |ptr ac I=>
    obtain⟨_,_,_,I⟩:=I;rcases(Z.obj k m Q).two (fun ae=>ae.out (by rw[u.1];exact I))with⟨h2,_⟩|⟨h2,af,ag,ah,ar,ai,au,ak,al⟩
    .exact absurd (u.1▸ac) h2
    obtain⟨x,aP⟩:∃x,m.xs[i]?=some x:=⟨_,_d Y.1⟩;have av:x.length=m.sz:=ak x (_k aP);have am:cf m.xs i=x:=Nk;rw[am,oc];obtain⟨v,a_,a8⟩:=LY (P:=P) (ad:=⟨K.aD U,i*sz+j,none⟩) (w:=w) (K:=K) M O h1 (ds:=x.drop j) yi (fun q d ax b=>by
     rw[_r]at b;obtain⟨c,an,h8⟩:=al i x (j+q) d aP b;refine⟨c,?_,h8⟩;rw[addr_add,cell_of_row w _ _ af ag ah (by rw[<-u.1];exact ai),<-an,u.2,_w])
    exact Zk
  exact trivial
 .rename_i x C;intro ao;refine bh.pure fun K a w G=>?_
  have aw:=bL G J;rw[C]at aw;generalize bB:a.eval y=ab at aw;cases aw with
  |bY f aj ay az ap h=>
   obtain⟨v,a_,a8⟩:=LY (P:=P) M O h1 ao (fun j d aA b=>⟨_,ap j d b,h j d b⟩);exact Zk
 exact trivial
theorem LM{c:Array Value}{x:List Value}{b:Nat}(h:b+x.length<=c.size)(q:Nat):
 ((c.toList.take b++x++c.toList.drop (b+x.length)).toArray)[q]?=if b<=q/\q<b+x.length then x[q-b]? else c[q]?:=by
 have hl:(c.toList.take b).length=b:=c7;rw[_D];by_cases h1:q<b
 .rw[if_neg G,_2,_n G,_G h1,_u]
 by_cases h2:q<b+x.length
 .rw[if_pos G,_2,_l G,hl,_n G]
 rw[if_neg G,_l c7];simp only[_N,hl,_r,_u];congr 1
 omega
theorem abn{n:Nat}{p x:a7}{t:TypeId}{q y:Operand}(av:o.op=.store t q y)(h1:ba q p=true)(h2:ba y x=true)(ax:fQ P t n=true):
 (w2 n H (aW tm x) (aW tm p)).all (fun d t wr g=>bh P o (p.reads++x.reads) tm H gen d t wr g) (fun _ _=>False):=by
 unfold w2;split
 .rename_i k ag sz i j ay;unfold Cs;split
  .rename_i b az;intro c aA;obtain⟨I,ah,X⟩:=aA;rw[my]at X;have J:=Ck X.2;intro Γ K aU a w aV next ai aB aj aX aZ aC;have aw:=bL (c8 aj) h1;have aY:=bL (cq aj) h2;rw[ay]at aw;have Y:=aB k aF;rw[az]at Y;obtain⟨O,aE,c3⟩:=G1 aY X.1;generalize aG:a.eval q=a0 at aw;obtain⟨a1,aH,aI⟩:=lT ax;cases aw with
   |ptr aJ Z=>
    obtain⟨_,_,_,Z⟩:=Z;rcases(ai.obj k b Y).two (fun aK=>aK.out (by rw[c.1];exact Z))with⟨h2,_⟩|⟨h2,z,aL,aM,ak,al,am,aa,an⟩
    .exact absurd (c.1▸aJ) h2
    obtain⟨Q,aP⟩:∃x,b.xs[i]?=some x:=⟨_,_d I⟩;have ab:Q.length=b.sz:=aa Q (_k aP);have ac:cf b.xs i=Q:=Nk;have ae:i*sz+j+(a.eval y).cells.toList.length<=z.size:=by
     have:(i+1)*b.sz<=b.xs.length*b.sz:=_e _ I;rw[_t,_Y,c.2]at this;have e:(a.eval y).cells.toList.length=n:=by simp[O,J]
     rw[c.2]at am;rw[e,];rw[c.2]at ah;omega
    have ao:=BI P (K.aD ag) (i*sz+j) aL aM (a.eval y).cells.toList 0 z w (by rw[<-c.1];exact al) ak.1 (by simpa using ae) c3;simp only[_o]at ao;have aO:(execOp a.eval o).run P w=.ok .skip (w.setRow (K.aD ag) (z.toList.take (i*sz+j)++(a.eval y).cells.toList++z.toList.drop (i*sz+j+(a.eval y).cells.toList.length)).toArray):=by
     simp only[execOp,av,aG,Instr.storeAt,Instr.sureAddr,storeVar,_g,_j,_c,mD aH];rw[if_neg (by rw[O,J,aI];simp)];rw[ao];rfl
    have aQ:(z.toList.take (i*sz+j)++(a.eval y).cells.toList++z.toList.drop (i*sz+j+(a.eval y).cells.toList.length)).toArray.size=z.size:=by
     simp only[_P,_N,_R,_7,Array.length_toList]at ae⊢;omega
    have af:=Fk ai Y h2 ak al aQ (xs:=hv b.xs i (iX (cf b.xs i) j (iO (aW tm x)))) (by rw[EB];exact am) (by
     intro U f;obtain⟨aR,M⟩:=_C.1 f;rw[zz]at M;by_cases ap:aR=i
     .rw[if_pos ap,if_pos I]at M;obtain rfl:=_a M;rw[uS,ac,ab]
     .rw[if_neg ap]at M;exact aa U (_k M)) (by
     intro lq U m aq f u;rw[LM ae];have aS:(a.eval y).cells.toList.length=(iO (aW tm x)).length:=by simp[O]
     rw[aS,J];rw[zz]at f;have ar:m<b.sz:=by
      by_cases C:lq=i
      .rw[if_pos C,if_pos I]at f;obtain rfl:=_a f;have:=(_f.1 u).1;rw[uS,ac,ab]at this;exact this
      rw[if_neg C]at f;have:=(_f.1 u).1;rw[aa U (_k f)]at this;exact this
     by_cases C:lq=i
     .rw[if_pos C,if_pos I]at f;obtain rfl:=_a f;rw[ac,DC _ _ _ _ (by rw[ab];exact ar),J]at u;subst C;by_cases au:j<=m/\m<j+n
      .rw[if_pos au]at u;rw[if_pos (by rw[c.2];omega)];have e:lq*b.sz+m-(lq*sz+j)=m-j:=by rw[c.2];omega
       rw[e];have aN:m-j<(a.eval y).cells.size:=by rw[O,J];omega
       refine⟨(a.eval y).cells[m-j],?_,aE _ _ _ u (_b aN)⟩;rw[_u];exact _b aN
      rw[if_neg au]at u;rw[if_neg (by rw[c.2];omega)];exact an lq Q m aq aP u
     rw[if_neg C]at f;have aT:¬(i*sz+j<=lq*b.sz+m/\lq*b.sz+m<i*sz+j+n):=by
      rw[c.2]at ar ah⊢;exact Tt
     rw[if_neg aT];exact an lq U m aq f u)
    rw[c.1]at af;refine KF aO (aC K _ undef af.1 ?_ (.v undef) (fun n h=>.inl h));rw[mr,c.1];exact af.2
  exact trivial
 exact trivial
theorem ak0{x:a7}{y:Operand}(b:o.op=.nilCheck y)(c:ba y x=true):
 (vS (aW tm x)).all (fun d t wr g=>bh P o x.reads tm H gen d t wr g) (fun _ _=>False):=by
 unfold vS;split;all_goals first
  |exact trivial
  |(rename_i f
    refine bh.pure fun K a w j=>?_
    have aw:=bL j c;rw[f]at aw;generalize m:a.eval y=q at aw;have aY:=aw;cases aw;exact⟨_,by simp[execOp,b,m],aY⟩)
theorem aiX{off:Nat}{p:a7}{t:TypeId}{y:Operand}{i:Nat}{q:Array Field}{f:Field}(z:o.op=.fieldAddr t y i)(u:ba y p=true)(C:P.underlying t=some (.struct q))(I:q[i]?=some f)(J:f.offset=off)
 (aj:fQ P f.type (P.cellsOf f.type)=true) (aa:0<P.cellsOf f.type) :
 (wN off (aW tm p)).all (fun d t wr g=>bh P o p.reads tm H gen d t wr g) (fun _ _=>False):=by
 obtain⟨ab,M,ac⟩:=lT aj;have v:∀(a:Act)(w:World)(ad:Addr),a.eval y=.pointer (some ad)->(execOp a.eval o).run P w=.ok (.value (.pointer (some (ad.add off)))) w:=by
  intro a w ad b;simp only[execOp,z,b,Instr.fieldAt,Instr.sureAddr,fieldPlace,_g,_j,_c,run_underlying C,I,mD M];rw[if_neg G];simp[J]
 unfold wN;split
 .rename_i k n sz ae j c;refine bh.pure fun K a w m=>?_
  have aw:=bL m u;rw[c]at aw;generalize b:a.eval y=O at aw;cases aw with
  |ptr Q U=>
   refine⟨_,v a w _ b,?_⟩;rw[addr_add,_w];exact .ptr Q U
 .rename_i x c;refine bh.pure fun K a w m=>?_
  have aw:=bL m u;rw[c]at aw;generalize b:a.eval y=O at aw;cases aw with
  |@bY _ ad f aj aN oV X h=>
   refine⟨_,v a w _ b,?_⟩;rw[oc];have bO:(ad.add off).block=ad.block:=Cf;have Y:(ad.add off).spot=none:=yP;have Z:∀j,(ad.add off).add j=ad.add (off+j):=by
    intro j;unfold Addr.add;by_cases h1:off=0<;>by_cases h2:j=0<;>simp[h1,h2,_w]
   exact .bY (fun j=>f (off+j)) Y Ex GC (fun j d bf=>by rw[Z];exact X _ d ED) (fun j d bf=>h _ d ED)
 exact trivial
end
section
variable {P:Program} {o:Oper} {tm:bQ} {H:aV} {gen:Nat}
theorem RC{K:aO}{w:World}{g:Bool}{n off:Nat}{t:TypeId}{b:Array Value}{f:List O}(x:fQ P t n=true)(m:jD P t g=true)(h1:g=true\/n=1)(hl:off+n<=f.length)
 (aj:b.size=f.length) (h:∀(i:Nat)(d:O)(c:Value),f[i]?=some d->b[i]?=some c->aJ K w d c) :
 ∃v,(part t b off).run P w=.ok v w/\aJ K w (kx g n (fT f off)) v:=by
 obtain⟨i,z,C⟩:=lT x;rw[oc];cases g with
 |true=>
  refine⟨.agg (b.extract off (off+n)),?_,?_⟩
  .simp only[part,_g,Fl m,mD z,_c,if_true,C,_j]
  refine .agg (by simp[yR];omega) (fun j d c bf q=>?_);rw[yR]at bf;have I:j<n:=by exact ZI
  rw[_G I,_r]at bf;rw[Array.getElem?_extract,if_pos G]at q;exact h _ d c bf q
 |false=>
  have J:n=1:=by rcases h1 with h|h<;>simp_all
  have u:off<b.size:=G;refine⟨b[off],?_,?_⟩
  .simp only[part,_g,Fl m,_c,_b u];simp
  show aJ K w (jY (f.drop off) 0) _;rw[GQ,_r,_o,_d G];exact h off _ _ (_d G) (_b u)
theorem acC{b:Bool}{off n:Nat}{x:a7}{t:TypeId}{y:Operand}{i:Nat}{j:Array Field}{f:Field}(m:o.op=.field t y i)(q:ba y x=true)(u:P.underlying t=some (.struct j))(z:j[i]?=some f)(C:f.offset=off)
 (G:fQ P f.type n=true) (I:jD P f.type b=true) (h1:b=true\/n=1) :
 (wZ b off n (aW tm x)).all (fun d t wr g=>bh P o x.reads tm H gen d t wr g) (fun _ _=>False):=by
 unfold wZ;split
 .rename_i X J;intro hl;refine bh.pure fun K a w M=>?_
  have aw:=bL M q;rw[J]at aw;generalize O:a.eval y=Y at aw;cases aw with
  |@agg _ c aj h=>
   obtain⟨v,Q,U⟩:=RC (P:=P) G I h1 hl aj h;refine⟨v,?_,U⟩;simp only[execOp,m,O,Instr.field,_g,run_underlying u,_c,z,asAgg,_j,C,Q]
 exact trivial
theorem adH{x y:a7}{op:BinOp}{t z:TypeId}{p q:Operand}(C:o.op=.binOp op t p q z)(h1:ba p x=true)(h2:ba q y=true){k c:IntKind}{a b:Int}(I:aW tm x=.v (.int k a))(J:aW tm y=.v (.int c b))
 (j:zr (jk k c) (q2 op)=true):(zJ op k a b).all (fun d t wr g=>bh P o (x.reads++y.reads) tm H gen d t wr g) (fun _ _=>False):=by
 have f:∀v:Value,(∀w:World,(binOp op t (.int k a) (.int c b)).run P w=.ok v w)->bh P o (x.reads++y.reads) tm H gen (.v v) [] [] 0:=by
  intro v M;refine bh.pure fun K Z w m=>⟨v,?_,.v v⟩
  have aw:=bL (c8 m) h1;have aY:=bL (cq m) h2;rw[I]at aw;rw[J]at aY;have O:=cQ aw;have Q:=cQ aY;have U:∀w,(eqGuard op t p q (.int k a) (.int c b)).run P w=.ok () w:=by
   intro w;unfold eqGuard;split<;>rfl
  simp only[execOp,C,O,Q,_g,U,_c,M,_j]
 by_cases aj:q2 op=true
 .cases op<;>try simp[q2]at aj;done
  all_goals
   intro u;refine f _ fun w=>?_
   simp only[binOp,Op.shift];rw[if_neg G];rfl
 have X:k=c:=by
  apply nO;have e:q2 op=false:=BK;rw[e]at j;cases Y:jk k c with
  |true=>rfl
  |false=>rw[Y]at j;cases j
 subst X;cases op<;>try simp[q2]at aj;done
 all_goals first
  |(refine f _ fun w=>?_
    simp only[binOp,ne_eq,not_true_eq_false,if_false,Op.intArith,Op.intBits,Op.intCmp,_j];done)
  |(refine f _ fun w=>?_
    simp only[binOp,ne_eq,not_true_eq_false,if_false,Op.intArith,Op.intBits,Op.intCmp,_j,bits];done)
  |(intro u
    refine f _ fun w=>?_
    simp only[binOp,ne_eq,not_true_eq_false,if_false,Op.intDiv];rw[if_neg u];rfl)
  |(refine f _ fun w=>?_
    simp only[binOp,ne_eq,not_true_eq_false,if_false,Op.intCmp,_j];first|done|congr 2)
theorem acp{op:BinOp}{x y:a7}{t c:TypeId}{p q:Operand}(f:o.op=.binOp op t p q c)(h1:ba p x=true)(h2:ba q y=true):
 (wS op (aW tm x) (aW tm y)).all (fun d t wr g=>bh P o (x.reads++y.reads) tm H gen d t wr g) (fun _ _=>False):=by
 unfold wS;split
 .rename_i k a v b j m;unfold uO;split
  .rename_i u;exact adH f h1 h2 j m u
  exact trivial
 exact trivial
theorem adg{op:UnOp}{x:a7}{t:TypeId}{p:Operand}(m:o.op=.unOp op t p)(h1:ba p x=true):
 (wj op (aW tm x)).all (fun d t wr g=>bh P o x.reads tm H gen d t wr g) (fun _ _=>False):=by
 unfold wj;split
 .rename_i b j;split
  .refine bh.pure fun K a w c=>?_
   have aw:=bL c h1;rw[j]at aw;have f:=cQ aw;exact⟨.bool (!b),by simp[execOp,m,f,Op.unary],.v _⟩
  exact trivial
 .rename_i k n j;split
  .refine bh.pure fun K a w c=>?_
   have aw:=bL c h1;rw[j]at aw;have f:=cQ aw;exact⟨_,by simp only[execOp,m,f,Op.unary,Op.intArith,_g,_j,_c],.v _⟩
  .refine bh.pure fun K a w c=>?_
   have aw:=bL c h1;rw[j]at aw;have f:=cQ aw;refine⟨.int k (bits .xor k (bif k.signed then -1 else k.max) n),?_,.v _⟩;have e:(bif k.signed then(-1:Int)else k.max)=(if k.signed then -1 else k.max):=by cases k.signed<;>rfl
   simp only[execOp,m,f,Op.unary,intBits_xor,_g,_j,_c,e]
  exact trivial
 exact trivial
theorem aca{k b:IntKind}{x:a7}{s d:TypeId}{p:Operand}(c:o.op=.convert s d p)(h1:ba p x=true){f:TypeDesc}(aj:P.underlying s=some f)(j:P.underlying d=some (.int b))(m:jk k b=true):
 (xI k (aW tm x)).all (fun d t wr g=>bh P o x.reads tm H gen d t wr g) (fun _ _=>False):=by
 unfold xI;split
 .rename_i C n q;refine bh.pure fun K a w u=>?_
  have aw:=bL u h1;rw[q]at aw;have z:=cQ aw;refine⟨_,?_,.v _⟩;rw[nO m];simp[execOp,c,z,convert,run_underlying aj,run_underlying j,Conv.intToInt]
 exact trivial
theorem aeh{i:Nat}{x:a7}{p:Operand}(j:o.op=.extract p i)(h1:ba p x=true):
 (yY i (aW tm x)).all (fun d t wr g=>bh P o x.reads tm H gen d t wr g) (fun _ _=>False):=by
 unfold yY;split
 .rename_i C b;intro hl;refine bh.pure fun K a w f=>?_
  have aw:=bL f h1;rw[b]at aw;generalize q:a.eval p=I at aw;cases aw with
  |@aS _ c aj h=>
   have m:i<c.size:=G;refine⟨c[i],by simp[execOp,j,q,Instr.extract,_b m],?_⟩;rw[GQ,_d hl];exact h i _ _ (_d hl) (_b m)
 .rename_i u b;intro hl;refine bh.pure fun K a w f=>?_
  have aw:=bL f h1;rw[b]at aw;have z:=cQ aw;refine⟨u.getD i undef,?_,.v _⟩;simp[execOp,j,z,Instr.extract,_b hl,Array.getD,hl]
 exact trivial
theorem acK{x:a7}{p:Operand}{t e:TypeId}{c:Call}(G:o.op=.call c)(u:c.callee=.builtin .len)(z:c.args = #[p])(I:c.argTypes = #[t])(h1:ba p x=true)(J:P.underlying t=some (.slice e)):
 (wV (aW tm x)).all (fun d t wr g=>bh P o x.reads tm H gen d t wr g) (fun _ _=>False):=by
 have iM:∀(a:Act)(w:World)(A:Option Addr)(n C:Nat),a.eval p=.slice A n C->(execOp a.eval o).run P w=.ok (.value (.int .i64 n)) w:=by
  intro a w A n C bB;simp[execOp,G,resolve,u,z,I,bB,invoke,builtin,Builtin.len_,run_underlying J,goInt]
 unfold wV;split
 .rename_i b;refine bh.pure fun K a w j=>?_
  have aw:=bL j h1;rw[b]at aw;generalize bB:a.eval p=m at aw;cases aw with
  |aG q M h=>exact Le
 .rename_i b;refine bh.pure fun K a w j=>?_
  have aw:=bL j h1;rw[b]at aw;generalize bB:a.eval p=m at aw;cases aw with
  |eA q M h=>exact Le
 .rename_i b;refine bh.pure fun K a w j=>?_
  have aw:=bL j h1;rw[b]at aw;generalize bB:a.eval p=m at aw;cases aw with
  |eZ q h=>exact Le
 .rename_i b;refine bh.pure fun K a w j=>?_
  have aw:=bL j h1;rw[b]at aw;generalize bB:a.eval p=m at aw;cases aw with
  |snap f hl q u aj z O h=>exact⟨_,iM a w _ _ _ bB,by rw[hl];exact .v _⟩
 .rename_i b;refine bh.pure fun K a w j=>?_
  have aw:=bL j h1;rw[b]at aw;exact⟨_,iM a w _ _ _ (cQ aw),.v _⟩
 exact trivial
theorem add_add(ad:Addr)(i j:Nat):(ad.add i).add j=ad.add (i+j):=by
 unfold Addr.add;by_cases h1:i=0<;>by_cases h2:j=0<;>simp[h1,h2,_w]
theorem aln{sz:Nat}{x i:a7}{p q:Operand}{t e:TypeId}(Y:o.op=.indexAddr t p q)(h1:ba p x=true)(h2:ba q i=true)(Z:P.underlying t=some (.slice e))(aa:fQ P e sz=true):
 (vT sz (aW tm x) (aW tm i)).all (fun d t wr g=>bh P o (x.reads++i.reads) tm H gen d t wr g) (fun _ _=>False):=by
 obtain⟨au,ab,ac⟩:=lT aa;have O:∀(a:Act)(w:World)(ad:Addr)(n Q:Nat)(k:IntKind)(b:Int),a.eval p=.slice (some ad) n Q->a.eval q=.int k b->0<=b->b<n->(execOp a.eval o).run P w=.ok (.value (.pointer (some (ad.add (b.toNat*sz))))) w:=by
  intro a w ad n Q k b ae m af ag;simp only[execOp,Y,ae,m,Instr.indexAt,asIntOf,_g,_j,_c,run_underlying Z];rw[if_pos ⟨af,ag⟩];simp[mD ab,ac]
 unfold vT;split
 .rename_i k n c U len av ah b z C;intro I v;subst I;refine bh.pure fun K a w u=>?_
  have aw:=bL (c8 u) h1;have aY:=bL (cq u) h2;rw[z]at aw;rw[C]at aY;have m:=cQ aY;generalize J:a.eval p=ai at aw;cases aw with
  |aG ak ax h=>
   rcases h with h|⟨al,am,ay,tl,az,an,_⟩
   .omega
   subst am;refine⟨_,O a w _ _ _ _ _ J m v.1 v.2,?_⟩;rw[addr_add,show U*c+b.toNat*c=(U+b.toNat)*c+0 by rw[_t];rfl];exact .ptr al ⟨_,_,_,an⟩
 .rename_i c xs aA ah b z C;intro I v;subst I;refine bh.pure fun K a w u=>?_
  have aw:=bL (c8 u) h1;have aY:=bL (cq u) h2;rw[z]at aw;rw[C]at aY;have m:=cQ aY;generalize J:a.eval p=ai at aw;cases aw with
  |snap f hl ak aB aj ao ap h=>
   obtain⟨ad,rfl,aC,aN,oV⟩:=ao G;have aq:b.toNat<xs.length:=G;refine⟨_,O a w _ _ _ _ _ J m v.1 G,?_⟩;have X:xs[b.toNat]?=some (cf xs b.toNat):=by rw[lZ,_d aq];rfl
   have bO:(ad.add (b.toNat*c)).block=ad.block:=Cf;have ar:(ad.add (b.toNat*c)).spot=none:=yP;refine .bY (fun j=>f b.toNat j) ar Ex GC (fun j d M=>?_) (fun j d M=>h _ _ j d X M);rw[add_add];exact ap ad _ _ j d rfl X M
 exact trivial
theorem abG{sz n m:Nat}{x i:a7}{p q:Operand}{t e:TypeId}(iw:o.op=.indexAddr t p q)(h1:ba p x=true)(h2:ba q i=true)(cG:P.underlying t=some (.array m e))(I:fQ P e sz=true)(J:m=n):
 (xi sz n (aW tm x) (aW tm i)).all (fun d t wr g=>bh P o (x.reads++i.reads) tm H gen d t wr g) (fun _ _=>False):=by
 obtain⟨Z,qj,bd⟩:=lT I;subst J;have G:∀(a:Act)(w:World)(ad:Addr)(k:IntKind)(v:Int),a.eval p=.pointer (some ad)->a.eval q=.int k v->0<=v->v<m->(execOp a.eval o).run P w=.ok (.value (.pointer (some (ad.add (v.toNat*sz))))) w:=by exact VS
 unfold xi;split
 .rename_i k aa s ab j M v u z;intro b;refine bh.pure fun K a w c=>?_
  have aw:=bL (c8 c) h1;have aY:=bL (cq c) h2;rw[u]at aw;rw[z]at aY;have a8:=cQ aY;generalize C:a.eval p=O at aw;cases aw with
  |ptr Q U=>
   refine⟨_,G a w _ _ _ C a8 b.1 b.2,?_⟩;rw[addr_add,_w];exact .ptr Q U
 .rename_i ac M v u z;intro b;refine bh.pure fun K a w c=>?_
  have aw:=bL (c8 c) h1;have aY:=bL (cq c) h2;rw[u]at aw;rw[z]at aY;have a8:=cQ aY;generalize C:a.eval p=O at aw;cases aw with
  |@bY _ ad f aj aN oV X h=>
   refine⟨_,G a w _ _ _ C a8 b.1 b.2,?_⟩;rw[oc];have bO:(ad.add (v.toNat*sz)).block=ad.block:=Cf;have Y:(ad.add (v.toNat*sz)).spot=none:=yP;exact .bY (fun j=>f (v.toNat*sz+j)) Y Ex GC (fun j d bf=>by rw[add_add];exact X _ d ED) (fun j d bf=>h _ d ED)
 exact trivial
theorem X3:∀ {l:List (Nat×List Value)} {g:Nat} {b:List Value},uH l g=some b->(g,b)∈l
 |[],g,b,h=>by simp[uH]at h
 |(f,j)::r,g,b,h=>by
  unfold uH at h;cases c:Nat.beq f g with
  |true=>
   rw[c]at h;obtain rfl:=_a h;rw[Nat.eq_of_beq_eq_true c];exact _M
  |false=>
   rw[c]at h;exact _A _ (X3 h)
theorem K8:∀(l:List Value)(i:Nat)(d:O),(fs l)[i]?=some d->∃c,l[i]?=some c/\d=.v c
 |[],i,d,h=>by simp[fs]at h
 |x::r,0,d,h=>by
  simp only[fs,List.getElem?_cons_zero,_F]at h;exact⟨x,rfl,h.symm⟩
 |x::r,i+1,d,h=>by
  simp only[fs,_I]at h⊢;exact K8 r i d h
theorem aiK{sz n m g:Nat}{i:a7}{p q:Operand}{t e:TypeId}(iw:o.op=.indexAddr t p q)(h1:p=.global g)(h2:ba q i=true)(cG:P.underlying t=some (.array m e))(C:fQ P e sz=true)(G:m=n):
 (w5 sz n (uH rS g) (aW tm i)).all (fun d t wr g=>bh P o i.reads tm H gen d t wr g) (fun _ _=>False):=by
 obtain⟨ac,qj,bd⟩:=lT C;subst G;have I:∀(a:Act)(w:World)(ad:Addr)(k:IntKind)(v:Int),a.eval p=.pointer (some ad)->a.eval q=.int k v->0<=v->v<m->(execOp a.eval o).run P w=.ok (.value (.pointer (some (ad.add (v.toNat*sz))))) w:=by exact VS
 unfold w5;split
 .rename_i u ae v J M;intro O x;refine bh.read fun Γ K af a w Q _ U=>?_
  have aY:=bL U h2;rw[M]at aY;have a8:=cQ aY;obtain⟨X,Y,Z⟩:=Q.mC (X3 J);have aa:∀(i:Nat)(c:Value),u[i]?=some c->w.cell? ⟨g,i,none⟩=some c:=fun i c z=>WT (Z.1 i c z) (List.all_eq_true.1 O c (_k z))
  have ab:a.eval p=.pointer (some ⟨g,0,none⟩):=by rw[h1];rfl
  refine⟨_,I a w _ _ _ ab a8 x.1 x.2,?_⟩;rw[oc,addr_add,_q];refine .bY (fun j=>(u[v.toNat*sz+j]?).getD undef) rfl Y X (fun j d b=>?_) (fun j d b=>?_)
  .rw[_r]at b;obtain⟨c,f,ag⟩:=K8 _ _ _ b;rw[addr_add,aa _ c f,f];rfl
  rw[_r]at b;obtain⟨c,f,rfl⟩:=K8 _ _ _ b;rw[f];exact .v c
 exact trivial
theorem ZN(off:Nat):∀(l:List Value)(k:Nat)(b:Array Value)(i:Nat),off+k+l.length<=b.size->
 ((l.zipIdx k).foldl (fun b (p:Value×Nat)=>b.setIfInBounds (off+p.2) p.1) b)[i]?=if off+k<=i/\i<off+k+l.length then l[i-(off+k)]? else b[i]?
 |[],k,b,i,h=>by
  simp only[List.zipIdx_nil,List.foldl_nil,_9,_o];rw[if_neg G]
 |v::r,k,b,i,h=>by
  simp only[_8]at h;simp only[List.zipIdx_cons,List.foldl_cons,_8];rw[ZN off r (k+1) _ i c7];by_cases h1:i=off+k
  .subst h1;have c:off+k<b.size:=G;rw[if_neg G,if_pos G,Nat.sub_self];simp[c]
  rw[Array.getElem?_setIfInBounds_ne G];by_cases h2:off+(k+1)<=i/\i<off+(k+1)+r.length
  .rw[if_pos h2,if_pos G,show i-(off+k)=i-(off+(k+1))+1 from G];simp
  rw[if_neg h2,if_neg G]
theorem Y0{b:Array Value}{v:Value}{off:Nat}(h:off+v.cells.size<=b.size)(i:Nat):
 (v.cells.zipIdx.foldl (fun b (p:Value×Nat)=>b.setIfInBounds (off+p.2) p.1) b)[i]?=if off<=i/\i<off+v.cells.size then v.cells[i-off]? else b[i]?:=by
 have e:v.cells.zipIdx.foldl (fun b (p:Value×Nat)=>b.setIfInBounds (off+p.2) p.1) b=(v.cells.toList.zipIdx 0).foldl (fun b (p:Value×Nat)=>b.setIfInBounds (off+p.2) p.1) b:=by
  rw[<-_0];congr 1
  simp[Array.toList_zipIdx]
 rw[e,ZN off _ 0 b i hc];simp
theorem No:∀(l:List (Value×Nat))(off:Nat)(b:Array Value),(l.foldl (fun b (p:Value×Nat)=>b.setIfInBounds (off+p.2) p.1) b).size=b.size
 |[],_,_=>rfl
 |x::r,off,b=>by simp only[List.foldl_cons];rw[No r off];simp
end
section
variable {P:Program} {o:Oper} {tm:bQ} {H:aV} {gen:Nat}
theorem RU{α b:Type}{f:α->Sem b}{g:α->b}{w:World}:∀(l:List α),(∀x∈l,(f x).run P w=.ok (g x) w)->(l.mapM f).run P w=.ok (l.map g) w
 |[],_=>by simp[List.mapM_nil]
 |x::r,h=>by
  have h1:=h x aF;have h2:=RU r (fun y bB=>h y u7);simp[List.mapM_cons,h1,h2]
theorem ajO{α b:Type}{f:α->Sem b}{g:α->b}{w:World}(a:Array α)(h:∀x∈a.toList,(f x).run P w=.ok (g x) w):(a.mapM f).run P w=.ok (a.toList.map g).toArray w:=by
 rw[Array.mapM_eq_mapM_toList];have:=RU (P:=P) (w:=w) a.toList h;simp[this]
theorem Ha{t:TypeId}{i:TypeInfo}{b:Value}(h1:P.info? t=some i)(h2:i.zero=some b)(w:World):(zeroValue t).run P w=.ok b w:=by simp[zeroValue,typeInfo,h1,h2]
def vw(K:aO)(w:World)(b:List O)(f:Array Value):Prop:=f.size=b.length/\∀(i:Nat)(d:O)(c:Value),b[i]?=some d->f[i]?=some c->aJ K w d c
theorem ahn{K:aO}{w:World}{j ps:List O}{b:Array Value}{v:Value}{off:Nat}(h:vw K w j b)(m:vw K w ps v.cells)(u:off+ps.length<=j.length):
 vw K w (iX j off ps) (v.cells.zipIdx.foldl (fun b (p:Value×Nat)=>b.setIfInBounds (off+p.2) p.1) b):=by
 have x:(v.cells.zipIdx.foldl (fun b (p:Value×Nat)=>b.setIfInBounds (off+p.2) p.1) b).size=b.size:=by rw[<-_0];exact No _ off b
 refine⟨by rw[x,uS];exact h.1,fun i d c f g=>?_⟩;have z:i<j.length:=by have:=(_f.1 f).1;rwa[uS]at this
 rw[DC _ _ _ _ z]at f;rw[Y0 (by rw[m.1,h.1];exact u),m.1]at g;by_cases q:off<=i/\i<off+ps.length
 .rw[if_pos q]at f g;exact m.2 _ d c f g
 rw[if_neg q]at f g;exact h.2 i d c f g
theorem M5{K:aO}{a:Act}{w:World}{f:List (Nat×Nat)}{place:Nat->Option (Nat×Nat)}(g:∀i p,f[i]?=some p->place i=some p):∀ {ps:List (Nat×Operand)} {parts:List (Nat×Nat×a7)} {ds:List O} {cs:Array Value},
 u_ f ps parts=true->sr tm ds.length parts=true->(∀s∈parts.flatMap (·.2.2.reads),aJ K w (tm.get s) (a.tmps.getD s.nat undef))->vw K w ds cs->
 ∃b,Instr.fill place cs (ps.map fun p=>(p.1,a.eval p.2))=some b/\vw K w (uh tm parts ds) b
 |[],[],ds,cs,_,_,_,h=>⟨cs,rfl,h⟩
 |[],_::_,_,_,h,_,_,_=>by simp[u_]at h
 |_::_,[],_,_,h,_,_,_=>by simp[u_]at h
 |(i,x)::ps,(off,n,y)::parts,ds,cs,h,j,m,u=>by
  simp only[u_,_x]at h;simp only[sr,my,decide_eq_true_eq]at j;obtain⟨⟨h1,h2⟩,z⟩:=h;obtain⟨⟨C,G⟩,I,J⟩:=j;split at h1
  .rename_i v M Q;simp only[_x,decide_eq_true_eq]at h1;obtain⟨rfl,rfl⟩:=h1;have U:aJ K w (aW tm y) (a.eval x):=bL (fun s aj=>m s (_6.2 ⟨_,_M,aj⟩)) h2;obtain⟨c,X,c3⟩:=G1 U C;have hl:=Ck G;have Y:=ahn (off:=v) (v:=a.eval x) u ⟨c,X⟩ (by rw[hl];exact I);obtain⟨b,Z,aa⟩:=M5 g (ps:=ps) (parts:=parts) z (by rw[uS];exact J) (fun s aj=>m s (by
    exact IK)) Y
   refine⟨b,?_,aa⟩;simp only[List.map_cons,Instr.fill,g _ _ Q];have ab:¬((a.eval x).cells.size≠M\/v+(a.eval x).cells.size>cs.size):=by
    rintro(h|h)
    .exact h (by rw[c,hl])
    rw[c,hl,u.1]at h;omega
   rw[if_neg (by simpa using ab)];exact Z
  cases h1
theorem UY{K:aO}{w:World}{f:Value}:vw K w (fs f.cells.toList) f.cells:=by
 refine⟨by rw[mU];simp,fun i d c b g=>?_⟩;rw[uW]at b;have:f.cells.toList[i]?=some c:=by rw[_u];exact g
 rw[this]at b;simp at b;rw[<-b];exact .v c
theorem ahY{zs:List Value}{parts:List (Nat×Nat×a7)}{t:TypeId}{ps:Array (Nat×Operand)}(J:o.op=.build t ps)(aa:mL P t zs=true){u:List (Nat×Nat)}(g:Ns P t=some u)(M:u_ u ps.toList parts=true)
 (v:(match P.underlying t with|some (.struct u)=>u.toList.all (fun f=>(P.info? f.type).isSome)|some (.array _ e)=>(P.info? e).isSome|_=>false)=true) (O:sr tm zs.length parts=true) :
 bh P o (parts.flatMap (·.2.2.reads)) tm H gen (.agg (uh tm parts (fs zs))) [] [] 0:=by
 obtain⟨i,Q,h1,h2,U,af⟩:=yk aa;refine bh.pure fun K a w X=>?_
 have Y:∀z c,P.info? z=some c->P.cellsOf z=c.size:=fun z c h=>by simp[_4,h]
 unfold Ns at g;split at g
 .rename_i Z j;obtain rfl:=_a g;rw[j]at v;have ab:=ajO (P:=P) (w:=w) (f:=fun(f:Field)=>do pure (f.offset,<-sizeOf f.type)) (g:=fun f=>(f.offset,P.cellsOf f.type)) Z (fun f ac=>by
   have aj:=List.all_eq_true.1 v f ac;obtain⟨c,m⟩:=_O.1 aj;simp[mD m,Y _ _ m])
  obtain⟨C,G,q⟩:=M5 (tm:=tm) (K:=K) (a:=a) (w:=w) (place:=fun i=>(Z.toList.map fun f=>(f.offset,P.cellsOf f.type)).toArray[i]?) (fun i p b=>by simpa using b) M (ds:=fs zs) (cs:=Q.cells) (by rw[mU];exact O) X (by rw[<-U];exact UY);refine⟨.agg C,?_,.agg q.1 q.2⟩;have I:(Array.map (fun(x:Nat×Operand)=>(x.1,a.eval x.2)) ps).toList=ps.toList.map fun p=>(p.1,a.eval p.2):=aF
  simp only[execOp,J,Instr.build,_g,Ha h1 h2,_c,_j,run_underlying j,ab,I];rw[G];rfl
 .rename_i n e j;obtain rfl:=_a g;rw[j]at v;obtain⟨c,m⟩:=_O.1 v;have ae:=Y _ _ m;obtain⟨C,G,q⟩:=M5 (tm:=tm) (K:=K) (a:=a) (w:=w) (place:=fun i=>some (i*c.size,c.size)) (fun i p b=>by
   rw[ae]at b;rw[_1]at b;by_cases ay:i<n
   .rw[List.getElem?_range ay]at b;exact b
   rw[_W pU]at b;cases b) M (ds:=fs zs) (cs:=Q.cells) (by rw[mU];exact O) X (by rw[<-U];exact UY)
  refine⟨.agg C,?_,.agg q.1 q.2⟩;have I:(Array.map (fun(x:Nat×Operand)=>(x.1,a.eval x.2)) ps).toList=ps.toList.map fun p=>(p.1,a.eval p.2):=aF
  simp only[execOp,J,Instr.build,_g,Ha h1 h2,_c,_j,run_underlying j,mD m,I];rw[G];rfl
 cases g
theorem xv(x:List O):∀(k i:Nat),(dX x k)[i]?=if i<k then some x else none
 |0,i=>by simp[dX]
 |k+1,0=>by simp[dX]
 |k+1,i+1=>by simp[dX,xv x k i]
theorem s9(x:List O):∀k,(dX x k).length=k
 |0=>rfl
 |k+1=>by simp[dX,s9 x k]
def lR(K:aO)(w:World)(sz:Nat)(xs:List (List O))(b:Array Value):Prop:=
 b.size=xs.length*sz/\(∀x∈xs,x.length=sz)/\∀(i:Nat)(x:List O)(j:Nat)(d:O),xs[i]?=some x->x[j]?=some d->∃c,b[i*sz+j]?=some c/\aJ K w d c
theorem ac2{K:aO}{w:World}{sz i:Nat}{xs:List (List O)}{ps:List O}{b:Array Value}{v:Value}(h:lR K w sz xs b)(g:vw K w ps v.cells)(u:i<xs.length)(z:ps.length=sz):
 lR K w sz (hv xs i ps) (v.cells.zipIdx.foldl (fun b (p:Value×Nat)=>b.setIfInBounds (i*sz+p.2) p.1) b):=by
 have J:i*sz+v.cells.size<=b.size:=by
  rw[g.1,z,h.1];have:(i+1)*sz<=xs.length*sz:=_e _ u;rw[_t,_Y]at this;exact this
 have M:(v.cells.zipIdx.foldl (fun b (p:Value×Nat)=>b.setIfInBounds (i*sz+p.2) p.1) b).size=b.size:=by rw[<-_0];exact No _ _ b
 refine⟨by rw[M,EB];exact h.1,fun x c=>?_,fun lq x j d c m=>?_⟩
 .obtain⟨q,f⟩:=_C.1 c;rw[zz]at f;by_cases e:q=i
  .rw[if_pos e,if_pos u]at f;obtain rfl:=_a f;exact z
  rw[if_neg e]at f;exact h.2.1 x (_k f)
 rw[Y0 J,g.1,z];rw[zz]at c;by_cases e:lq=i
 .rw[if_pos e,if_pos u]at c;obtain rfl:=_a c;subst e;have C:j<ps.length:=(_f.1 m).1;rw[if_pos G,show lq*sz+j-lq*sz=j from G];have I:j<v.cells.size:=by rw[g.1];exact C
  exact⟨_,_b I,g.2 j d _ m (_b I)⟩
 rw[if_neg e]at c;have C:j<sz:=by rw[<-h.2.1 x (_k c)];exact(_f.1 m).1
 rw[if_neg]
 .exact h.2.2 lq x j d c m
 exact Tt
theorem O8{K:aO}{a:Act}{w:World}{sz len:Nat}:∀ {ps:List (Nat×Operand)} {parts:List (Nat×a7)} {xs:List (List O)} {b:Array Value},
 uw ps parts=true->tb tm len sz parts=true->(∀s∈parts.flatMap (·.2.reads),aJ K w (tm.get s) (a.tmps.getD s.nat undef))->xs.length=len->lR K w sz xs b->
 ∃c,Instr.fill (fun i=>some (i*sz,sz)) b (ps.map fun p=>(p.1,a.eval p.2))=some c/\lR K w sz (tF tm parts xs) c/\(tF tm parts xs).length=len
 |[],[],xs,b,_,_,_,hl,h=>⟨b,rfl,h,hl⟩
 |[],_::_,_,_,h,_,_,_,_=>by simp[uw]at h
 |_::_,[],_,_,h,_,_,_,_=>by simp[uw]at h
 |(i,x)::ps,(j,y)::parts,xs,b,h,m,u,f,v=>by
  simp only[uw,_x,decide_eq_true_eq]at h;simp only[tb,my,decide_eq_true_eq]at m;obtain⟨⟨h1,h2⟩,C⟩:=h;obtain⟨⟨G,I⟩,z,J⟩:=m;subst h1;have M:aJ K w (aW tm y) (a.eval x):=bL (fun s aj=>u s (_6.2 ⟨_,_M,aj⟩)) h2;obtain⟨g,Q,c3⟩:=G1 M G;have hl:=Ck I;have U:=ac2 (v:=a.eval x) v ⟨g,Q⟩ (by rw[f];exact z) hl;obtain⟨c,X,Y,Z⟩:=O8 (ps:=ps) (parts:=parts) C J (fun s aj=>u s (by
   exact IK)) (by rw[EB];exact f) U
  refine⟨c,?_,Y,Z⟩;simp only[List.map_cons,Instr.fill];have aa:¬((a.eval x).cells.size≠sz\/i*sz+(a.eval x).cells.size>b.size):=by
   rintro(h|h)
   .exact h (by rw[g,hl])
   rw[g,hl,v.1,f]at h;have:(i+1)*sz<=len*sz:=_e _ z;exact xq
  rw[if_neg (by simpa using aa)];exact X
theorem ajR{X:Bool}{k len n:Nat}{zs:List Value}{parts:List (Nat×a7)}{t e:TypeId}{ps:Array (Nat×Operand)}(Y:o.op=.buildSlice t n ps)(Z:n=len)(aa:P.underlying t=some (.slice e))(ab:mL P e zs=true)(ac:0<zs.length)(ar:len*zs.length<=2 ^ 24)
 (ae:uw ps.toList parts=true) (af:tb tm len zs.length parts=true) :
 bh P o (parts.flatMap (·.2.reads)) tm H gen (.aG k gen zs.length 0 len X) [k] [(k,some ⟨gen,zs.length,tF tm parts (dX (fs zs) len)⟩)] 1:=by
 obtain⟨i,b,h1,h2,z,ag⟩:=yk ab;subst Z;intro Γ K au a w av next C aw ah ai aj ak;have E_:b.cells.size=zs.length:=by rw[<-z];simp
 have al:lR K w zs.length (dX (fs zs) n) ((_X (n*zs.length)).map (b.cells[· % b.cells.size]!)):=by
  refine⟨by simp[s9],fun x c=>?_,fun m x j d c bf=>?_⟩
  .obtain⟨q,g⟩:=_C.1 c;rw[xv]at g;split at g
   .obtain rfl:=_a g;exact mU zs
   cases g
  rw[xv]at c;split at c
  .rename_i am;obtain rfl:=_a c;have cB:j<zs.length:=Mk;have an:m*zs.length+j<n*zs.length:=by
    have:(m+1)*zs.length<=n*zs.length:=_e _ am;exact xq
   have ao:(m*zs.length+j)%zs.length=j:=by rw[Nat.add_comm,Nat.add_mul_mod_self_right];exact Nat.mod_eq_of_lt cB
   rw[uW,<-z,_u,_b G5]at bf;simp at bf;refine⟨b.cells[j]' G5,?_,If⟩;have I:j<b.cells.size:=G5;simp[an,E_,ao,I];exact getElem!_pos b.cells j I
  cases c
 obtain⟨J,M,f,O⟩:=O8 (tm:=tm) (K:=K) (a:=a) (w:=w) ae af ah (s9 _ _) al;have Q:¬K.bG gen:=ai gen (_s _) G;have U:(Array.map (fun(x:Nat×Operand)=>(x.1,a.eval x.2)) ps).toList=ps.toList.map fun p=>(p.1,a.eval p.2):=aF
 have ap:(execOp a.eval o).run P w=.ok (.value (.slice (some ⟨w.heap.size,0,none⟩) n n)) (w.alloc (.cells J e)):=by
  simp only[execOp,Y,Instr.buildSlice,_g,run_underlying aa,mD h1,ag,_c];rw[if_neg G];by_cases u:n*zs.length=0
  .have qF:(_X (n*zs.length)).map (fun x=>(#[]:Array Value)[x%(#[]:Array Value).size]!)=(_X (n*zs.length)).map (b.cells[· % b.cells.size]!):=by rw[u];simp
   rw[if_pos u];simp only[_g,_j,_c,qF,U];rw[M];rfl
  rw[if_neg u];simp only[_g,Ha h1 h2,_j,_c,U];rw[M];rfl
 refine jQ ap (ak (K.add gen w.heap.size) _ _ (qG _ (fun h=>Q (C.db _ h))) ?_ ?_ ?_)
 .rw[mr];exact CG C Q aj ac (by rw[f.1];exact hT) f.2.1 f.2.2
 .refine .aG (_s _) (fun _=>rfl) (.inr ⟨.inr rfl,?_,J,e,(0,0),?_,?_,fun _=>by rw[f.1,O];simp⟩)
  .simp[aO.add]
  .exact wm
  rw[f.1,O];simp
 exact oN
def kp:Nat->Value->Value->Option Bool
 |0,.int k a,.int c b=>match jk k c with
  |true=>some (decide (a=b))
  |false=>none
 |1,.bool a,.bool b=>some (a==b)
 |2,.string a,.string b=>some (decide (a=b))
 |3,.pointer a,.pointer none=>some a.isNone
 |_,_,_=>none
theorem ahj{w:World}(D:Nat){t e:TypeId}(cG:P.underlying t=some (.pointer e))(A:Option Addr):(_J (D+1) t (.pointer A) (.pointer none)).run P w=.ok A.isNone w:=by exact H4
theorem J1(a b:ByteArray):(a.toList==b.toList)=decide (a=b):=by
 rw[<-beq_toListBytes];obtain⟨⟨x⟩⟩:=a;obtain⟨⟨y⟩⟩:=b;show((⟨x⟩:Array UInt8)==⟨y⟩)=_;by_cases h:x=y
 .subst h;simp
 have h2:¬((⟨⟨x⟩⟩:ByteArray)=⟨⟨y⟩⟩):=fun e=>h (by injection e with e;injection e)
 rw[decide_eq_false h2];simp[h]
def nZ(ks:List Nat)(xs ys:Array Value)(off:Nat):Prop:=∀(i q:Nat),ks[i]?=some q->∃c f b,xs[off+i]?=some c/\ys[off+i]?=some f/\kp q c f=some b
def p8(ks:List Nat)(xs ys:Array Value)(off:Nat):Prop:=∀(i q:Nat)(c b:Value),ks[i]?=some q->xs[off+i]?=some c->ys[off+i]?=some b->kp q c b=some true
def EqAt(P:Program)(w:World)(D:Nat)(t:TypeId)(ks:List Nat):Prop:=∀(xs ys:Array Value)(off:Nat),nZ ks xs ys off->
 ∃a b r,(part t xs off).run P w=.ok a w/\(part t ys off).run P w=.ok b w/\(_J D t a b).run P w=.ok r w/\(r=true↔p8 ks xs ys off)
theorem XV{ks l:List Nat}{xs ys:Array Value}{off:Nat}(h:nZ (ks++l) xs ys off):nZ ks xs ys off:=fun i q ay=>h i q ZK
theorem VW{ks l:List Nat}{xs ys:Array Value}{off:Nat}(h:nZ (ks++l) xs ys off):nZ l xs ys (off+ks.length):=fun i q ay=>by
 have:=h (ks.length+i) q Uk;simpa[_w]using this
theorem aaI{ks l:List Nat}{xs ys:Array Value}{off:Nat}:p8 (ks++l) xs ys off↔p8 ks xs ys off/\p8 l xs ys (off+ks.length):=by
 constructor
 .intro h;refine⟨fun i q c b ay=>h i q c b ZK,fun i q c b ay h1 h2=>h (ks.length+i) q c b Uk (by simpa[_w]using h1) (by simpa[_w]using h2)⟩
 rintro⟨h1,h2⟩ i q c b ay f g;by_cases j:i<ks.length
 .exact h1 i q c b (by rw[_n j]at ay;exact ay) f g
 rw[_l G]at ay;exact h2 (i-ks.length) q c b ay (by rw[<-f];congr 1;omega) (by rw[<-g];congr 1;omega)
theorem qE{w:World}{t:TypeId}(b:(isAgg t).run P w=.ok false w){cs:Array Value}{off:Nat}{c:Value}(h:cs[off]?=some c):(part t cs off).run P w=.ok c w:=by
 simp only[part,_g,b,_c,h];rfl
theorem sj{w:World}{t:TypeId}{d:TypeDesc}(h:P.underlying t=some d):(isAgg t).run P w=.ok (u5 d) w:=by
 simp only[isAgg,_g,run_underlying h,_c];cases d<;>rfl
theorem U0{ks:List Nat}{xs ys:Array Value}{off s o:Nat}(h:nZ ks xs ys (off+o))(aj:o+ks.length<=s):nZ ks (xs.extract off (off+s)) (ys.extract off (off+s)) o/\(p8 ks (xs.extract off (off+s)) (ys.extract off (off+s)) o↔p8 ks xs ys (off+o)):=by
 have g:∀(zs:Array Value)(i:Nat)(q:Nat),ks[i]?=some q->(zs.extract off (off+s))[o+i]?=zs[off+o+i]?:=by
  intro zs i q f;have v:=(_f.1 f).1;rw[Array.getElem?_extract];by_cases x:off+o+i<zs.size
  .rw[if_pos G];congr 1
   omega
  rw[_T (show zs.size<=off+o+i from G)];split
  .exact _T G
  rfl
 refine⟨fun i q f=>?_,fun m i q c j f h1 h2=>m i q c j f (by rw[g xs i q f];exact h1) (by rw[g ys i q f];exact h2),fun m i q c j f h1 h2=>m i q c j f (by rw[<-g xs i q f];exact h1) (by rw[<-g ys i q f];exact h2)⟩;obtain⟨c,j,b,h1,h2,u⟩:=h i q f;exact⟨c,j,b,(g xs i q f).trans h1,(g ys i q f).trans h2,u⟩
theorem L_{w:World}{D:Nat}{f:TypeId->Option (List Nat)}(u:∀t l,f t=some l->l.length=P.cellsOf t->EqAt P w D t l)(xs ys:Array Value):∀(g:List Field)(o:Nat)(ks:List Nat),lV.C0 P f g o=some ks->nZ ks xs ys o->
 ∃r,(Op.eqFields D xs ys g).run P w=.ok r w/\(r=true↔p8 ks xs ys o)
 |[],o,ks,h,_=>by
  simp only[lV.C0,_F]at h;subst h;exact⟨true,rfl,fun _ i q c M j=>by simp at j,fun _=>rfl⟩
 |q::g,o,ks,h,v=>by
  simp only[lV.C0]at h;split at h
  .rename_i j;obtain⟨x,z⟩:=j;split at h
   .rename_i l C h1 h2;split at h
    .rename_i m;obtain rfl:=_a h;obtain⟨a,b,r,G,I,J,gn⟩:=u q.type l h1 m xs ys o (XV v);obtain⟨aY,pd,r2⟩:=L_ u xs ys g _ C h2 (by rw[<-m];exact VW v);rw[<-m]at r2;simp only[Op.eqFields,ne_eq,z,not_false_eq_true,if_true,_g,x,G,I,J,_c];exact SN
    cases h
   cases h
  cases h
theorem Lp{w:World}{D:Nat}{e:TypeId}{l:List Nat}(g:EqAt P w D e l)(hl:l.length=P.cellsOf e)(xs ys:Array Value):∀(m k:Nat),nZ (_p m l).flatten xs ys (k*P.cellsOf e)->
 ∃r,(Op.eqItems D e (P.cellsOf e) xs ys (List.range' k m)).run P w=.ok r w/\(r=true↔p8 (_p m l).flatten xs ys (k*P.cellsOf e))
 |0,k,_=>⟨true,rfl,fun _ i q c G v=>by simp at v,fun _=>rfl⟩
 |m+1,k,f=>by
  have aj:(_p (m+1) l).flatten=l++(_p m l).flatten:=by simp[List.replicate_succ]
  rw[aj]at f⊢;obtain⟨a,b,r,x,z,C,gn⟩:=g xs ys (k*P.cellsOf e) (XV f);have j:k*P.cellsOf e+l.length=(k+1)*P.cellsOf e:=by rw[hl,_t,_Y]
  have u:=VW f;rw[j]at u;obtain⟨aY,pd,r2⟩:=Lp g hl xs ys m (k+1) u;rw[<-j]at r2;simp only[List.range'_succ,Op.eqItems,_g,x,z,C,_c];exact SN
theorem EY{w:World}:∀(d:Nat)(t:TypeId)(ks:List Nat)(D:Nat),lV P d t=some ks->ks.length=P.cellsOf t->d<=D->EqAt P w D t ks
 |0,t,ks,D,h,_,_=>by simp[lV]at h
 |d+1,t,ks,D,h,I,ec=>by
  obtain⟨D,rfl⟩:∃D',D=D'+1:=⟨D-1,G⟩;intro xs ys off m;simp only[lV]at h;split at h
  .rename_i k cG;obtain rfl:=_a h;obtain⟨c,f,b,h1,h2,bI⟩:=m 0 0 rfl;have mi:=sj (P:=P) (w:=w) cG;simp only[_o]at h1 h2;refine⟨c,f,b,qE mi h1,qE mi h2,?_,?_⟩
   .cases c with
    |int ac g=>
     cases f with
     |int Q ah=>
      simp only[kp]at bI;split at bI
      .rename_i U;rw[nO U,run_equalIn_int w D t Q k g ah cG];obtain rfl:=_a bI;congr 1
      cases bI
     |_=>simp[kp]at bI
    |_=>simp[kp]at bI
   refine⟨fun bO i q x z ay ez cR=>?_,fun j=>?_⟩
   .exact Hg
   have:=j 0 0 c f rfl h1 h2;exact GH
  .rename_i cG;obtain rfl:=_a h;obtain⟨c,f,b,h1,h2,bI⟩:=m 0 1 rfl;have mi:=sj (P:=P) (w:=w) cG;simp only[_o]at h1 h2;refine⟨c,f,b,qE mi h1,qE mi h2,?_,?_⟩
   .cases c with
    |bool g=>
     cases f with
     |bool ah=>
      simp only[kp]at bI;rw[run_equalIn_bool' w D t g ah cG];rw[_a bI]
     |_=>simp[kp]at bI
    |_=>simp[kp]at bI
   refine⟨fun bO i q x z ay ez cR=>?_,fun j=>?_⟩
   .exact Hg
   have:=j 0 1 c f rfl h1 h2;exact GH
  .rename_i cG;obtain rfl:=_a h;obtain⟨c,f,b,h1,h2,bI⟩:=m 0 2 rfl;have mi:=sj (P:=P) (w:=w) cG;simp only[_o]at h1 h2;refine⟨c,f,b,qE mi h1,qE mi h2,?_,?_⟩
   .cases c with
    |string g=>
     cases f with
     |string ah=>
      simp only[kp]at bI;rw[run_equalIn_string w D t g ah cG,J1];rw[_a bI]
     |_=>simp[kp]at bI
    |_=>simp[kp]at bI
   refine⟨fun bO i q x z ay ez cR=>?_,fun j=>?_⟩
   .exact Hg
   have:=j 0 2 c f rfl h1 h2;exact GH
  .rename_i e cG;obtain rfl:=_a h;obtain⟨c,f,b,h1,h2,bI⟩:=m 0 3 rfl;have mi:=sj (P:=P) (w:=w) cG;simp only[_o]at h1 h2;refine⟨c,f,b,qE mi h1,qE mi h2,?_,?_⟩
   .cases c with
    |pointer g=>
     cases f with
     |pointer ah=>
      cases ah with
      |none=>
       simp only[kp]at bI;rw[ahj D cG g,_a bI]
      |some _=>simp[kp]at bI
     |_=>simp[kp]at bI
    |_=>simp[kp]at bI
   refine⟨fun bO i q x z ay ez cR=>?_,fun j=>?_⟩
   .exact Hg
   have:=j 0 3 c f rfl h1 h2;exact GH
  .rename_i J cG;split at h
   .cases h
   rename_i X;have Y:P.stoodInHeld t=false:=by simpa using X
   have M:P.fieldsOf t=J:=by simp[Program.fieldsOf,cG]
   have Z:P.underlying t=some (.struct (P.fieldsOf t)):=by rw[M];exact cG
   have mi:=sj (P:=P) (w:=w) cG;have u:=U0 (s:=ks.length) (o:=0) m G;obtain⟨r,C,v⟩:=L_ (w:=w) (D:=D) (fun aa l h1 h2=>EY d aa l D h1 h2 G) _ _ J.toList 0 ks h u.1;obtain⟨rO,qj⟩:∃rO,P.info? t=some rO:=by exact Ya
   have Z8:rO.size=ks.length:=by rw[I];simp[_4,qj]
   refine⟨.agg (xs.extract off (off+ks.length)),.agg (ys.extract off (off+ks.length)),r,?_,?_,?_,v.trans u.2⟩
   .exact Ep
   .exact Ep
   rw[run_equalIn_struct w D t _ _ Z Y,M];exact C
  .rename_i n e cG;split at h
   .rename_i ae ab;cases ay:lV P d e with
    |none=>rw[ay]at h;cases h
    |some l=>
     rw[ay]at h;dsimp only at h;split at h
     .rename_i O;obtain rfl:=_a h;have mi:=sj (P:=P) (w:=w) cG;obtain⟨rO,qj⟩:∃rO,P.info? t=some rO:=by exact Ya
      have Z8:rO.size=((_p n l).flatten).length:=by rw[I];simp[_4,qj]
      have u:=U0 (s:=((_p n l).flatten).length) (o:=0) m G;obtain⟨r,C,v⟩:=Lp (w:=w) (D:=D) (EY d e l D ay O G) O (xs.extract off (off+((_p n l).flatten).length)) (ys.extract off (off+((_p n l).flatten).length)) n 0 (by rw[_B];exact u.1);rw[_B]at v;refine⟨.agg (xs.extract off (off+((_p n l).flatten).length)),.agg (ys.extract off (off+((_p n l).flatten).length)),r,?_,?_,?_,v.trans u.2⟩
      .exact Ep
      .exact Ep
      rw[run_equalIn_array w D _ _ cG ab,List.range_eq_range'];exact C
     cases h
   cases h
  cases h
theorem afv(b:Bool):∀r,oE (b::r)=(b&&oE r)
 |[]=>by simp[oE]
 |_::_=>rfl
theorem So{K:aO}{w:World}:∀(ks:List Nat)(x y:List O)(aQ:List Bool)(m u:Array Value)(off:Nat),qc ks x y=some aQ->
 (∀(i:Nat)(d:O),x[i]?=some d->∃c,m[off+i]?=some c/\aJ K w d c)->(∀(i:Nat)(d:O),y[i]?=some d->∃c,u[off+i]?=some c/\aJ K w d c)->
 ks.length=x.length/\ks.length=y.length/\nZ ks m u off/\(oE aQ=true↔p8 ks m u off)
 |[],[],[],aQ,m,u,off,h,_,_=>by
  simp only[qc,_F]at h;subst h;exact⟨rfl,rfl,fun i q ay=>by simp at ay,fun _ i q c v ay=>by simp at ay,fun _=>rfl⟩
 |q::ks,a::x,b::y,aQ,m,u,off,h,h1,h2=>by
  simp only[qc]at h;cases ay:qZ q a b with
  |none=>rw[ay]at h;simp[uT]at h
  |some t=>
   cases J:qc ks x y with
   |none=>rw[ay,J]at h;simp[uT]at h
   |some l=>
    rw[ay,J]at h;simp only[uT,_F]at h;subst h;obtain⟨Z,aa,ab,ac⟩:=So ks x y l m u (off+1) J (fun i d bf=>by
     obtain⟨c,M,Q⟩:=h1 (i+1) d vP;exact⟨c,by rw[<-M];congr 1;omega,Q⟩) (fun i d bf=>by
     obtain⟨c,M,Q⟩:=h2 (i+1) d vP;exact⟨c,by rw[<-M];congr 1;omega,Q⟩)
    obtain⟨U,G,Ld⟩:=h1 0 a rfl;obtain⟨X,cR,IX⟩:=h2 0 b rfl;have Y:kp q U X=some t:=by
     unfold qZ at ay;split at ay
     .exact FR
     .exact FR
     .exact FR
     .exact FR
     .rw[cQ IX];cases Ld;exact ay
     .rw[cQ IX];cases Ld;exact ay
     cases ay
    rw[_o]at G cR;have z:∀(zs:Array Value)(i:Nat),zs[off+(i+1)]?=zs[off+1+i]?:=fun zs i=>by congr 1;omega
    refine⟨by simp[Z],by simp[aa],fun i C f=>?_,?_⟩
    .cases i with
     |zero=>simp at f;subst f;exact⟨U,X,t,by simpa using G,Ay,Y⟩
     |succ i=>
      obtain⟨c,v,ae,g,j,af⟩:=ab i C (by simpa using f);exact⟨c,v,ae,by rw[z];exact g,by rw[z];exact j,af⟩
    rw[afv,_x,ac];refine⟨fun⟨ag,I⟩ i C c v f g j=>?_,fun I=>⟨?_,fun i C c v f g j=>I (i+1) C c v (by simpa using f) (by rw[z];exact g) (by rw[z];exact j)⟩⟩
    .cases i with
     |zero=>
      simp at f g j;subst f;rw[G]at g;rw[cR]at j;obtain rfl:=_a g;obtain rfl:=_a j;rw[Y,ag]
     |succ i=>exact I i C c v (by simpa using f) (by rw[<-z];exact g) (by rw[<-z];exact j)
    have:=I 0 q U X rfl (by simpa using G) Ay;rw[Y]at this;exact _a this
 |[],[],_::_,_,_,_,_,h,_,_=>E2
 |[],_::_,_,_,_,_,_,h,_,_=>E2
 |_::_,[],_,_,_,_,_,h,_,_=>E2
 |_::_,_::_,[],_,_,_,_,h,_,_=>E2
theorem VO{w:World}{t:TypeId}{ks:List Nat}{b c:Array Value}(d D:Nat)(u:d<=D)(hl:lV P (d+1) t=some ks)(v:jD P t true=true)(x:nZ ks b c 0):
 ∃r,(_J (D+1) t (.agg b) (.agg c)).run P w=.ok r w/\(r=true↔p8 ks b c 0):=by
 obtain⟨m,f⟩:∃m,P.underlying t=some m:=by
  cases g:P.underlying t with
  |some d=>exact⟨d,rfl⟩
  |none=>simp[jD,g]at v
 rw[lV,f]at hl;cases m with
 |struct z=>
  dsimp only at hl;split at hl
  .cases hl
  rename_i I;have J:P.stoodInHeld t=false:=by simpa using I
  have C:P.fieldsOf t=z:=by simp[Program.fieldsOf,f]
  have M:P.underlying t=some (.struct (P.fieldsOf t)):=by rw[C];exact f
  obtain⟨r,q,j⟩:=L_ (w:=w) (D:=D) (fun O l Q U=>EY d O l D Q U u) b c z.toList 0 ks hl x;exact⟨r,by rw[run_equalIn_struct w D t _ _ M J,C];exact q,j⟩
 |array n e=>
  dsimp only at hl;split at hl
  .rename_i Y X;cases g:lV P d e with
   |none=>rw[g]at hl;cases hl
   |some l=>
    rw[g]at hl;dsimp only at hl;split at hl
    .rename_i G;obtain rfl:=_a hl;obtain⟨r,q,j⟩:=Lp (w:=w) (D:=D) (EY d e l D g G u) G b c n 0 (by rw[_B];exact x);rw[_B]at j;exact⟨r,by rw[run_equalIn_array w D _ _ f X,List.range_eq_range'];exact q,j⟩
    cases hl
  cases hl
 |_=>simp[jD,f,u5]at v
theorem alK{neg:Bool}{ks:List Nat}{x y:a7}{op:BinOp}{t ab:TypeId}{p q:Operand}(z:o.op=.binOp op t p q ab)(j:l4 neg op=true)(h1:ba p x=true)(h2:ba q y=true)
 (hl:lV P 20 t=some ks) (C:jD P t true=true) (I:P.eqGuardType P.depth t=false) :
 (xE neg ks (aW tm x) (aW tm y)).all (fun d t wr g=>bh P o (x.reads++y.reads) tm H gen d t wr g) (fun _ _=>False):=by
 unfold xE;split
 .rename_i ac ae af ag;unfold CI;split
  .rename_i aQ ah;refine bh.pure fun K a w J=>?_
   have aw:=bL (c8 J) h1;have aY:=bL (cq J) h2;rw[af]at aw;rw[ag]at aY;generalize M:a.eval p=av at aw;generalize Q:a.eval q=ax at aY;cases aw with
   |@agg _ m ai ak=>
    cases aY with
    |@agg _ u al am=>
     have get:∀ {b:List O} {c:Array Value},c.size=b.length->(∀(i:Nat)(d:O)(v:Value),b[i]?=some d->c[i]?=some v->aJ K w d v)->∀(i:Nat)(d:O),b[i]?=some d->∃v,c[0+i]?=some v/\aJ K w d v:=by
      intro b c aj an i d U;have X:i<c.size:=by rw[aj];exact(_f.1 U).1
      exact⟨c[i],by rw[_q];exact _b X,an i d _ U (_b X)⟩
     obtain⟨ay,az,ao,Y⟩:=So (K:=K) (w:=w) ks ac ae aQ m u 0 ah (get ai ak) (get al am);obtain⟨f,aA⟩:∃f,P.info? t=some f:=by
      cases ap:P.info? t with
      |some f=>exact⟨f,rfl⟩
      |none=>simp[jD,Program.underlying,ap]at C
     have aq:=VO (w:=w) 19 9999 G hl C ao;obtain⟨r,Z,aa⟩:=aq;have ar:r=oE aQ:=by
      cases r with
      |true=>exact(Y.2 (aa.1 rfl)).symm
      |false=>
       cases au:oE aQ with
       |false=>rfl
       |true=>exact absurd (aa.2 (Y.1 au)) aF
     refine⟨.bool (ih neg (oE aQ)),?_,.v _⟩;rw[<-ar];cases op<;>simp[l4]at j
     .subst j;simp only[execOp,z,M,Q,_g,run_eqGuard_agg w _ t p q m u I,_c,run_eql_struct,Z,_j,ih]
     subst j;simp only[execOp,z,M,Q,_g,run_eqGuard_agg w _ t p q m u I,_c,run_neq_struct,Z,_j,ih]
  exact trivial
 exact trivial
theorem agA{neg:Bool}{x y:a7}{op:BinOp}{t c:TypeId}{p q:Operand}(iw:o.op=.binOp op t p q c)(xP:l4 neg op=true)(h1:ba p x=true)(h2:ba q y=true)(cG:P.underlying t=some .bool):
 (xL neg (aW tm x) (aW tm y)).all (fun d t wr g=>bh P o (x.reads++y.reads) tm H gen d t wr g) (fun _ _=>False):=by
 unfold xL;split
 .rename_i ah ai f j;refine bh.pure fun K a w b=>?_
  have aw:=bL (c8 b) h1;have aY:=bL (cq b) h2;rw[f]at aw;rw[j]at aY;have a_:=cQ aw;have a8:=cQ aY;refine⟨.bool (ih neg (ah==ai)),?_,.v _⟩;have b8:∀(op:BinOp) w,(eqGuard op t p q (.bool ah) (.bool ai)).run P w=.ok () w:=by exact Hy
  cases op<;>simp[l4]at xP
  .exact TQ
  exact TQ
 exact trivial
theorem Wj{mx:Bool}{x y:a7}{c:Call}{p q:Operand}(f:o.op=.call c)(j:c.callee=.builtin (match mx with|true=>.max|false=>.min))(m:c.args = #[p,q])(h1:ba p x=true)(h2:ba q y=true):
 (vr mx (aW tm x) (aW tm y)).all (fun d t wr g=>bh P o (x.reads++y.reads) tm H gen d t wr g) (fun _ _=>False):=by
 unfold vr;split
 .rename_i k a J b G I;unfold uO;split
  .refine bh.pure fun K M w u=>?_
   have aw:=bL (c8 u) h1;have aY:=bL (cq u) h2;rw[G]at aw;rw[I]at aY;have z:=cQ aw;have C:=cQ aY;refine⟨_,?_,.v _⟩;cases mx
   .have e:min a b=if b<a then b else a:=by split<;>omega
    simp only[cond,e];simp[execOp,f,resolve,j,m,z,C,invoke,builtin,Builtin.min_,Builtin.min2]
   have e:max a b=if a<b then b else a:=by split<;>omega
   simp only[cond,e];simp[execOp,f,resolve,j,m,z,C,invoke,builtin,Builtin.max_,Builtin.max2]
  exact trivial
 exact trivial
theorem kH:∀(l:List (List O))(i:Nat),cC l i=l.drop i
 |l,0=>by cases l<;>rfl
 |[],i+1=>by simp[cC]
 |x::r,i+1=>by simp[cC,kH r i]
theorem hh:∀(l:List (List O))(i:Nat),cp l i=l.take i
 |l,0=>by cases l<;>simp[cp]
 |[],i+1=>by simp[cp]
 |x::r,i+1=>by simp[cp,hh r i]
theorem Vk:∀ {l:List (List O)},eW l=true->∀x∈l,l7 x=true
 |[],_,x,h=>fE
 |y::r,b,x,h=>by
  simp only[eW,my]at b;rcases List.mem_cons.1 h with rfl|h
  .exact b.1
  exact Vk b.2 x h
theorem MJ{K:aO}{w:World}{sz:Nat}{xs:List (List O)}{b:Array Value}(j:0<sz)(h:lR K w sz xs b)(h1:eW xs=true):∀c∈b.toList,c.oneCell'=true:=by
 intro c v;obtain⟨q,ay,rfl⟩:=List.mem_iff_getElem.1 v;have m:q<b.size:=pU;have x:q/sz<xs.length:=by
  rw[Nat.div_lt_iff_lt_mul j,<-h.1];exact m
 have f:xs[q/sz]?=some xs[q/sz]:=_d x;have hl:=h.2.1 _ (_k f);have u:q%sz<xs[q/sz].length:=by rw[hl];exact Nat.mod_lt _ j
 obtain⟨c,g,z⟩:=h.2.2 _ _ (q%sz) _ f (_d u);rw[show q/sz*sz+q%sz=q by rw[Nat.mul_comm];exact Nat.div_add_mod q sz]at g;rw[_b m]at g;have C:=_a g;rw[Array.getElem_toList,C];exact KO z (IQ (Vk h1 _ (_k f)) _ (List.getElem_mem u))
theorem GV{K:aO}{w:World}{sz b c:Nat}{A:Option Addr}{ys:List (List O)}(m:0<sz)(hl:ys.length=b)(u:∀x∈ys,x.length=sz)
 (h:∀(i:Nat)(x:List O)(j:Nat)(d:O),ys[i]?=some x->x[j]?=some d->∃ad v,A=some ad/\w.cell? (ad.add (i*sz+j))=some v/\aJ K w d v) :
 ∃I:List Value,lR K w sz ys I.toArray/\∀bD:World,bD.heap=w.heap->(_m sz b (.slice A b c)).run P bD=.ok I.toArray bD:=by
 have J:∀q,q<b*sz->∃ad v,A=some ad/\w.cell? (ad.add q)=some v/\∃x d,ys[q/sz]?=some x/\x[q%sz]?=some d/\aJ K w d v:=by
  intro q z;have U:q/sz<ys.length:=by rw[hl,Nat.div_lt_iff_lt_mul m];exact z
  have aP:ys[q/sz]?=some ys[q/sz]:=_d U;have X:=u _ (_k aP);have M:q%sz<ys[q/sz].length:=by rw[X];exact Nat.mod_lt _ m
  obtain⟨ad,v,g,f,C⟩:=h _ _ (q%sz) _ aP (_d M);rw[show q/sz*sz+q%sz=q by rw[Nat.mul_comm];exact Nat.div_add_mod q sz]at f;exact⟨ad,v,g,f,_,_,aP,_d M,C⟩
 rcases Nat.eq_zero_or_pos b with G|G
 .subst G;have:ys=[]:=_v hl;subst this;refine⟨[],⟨aF,fun x aP=>k4,fun i x j d aP=>k4⟩,fun bD _=>?_⟩;cases A with
  |none=>rfl
  |some ad=>
   simp only[_m,_B];rfl
 obtain⟨ad,_,rfl,_⟩:=J 0 (Nat.mul_pos G m);refine⟨(List.range (b*sz)).map (fun q=>(w.cell? (ad.add q)).getD undef),⟨by simp[hl],u,fun i x j d aP Q=>?_⟩,fun bD Y=>?_⟩
 .obtain⟨Z,v,g,f,C⟩:=h i x j d aP Q;obtain rfl:=_a g;have aa:i<b:=by rw[<-hl];exact(_f.1 aP).1
  have ac:j<sz:=by rw[<-u x (_k aP)];exact(_f.1 Q).1
  have ab:i*sz+j<b*sz:=by
   have:(i+1)*sz<=b*sz:=_e _ aa;exact xq
  refine⟨v,?_,C⟩;simp[ab,f]
 simp only[_m];refine run_loadCells bD ad (b*sz) _ (fun q z=>?_);obtain⟨Z,v,g,f,_⟩:=J q z;obtain rfl:=_a g;have:bD.cell? (ad.add q)=w.cell? (ad.add q):=World.cell?_of_block (by rw[Y]);rw[this,f];rfl
theorem zD{Γ:bw}{K:aO}{X:Nat->Option aR}{w:World}(af:Inv Γ K X w){sz:Nat}(u:0<sz){d:O}{v:Value}(M:aJ K w d v){ys:List (List O)}{Y:List Nat}{p:Prop}(g:kD sz H d=.ok ys Y p)(z:p)(ag:∀k∈Y,X k=aB H k):
 ∃A b c,v=.slice A b c/\ys.length=b/\∃Z:List Value,lR K w sz ys Z.toArray/\∀bD:World,bD.heap=w.heap->(_m sz b v).run P bD=.ok Z.toArray bD:=by
 unfold kD at g;split at g
 .rename_i ah xs aF;injection g with m Q C;subst m;rw[<-C]at z;subst z;cases M with
  |@snap _ _ _ A len cap f hl ai aH aj ak al h=>
   refine⟨A,len,cap,rfl,hl,GV u hl aj (fun i x j d aP q=>?_)⟩;obtain⟨ad,e,_⟩:=ak Sd;exact⟨ad,_,e,al ad i x j d e aP q,h i x j d aP q⟩
 .rename_i k n ah G b aI;unfold xw at g;split at g
  .rename_i I am;injection g with m Q C;subst m;rw[<-C]at z;obtain⟨an,aa,ab,JL⟩:=z;have ac:=ag k (by rw[<-Q];simp);rw[am]at ac;rw[hh,kH];cases M with
   |@aG _ _ _ _ _ _ A cap ai aK h=>
    have J:((I.xs.drop G).take b).length=b:=c7;have ao:∀(i:Nat)(x:List O),((I.xs.drop G).take b)[i]?=some x->i<b/\I.xs[G+i]?=some x:=by
     intro i x aP;have U:i<b:=by have:=(_f.1 aP).1;rw[J]at this;exact this
     rw[_G U,_r]at aP;exact⟨U,aP⟩
    refine⟨A,b,cap,rfl,J,?_⟩;rcases(af.obj k I ac).two (fun ap=>by have:=ap.2.1;omega)with⟨aq,ae⟩|⟨aq,ar,au,av,aL,aw,aM,ax,ay⟩
    .refine GV u J (fun x aP=>?_) (fun i x j d aP q=>?_)
     .rw[ae]at aP;simp at aP
     rw[ae]at aP;simp at aP
    refine GV u J (fun x aP=>?_) (fun i x j d aP q=>?_)
    .rw[ax x (List.mem_of_mem_drop (List.mem_of_mem_take aP)),aa,ab]
    obtain⟨U,az⟩:=ao i x aP;rcases h with h|⟨aN,aA,_⟩
    .omega
    obtain⟨c,aC,aD⟩:=ay (G+i) x j d az q;refine⟨_,c,aA,?_,aD⟩;rw[addr_add,cell_of_row w _ _ ar au av (by rw[<-an];exact aw),<-aC];congr 1
    rw[aa,<-ab,_t];omega
  cases g
 .injection g with m Q C;subst m;have e:=cQ M;subst e;rename_i aE;exact⟨none,0,aE,rfl,rfl,GV u rfl (fun x aP=>k4) (fun i x j d aP=>k4)⟩
 cases g
def Nc(P:Program)(t:TypeId):Prop:=(∃e,P.underlying t=some (.slice e))\/P.underlying t=some .string
def LW(v:Value)(b:Nat):Prop:=(∃A c,v=.slice A b c)\/∃s:ByteArray,v=.string s/\s.size=b
theorem Iu{Γ:bw}{K:aO}{z:Nat->Option aR}{w:World}(J:Inv Γ K z w){sz:Nat}(M:0<sz){d:O}{v:Value}(C:aJ K w d v){ys:List (List O)}{G:List Nat}{p:Prop}(m:lO sz H d=.ok ys G p)(q:p)(Q:∀k∈G,z k=aB H k):
 ∃g,LW v g/\ys.length=g/\∃I:List Value,lR K w sz ys I.toArray/\∀bD:World,bD.heap=w.heap->(_m sz g v).run P bD=.ok I.toArray bD:=by
 unfold lO at m;split at m
 .rename_i s;injection m with U ab X;subst U;rw[<-X]at q;subst q;have Y:=cQ C;subst Y;refine⟨s.size,.inr ⟨s,rfl,rfl⟩,Fq,s.data.toList.map (fun b=>.int .u8 b.toNat),⟨Fq,fun x f=>?_,fun i x j d f bf=>?_⟩,fun bD _=>?_⟩
  .unfold kq at f;obtain⟨c,_,rfl⟩:=List.mem_map.1 f;rfl
  .unfold kq at f;rw[_1]at f;cases u:s.data.toList[i]? with
   |none=>rw[u]at f;cases f
   |some c=>
    rw[u]at f;obtain rfl:=_a f;cases j with
    |succ j=>simp at bf
    |zero=>
     simp at bf;refine⟨.int .u8 c.toNat,?_,If⟩;rw[Nat.mul_one,_o,_D,_1,u];rfl
  have f:s.extract 0 s.size=s:=by
   apply ByteArray.ext;rw[ByteArray.data_extract];exact Array.extract_size
  have Z:_m 1 s.size (.string s)=pure (s.data.map fun b=>.int .u8 b.toNat):=by
   show pure ((s.extract 0 s.size).data.map fun b=>Value.int .u8 b.toNat)=_;rw[f]
  have aa:(s.data.map fun b=>Value.int .u8 b.toNat)=(s.data.toList.map (fun b=>Value.int .u8 b.toNat)).toArray:=by
   apply _U;rw[Array.toList_map]
  rw[Z,aa];rfl
 obtain⟨A,g,c,rfl,h1,h2⟩:=zD (P:=P) J M C m q Q;exact⟨g,.inl ⟨A,c,rfl⟩,h1,h2⟩
theorem EN{w:World}{t g ty e:TypeId}{i:TypeInfo}{base:Option Addr}{sLen sCap m:Nat}{f:Value}{news:List Value}(j:P.underlying t=some (.slice e))(b:Nc P g)(aj:LW f m)(q:P.info? e=some i)
 (u:(_m i.size m f).run P w=.ok news.toArray w) (v:sLen+m<=sCap) :
 (_z #[t,g] ty #[.slice base sLen sCap,f]).run P w =
   (match base with
    |some a=>(storeCells (a.add (sLen*i.size)) news).run P w
    |none=>.ok () w).andThen fun _ x=>.ok (.slice base (sLen+m) sCap) x:=by
 rcases b with⟨z,b⟩|b<;>rcases aj with⟨A,c,rfl⟩|⟨s,rfl,rfl⟩<;>cases base<;>simp[_z,run_underlying j,run_underlying b,sizeOf,typeInfo,q,Builtin.lenOf,v,u]
theorem aaC{w:World}{t g ty e:TypeId}{i:TypeInfo}{j:Value}{base:Option Addr}{sLen sCap m:Nat}{f:Value}{q u:List Value}(v:P.underlying t=some (.slice e))(b:Nc P g)(aj:LW f m)(x:P.info? e=some i)(z:i.zero=some j)
 (C:∀bD:World,bD.heap=w.heap->(_m i.size m f).run P bD=.ok u.toArray bD) (I:∀bD:World,bD.heap=w.heap->(_m i.size sLen (.slice base sLen sCap)).run P bD=.ok q.toArray bD)
 (J:sCap<sLen+m) (M:sLen+m<=maxLen) (O:(sLen+m)*i.bytes<=140737488355328) :
 (_z #[t,g] ty #[.slice base sLen sCap,f]).run P w =
   .ok (.slice (some ⟨w.heap.size,0,none⟩) (sLen+m) (grownCap w (sLen+m) sCap e))
    (w.drew.alloc (.cells (q.toArray++u.toArray++_h j.cells (grownCap w (sLen+m) sCap e-(sLen+m))) e)):=by
 unfold maxLen at M;have Q:¬(sLen+m<=sCap):=G;have U:¬(9223372036854775807<((sLen:Int)+(m:Int))):=G;have Y:=growslice_fits J O;have X:¬(281474976710656<Builtin.nextslicecap (sLen+m) sCap*i.bytes):=G;have h1:=C w.drew rfl;have h2:=I w.drew rfl;have Z:∀n,(askRoom n:Sem Unit).run P w.drew=.ok () w.drew:=by
  intro n;unfold askRoom;split<;>rfl
 rcases b with⟨aa,b⟩|b<;>rcases aj with⟨A,c,rfl⟩|⟨s,rfl,rfl⟩<;>(simp[_z,run_underlying v,run_underlying b,sizeOf,typeInfo,zeroValue,x,z,Builtin.lenOf,Q,U,X,Question.forced,h1,h2,newRow,grownCap];congr 2;apply _U;simp[_2])
theorem grownCap_ge(w:World)(need cn:Nat)(e:TypeId):need<=grownCap w need cn e:=by exact Nat.le_add_right _ _
theorem Ve{K:aO}{w:World}{sz:Nat}{xs ys:List (List O)}{g m:Array Value}(h1:lR K w sz xs g)(h2:lR K w sz ys m):lR K w sz (xs++ys) (g++m):=by
 refine⟨by rw[Array.size_append,h1.1,h2.1,_N,_t],fun x b=>?_,fun i x j d b q=>?_⟩
 .rcases _H.1 b with h|h
  .exact h1.2.1 x h
  exact h2.2.1 x h
 by_cases u:i<xs.length
 .rw[_n u]at b;obtain⟨c,a_,f⟩:=h1.2.2 i x j d b q;exact⟨c,ZJ,f⟩
 rw[_l G]at b;obtain⟨c,a_,f⟩:=h2.2.2 (i-xs.length) x j d b q;refine⟨c,?_,f⟩;have v:xs.length*sz<=i*sz:=_e _ G;rw[Array.getElem?_append_right (by rw[h1.1];omega),h1.1,<-a_];congr 1
 rw[Nat.sub_mul];omega
def aO.ud(K:aO)(n:Nat):aO:=⟨fun b=>K.bG b\/b=n,K.real,K.aD,K.M⟩
def aO.qv(K:aO)(n b:Nat):aO:=⟨fun c=>K.bG c\/c=n,fun c=>K.real c\/c=n,fun c=>if c=n then b else K.aD c,K.M⟩
theorem y5(K:aO)(w:World)(n:Nat):dH K w (K.ud n) w:=⟨cN.refl _ _,fun _ h=>⟨h,rfl⟩,fun _ _ h=>h⟩
theorem QB{K:aO}(w:World){n:Nat}(b:Nat)(f:¬K.real n):dH K w (K.qv n b) w:=⟨cN.refl _ _,fun c h=>⟨.inl h,by
 show(if c=n then b else K.aD c)=K.aD c;rw[if_neg];rintro rfl;exact f h⟩,fun _ _ h=>h⟩
theorem EX{Γ:bw}{K:aO}{H:Nat->Option aR}{w:World}(aI:Inv Γ K H w){n sz k:Nat}(b:¬K.bG n)(c:Γ.g0<=n):Inv Γ (K.ud n) (fun j=>if j=k then some ⟨n,sz,[]⟩else H j) w:=by
 have bg:=y5 K w n;have Af:¬K.real n:=fun h=>b (aI.db _ h)
 have xN:∀j o,(if j=k then some (⟨n,sz,[]⟩:aR)else H j)=some o->(j=k/\o=⟨n,sz,[]⟩)\/H j=some o:=by
  intro j o bX;exact XS
 refine⟨aI.ext,⟨fun aq h=>?_,aI.base.cn,aI.base.keep,aI.base.M⟩,fun j o bX=>?_,fun eP e3 Jj mc h1 h2 aw aY bu=>?_,fun aq h=>.inl (aI.db aq h),aI.lt,fun j o bX=>?_,fun j o bX aT=>?_,aI.ga⟩
 .exact LS
 .exact aal
 .exact Qz
 .exact Zj
 exact Tf
theorem PH{Γ:bw}{K:aO}{H:Nat->Option aR}{w:World}(b:Inv Γ K H w)(k:Nat):Inv Γ K (fun j=>if j=k then none else H j) w:=by
 have aj:∀j o,(if j=k then none else H j)=some o->H j=some o:=by
  intro j o h;by_cases e:j=k
  .rw[if_pos e]at h;cases h
  rw[if_neg e]at h;exact h
 exact⟨b.ext,b.base,fun j o h=>b.obj j o (aj j o h),fun c f g m h1 h2=>b.inj c f g m (aj _ _ h1) (aj _ _ h2),b.db,b.lt,fun j o h=>b.dz j o (aj j o h),fun j o h=>b.own j o (aj j o h),b.ga⟩
theorem ak1{Γ:bw}{K:aO}{H:Nat->Option aR}{w:World}(aI:Inv Γ K H w){b:Nat}{o:aR}(X:H b=some o)(v:K.real o.n){n k:Nat}(ab:¬K.bG n)(ar:Γ.g0<=n):
 Inv Γ (K.qv n (K.aD o.n)) (fun j=>if j=k then some ⟨n,o.sz,o.xs⟩else if j=b then none else H j) w:=by
 have af:¬K.real n:=fun h=>ab (aI.db _ h)
 have ac:=QB (K:=K) w (K.aD o.n) af;have ae:∀aq,K.bG aq->aq≠n:=fun aq h e=>ab (e▸h)
 have m:∀aq,K.bG aq->(K.qv n (K.aD o.n)).aD aq=K.aD aq:=fun aq h=>if_neg (ae aq h)
 have u:∀aq,K.bG aq->(K.qv n (K.aD o.n)).real aq->K.real aq:=fun aq h q=>q.elim id (fun e=>absurd e (ae aq h))
 have z:∀j p,(if j=k then some (⟨n,o.sz,o.xs⟩:aR)else if j=b then none else H j)=some p->(j=k/\p=⟨n,o.sz,o.xs⟩)\/(j≠b/\H j=some p):=by
  intro j p h;by_cases e:j=k
  .rw[if_pos e]at h;exact .inl ⟨e,(_a h).symm⟩
  rw[if_neg e]at h;by_cases g:j=b
  .rw[if_pos g]at h;cases h
  rw[if_neg g]at h;exact .inr ⟨g,h⟩
 refine⟨aI.ext,⟨fun aq h=>?_,fun aq h aN=>?_,fun aq h=>?_,aI.base.M⟩,fun j p C=>?_,fun I J O Q h1 h2 aw aY f=>?_,fun aq h=>?_,fun aq h=>?_,fun j p C=>?_,fun j p C ag=>?_,aI.ga⟩
 .exact LS
 .exact S6
 .obtain⟨h1,h2⟩:=aI.base.keep aq h;exact⟨.inl h1,(m aq (aI.db _ h1)).trans h2⟩
 .rcases z j p C with⟨_,rfl⟩|⟨_,h⟩
  .rcases aI.obj b o X with⟨q,_⟩|⟨_,ah,t,ai,aj,U,Y,Z,ak⟩|⟨_,U,al,am,Y,Z⟩
   .exact absurd v q
   rotate_left
   .refine .inr (.inr ⟨.inr rfl,U,al,am,?_,Z⟩);show w.heap[if n=n then K.aD o.n else K.aD n]?=_;rw[if_pos rfl];exact Y
   refine .inr (.inl ⟨.inr rfl,ah,t,ai,aj,?_,Y,Z,fun i x j d an ao=>?_⟩)
   .show w.heap[if n=n then K.aD o.n else K.aD n]?=_;rw[if_pos rfl];exact U
   obtain⟨c,aa,g⟩:=ak i x j d an ao;exact⟨c,aa,g.mono ac⟩
  exact(aI.obj j p h).mono ac (fun ap U=>ap (u _ (aI.dz j p h) U)) (fun _=>rfl)
 .rcases z I O h1 with⟨aa,rfl⟩|⟨bW,h1⟩<;>rcases z J Q h2 with⟨g,rfl⟩|⟨dq,h2⟩
  .rw[aa,g]
  .have d2:=aI.dz J Q h2;rw[m _ d2]at f;simp only[aO.qv,if_true]at f;exact absurd (aI.inj b J o Q X h2 v (u _ d2 aY) f) (fun e=>dq e.symm)
  .have d1:=aI.dz I O h1;rw[m _ d1]at f;simp only[aO.qv,if_true]at f;exact absurd (aI.inj b I o O X h1 v (u _ d1 aw) f.symm) (fun e=>bW e.symm)
  have d1:=aI.dz I O h1;have d2:=aI.dz J Q h2;rw[m _ d1,m _ d2]at f;exact aI.inj I J O Q h1 h2 (u _ d1 aw) (u _ d2 aY) f
 .exact h.elim (fun h=>.inl (aI.db aq h)) .inr
 .show(if aq=n then K.aD o.n else K.aD aq)<_;by_cases e:aq=n
  .rw[if_pos e];exact aI.lt _ v
  rw[if_neg e];exact aI.lt aq (h.resolve_right e)
 .rcases z j p C with⟨_,rfl⟩|⟨_,h⟩
  .exact .inr rfl
  exact .inl (aI.dz j p h)
 rcases z j p C with⟨_,rfl⟩|⟨_,h⟩
 .simp only[aO.qv,if_true];exact aI.own b o X v
 rw[m _ (aI.dz j p h)];exact aI.own j p h (u _ (aI.dz j p h) ag)
theorem Q2{Γ:bw}{K:aO}{H:Nat->Option aR}{w:World}(b:Inv Γ K H w){gen sz k need cap:Nat}(z:¬K.bG gen)(I:Γ.g0<=gen)(J:0<sz){xs:List (List O)}{f:Array Value}{m:Value}{e:TypeId}(q:lR K w sz xs f)(M:m.cells.size=sz)(C:xs.length=need)(G:need<=cap):
 dH K w (K.add gen w.heap.size) (w.drew.alloc (.cells (f++_h m.cells (cap-need)) e))/\Inv Γ (K.add gen w.heap.size) (fun j=>if j=k then some ⟨gen,sz,xs⟩else H j) (w.drew.alloc (.cells (f++_h m.cells (cap-need)) e))/\
  aJ (K.add gen w.heap.size) (w.drew.alloc (.cells (f++_h m.cells (cap-need)) e)) (.aG k gen sz 0 need false) (.slice (some ⟨w.heap.size,0,none⟩) need cap):=by
 have u:dH K w K w.drew:=⟨cN.sX rfl rfl rfl rfl,fun n h=>⟨h,rfl⟩,fun g _ h=>h⟩;have Q:Inv Γ K H w.drew:=⟨b.ext.trans (cN.sX rfl rfl rfl rfl),b.base,fun k o h=>(b.obj k o h).mono u id (fun _=>rfl),b.inj,b.db,b.lt,b.dz,b.own,b.ga⟩;have v:(f++_h m.cells (cap-need)).size=cap*sz:=by
  rw[Array.size_append,q.1,C];simp only[_h,Array.size_map,Array.size_range,M];rw[<-_t];congr 1
  omega
 have Z:w.drew.heap.size=w.heap.size:=rfl;refine⟨u.trans (qG _ (fun h=>z (b.db _ h))),?_,?_⟩
 .refine CG (w:=w.drew) Q z I J ?_ q.2.1 (fun i x j d U X=>?_)
  .rw[v,C];exact _e _ G
  obtain⟨c,a_,Y⟩:=q.2.2 i x j d U X;exact⟨c,ZJ,Y.mono u⟩
 refine .aG G (fun h=>ha) (.inr ⟨.inr rfl,?_,f++_h m.cells (cap-need),e,(0,0),?_,?_,fun _=>?_⟩)
 .simp[aO.add]
 .exact ML
 .rw[v];simp
 rw[v];simp
structure tD (P:Program) (o:Oper) (sz bytes:Nat) (p q:Operand) (c:Call) (t b e:TypeId) (i:TypeInfo) (z:Value):Prop where
 op:o.op=.call c
 callee:c.callee=.builtin .append
 args:c.args = #[p,q]
 types:c.argTypes = #[t,b]
 dC:P.underlying t=some (.slice e)
 xy:Nc P b
 info:P.info? e=some i
 size:i.size=sz
 byte:i.bytes=bytes
 zero:i.zero=some z
 Yp:z.cells.size=sz
 pos:0<sz
theorem vA{a:Act}{w:World}{sz bytes:Nat}{p q:Operand}{c:Call}{t b e:TypeId}{i:TypeInfo}{g:Value}(h:tD P o sz bytes p q c t b e i g){r:Value}{f:World}(j:(_z #[t,b] o.type #[a.eval p,a.eval q]).run P w=.ok r f):(execOp a.eval o).run P w=.ok (.value r) f:=by simp[execOp,h.op,resolve,h.callee,h.args,h.types,invoke,builtin,j]
theorem aly{k sz bytes:Nat}{x y:a7}{p q:Operand}{c:Call}{t X e:TypeId}{i:TypeInfo}{ar:Value}(b5:tD P o sz bytes p q c t X e i ar)(h1:ba p x=true)(h2:ba q y=true)
 {ys xs:List (List O)} {Y Z:List Nat} {aa ab:Prop} (au:lO sz H (aW tm y)=.ok ys Y aa) (av:aa) (ax:kD sz H (aW tm x)=.ok xs Z ab) (ay:ab) (az:∀(K:aO)(w:World)(A:Option Addr)(aq ac:Nat),aJ K w (aW tm x) (.slice A aq ac)->ac=aq)
 (aA:(0<ys.length\/xs.length=0)/\eW xs=true/\eW ys=true/\cx (xs.length+ys.length) bytes) :
 bh P o (x.reads++y.reads) tm H gen (.aG k gen sz 0 (xs.length+ys.length) false) (k::s8 Z Y) [(k,some ⟨gen,sz,xs++ys⟩)] 1:=by
 have ae:∀(a b:List Nat)(j:Nat),j∈a\/j∈b->j∈s8 a b:=by
  intro a;induction a with
  |nil=>
   intro b j h;rcases h with h|h
   .simp at h
   exact h
  |cons aN v af=>
   intro b j h;simp only[s8,List.mem_cons]at h⊢;rcases h with(h|h)|h
   .exact .inl h
   .exact .inr (af b j (.inl h))
   exact .inr (af b j (.inr h))
 intro Γ K aP a w aQ next u ag ah aB ai aj;have ak:¬K.bG gen:=aB gen (_s _) G;have aw:=bL (c8 ah) h1;have aY:=bL (cq ah) h2;obtain⟨g,aC,f,z,C,aR,aD,f1⟩:=zD (P:=P) u b5.pos aw ax ay (fun j M=>ag j (_A _ (ae _ _ j (.inl M))));obtain⟨m,al,I,aE,am,f2⟩:=Iu (P:=P) u b5.pos aY au av (fun j M=>ag j (_A _ (ae _ _ j (.inr M))));rw[z]at aw f1;have aF:=az K w g aC f aw;subst aF;obtain⟨g1,aS,aT,an,ao⟩:=aA;rw[C,I]at an ao;by_cases bg:0<m
 .have J:=aaC (P:=P) (ty:=o.type) (base:=g) (sLen:=f) (sCap:=f) (m:=m) b5.dC b5.xy al b5.info b5.zero (fun bD Q=>by rw[b5.size];exact f2 bD Q) (fun bD Q=>by rw[b5.size];exact f1 bD Q) G an (by rw[b5.byte];exact ao);rw[<-z]at J;have U:=Q2 (k:=k) (e:=e) u ak ai b5.pos (Ve aD am) b5.Yp (need:=f+m) (by simp[C,I]) (grownCap_ge w (f+m) f e);refine jQ (vA b5 J) (aj _ _ _ U.1 ?_ ?_ ?_)
  .rw[mr];exact U.2.1
  .rw[C,I];exact U.2.2
  exact oN
 have aH:m=0:=G;subst aH;have aI:xs=[]:=by
  rcases g1 with g1|g1
  .omega
  exact _v g1
 subst aI;have aK:f=0:=by simpa using C.symm
 subst aK;have aL:ys=[]:=_v I;subst aL;have aM:aE=[]:=by have:=am.1;simp at this;exact this
 subst aM;have J:=EN (P:=P) (ty:=o.type) (base:=g) (sLen:=0) (sCap:=0) (m:=0) (w:=w) (news:=[]) b5.dC b5.xy al b5.info ET G;have ap:(_z #[t,X] o.type #[.slice g 0 0,a.eval q]).run P w=.ok (.slice g 0 0) w:=by
  rw[J];cases g<;>rfl
 rw[<-z]at ap;refine jQ (vA b5 ap) (aj (K.ud gen) w _ (y5 K w gen) ?_ ?_ ?_)
 .rw[mr];exact EX u ak ai
 .rw[z];exact .aG (_s _) (fun h=>ha) (.inl rfl)
 exact oN
theorem ae9{k sz bytes:Nat}{x y:a7}{p q:Operand}{c:Call}{t j e:TypeId}{i:TypeInfo}{U:Value}(b5:tD P o sz bytes p q c t j e i U)(h1:ba p x=true)(h2:ba q y=true)
 {ys:List (List O)} {m:List Nat} {u:Prop} (X:lO sz H (aW tm y)=.ok ys m u) (Y:u) (Z:∀(K:aO)(w:World)(v:Value),aJ K w (aW tm x) v->∃A z C,v=.slice A z C/\z<=C) (I:ys.length=0) :
 bh P o (x.reads++y.reads) tm H gen (aW tm x) m [] 0:=by
 refine bh.read fun Γ K aj a w aa ab J=>?_
 have aw:=bL (c8 J) h1;have aY:=bL (cq J) h2;obtain⟨ak,ac,M,ae,af,f2⟩:=Iu (P:=P) aa b5.pos aY X Y ab;rw[I]at M;subst M;have ag:ae=[]:=by have:=af.1;rw[I]at this;simp at this;exact this
 subst ag;obtain⟨b,f,g,ah,al⟩:=Z K w _ aw;have ai:=EN (P:=P) (ty:=o.type) (base:=b) (sLen:=f) (sCap:=g) (m:=0) (w:=w) (news:=[]) b5.dC b5.xy ac b5.info ET G;have Q:(_z #[t,j] o.type #[.slice b f g,a.eval q]).run P w=.ok (.slice b f g) w:=by
  rw[ai];cases b<;>rfl
 rw[<-ah]at Q;exact⟨_,vA b5 Q,aw⟩
theorem NH{k g n sz f aS len bytes:Nat}{x y:a7}{p q:Operand}{c:Call}{t aT e:TypeId}{i:TypeInfo}{bm:Value}(b5:tD P o sz bytes p q c t aT e i bm)(h1:ba p x=true)(h2:ba q y=true){b:aR}
 {ys:List (List O)} {aU:List Nat} {aV:Prop} (bn:lO sz H (aW tm y)=.ok ys aU aV) (bo:aV) (bp:∀(K:aO)(w:World)(v:Value),aJ K w (aW tm x) v->aJ K w (.aG g n f aS len false) v) (D:O) (aX:aB H g=some b) (hid:b.n=n/\b.sz=f/\f=sz/\aS=0/\len=b.xs.length)
 (bq:eW ys=true/\cx (b.xs.length+ys.length) bytes)
 (ec:∀(K ak:aO)(w al:World)(A aZ:Option Addr)(aq a0 a1 aA:Nat),aJ K w (aW tm x) (.slice A aq a1)->aJ ak al (.aG k gen sz 0 (b.xs.length+ys.length) false) (.slice aZ a0 aA)->(aA=0\/(∃X ax,al.heap[ak.aD gen]?=some (.cells X e ax))\/(¬a1=0/\∃Y,(∃X ax,w.heap[K.aD n]?=some (.cells X Y ax))/\∃X ax,al.heap[ak.aD gen]?=some (.cells X Y ax)))->aJ ak al D (.slice aZ a0 aA)) :
 bh P o (x.reads++y.reads) tm H gen D (g::k::aU) [(g,none),(k,some ⟨gen,sz,b.xs++ys⟩)] 1:=by
 obtain⟨ab,J,br,rfl,bs⟩:=hid;subst br bs;obtain⟨bt,a2,a3⟩:=bq;intro Γ K ac a w bS next M aC a4 bu aE aH;have am:¬K.bG gen:=bu gen (_s _) G;have aw:=bL (c8 a4) h1;have aY:=bL (cq a4) h2;have an:=aw;replace aw:=bp K w _ aw;obtain⟨C,a5,I,m,Z,f2⟩:=Iu (P:=P) M b5.pos aY bn bo (fun j ao=>aC j (_A _ (_A _ ao)));have aI:=aC g aF;rw[aX]at aI;have bv:kD f H (.aG g n f 0 b.xs.length false)=.ok (cp (cC b.xs 0) b.xs.length) [g] (b.n=n/\b.sz=f/\f=f/\0+b.xs.length<=b.xs.length):=by simp only[kD,aX,xw]
 obtain⟨ae,bT,af,z,a6,bU,a8,f1⟩:=zD (P:=P) M b5.pos aw bv ⟨ab,J,rfl,G⟩ (fun j ao=>by simp at ao;rw[ao];exact aC g aF);have bw:cp (cC b.xs 0) b.xs.length=b.xs:=Ki;rw[bw]at a8 a6;rw[z]at aw f1 an;subst a6;rw[I]at a2 a3;have aK:∀e:aR,gT ac [(g,none),(k,some e)]=fun j=>if j=k then some e else(if j=g then none else ac j):=fun e=>rfl
 have a9:(b.xs++ys).length=b.xs.length+C:=by simp[I]
 by_cases ap:b.xs.length+C<=af
 .have Q:=EN (P:=P) (ty:=o.type) (base:=ae) (sLen:=b.xs.length) (sCap:=af) (m:=C) (w:=w) (news:=m) b5.dC b5.xy a5 b5.info ET ap;cases aw with
  |aG bx bV h=>
   by_cases aL:af=0
   .
    subst aL;have bz:C=0:=G;have bA:b.xs=[]:=_v G;subst bz;have bB:ys=[]:=_v I;subst bB;have bC:m=[]:=by have:=Z.1;simp at this;exact this
    subst bC;have bb:(_z #[t,aT] o.type #[.slice ae b.xs.length 0,a.eval q]).run P w=.ok (.slice ae b.xs.length 0) w:=by
     rw[Q];cases ae<;>rfl
    rw[<-z]at bb;refine jQ (vA b5 bb) (aH (K.ud gen) w _ (y5 K w gen) ?_ ?_ ?_)
    .rw[aK,bA];exact EX (PH M g) am aE
    .rw[z];exact ec _ _ _ _ _ _ _ _ _ _ an (.aG (by simpa using bx) (fun h=>ha) (.inl rfl)) (.inl rfl)
    exact oN
   rcases h with h|⟨bc,bE,u,Y,ar,au,bW,bF⟩
   .exact absurd h aL
   subst bE;rw[<-ab]at bc au;rcases(M.obj g b aI).two (fun bg=>bg.out au)with⟨av,_⟩|⟨av,X,bX,bY,bd,z_,bZ,be,bH⟩
   .exact absurd bc av
   rw[z_]at au;obtain⟨rfl,rfl,rfl⟩:=au;have ag:=bF rfl;rw[_q]at ag;have bI:m.length=C*f:=by have:=Z.1;rw[I]at this;simpa using this
   have bf:b.xs.length*f+m.length<=u.size:=by
    rw[bI,<-ag,<-_t];exact _e _ ap
   have bJ:∀v∈m,v.oneCell'=true:=fun v eX=>MJ b5.pos Z bt v xJ
   have bi:=BI P (K.aD b.n) (b.xs.length*f) Y ar m 0 u w z_ bd.1 (by simpa using bf) bJ;simp only[_o]at bi;have bK:(storeCells ((⟨K.aD n,0*f,none⟩:Addr).add (b.xs.length*i.size)) m).run P w=.ok () (w.setRow (K.aD b.n) (u.toList.take (b.xs.length*f)++m++u.toList.drop (b.xs.length*f+m.length)).toArray):=by
    rw[addr_add,b5.size,_B,_q,<-ab];exact bi
   simp only[bK,_c]at Q;rw[<-z]at Q;have aM:(u.toList.take (b.xs.length*f)++m++u.toList.drop (b.xs.length*f+m.length)).toArray.size=u.size:=by exact aaG
   have bj:=Fk M aI av bd z_ aM (xs:=b.xs++ys) (by rw[a9,J,<-ag];exact _e _ ap) (fun aa U=>by
    rcases _H.1 U with h|h
    .exact be aa h
    .rw[J];exact Z.2.1 aa h) (fun ah aa aN bk U aP=>by
    rw[LM bf];by_cases bl:ah<b.xs.length
    .rw[_n bl]at U;have bM:aN<b.sz:=by rw[<-be aa (_k U)];exact(_f.1 aP).1
     have ay:(ah+1)*f<=b.xs.length*f:=_e _ bl;rw[_t,_Y]at ay;rw[if_neg (by rw[J]at bM ⊢;omega)];exact bH ah aa aN bk U aP
    rw[_l G]at U;obtain⟨bO,az,bP⟩:=Z.2.2 (ah-b.xs.length) aa aN bk U aP;have b0:b.xs.length*f<=ah*f:=_e _ G;have ay:=(Array.getElem?_eq_some_iff.1 az).1;simp only[_P]at ay;rw[Nat.sub_mul]at ay az;rw[if_pos (by rw[J];omega)];refine⟨bO,?_,bP⟩;rw[_D]at az;rw[<-az];congr 1
    rw[J];omega)
   have ai:(fun j=>if j=g then some (⟨b.n,b.sz,b.xs++ys⟩:aR)else ac j) g=some ⟨b.n,b.sz,b.xs++ys⟩:=if_pos rfl;have bQ:=ak1 (k:=k) bj.2 ai av am aE;have bR:¬K.real gen:=fun h=>am (M.db _ h)
   refine jQ (vA b5 Q) (aH (K.qv gen (K.aD b.n)) _ _ (bj.1.trans (QB _ _ bR)) ?_ ?_ ?_)
   .rw[aK];have:(fun j=>if j=k then some (⟨gen,b.sz,b.xs++ys⟩:aR)else if j=g then none else if j=g then some ⟨b.n,b.sz,b.xs++ys⟩else ac j)=(fun j=>if j=k then some (⟨gen,f,b.xs++ys⟩:aR)else if j=g then none else ac j):=by
     funext j;rw[J];by_cases z:j=k
     .rw[if_pos z,if_pos z]
     rw[if_neg z,if_neg z];by_cases aj:j=g
     .rw[if_pos aj,if_pos aj]
     rw[if_neg aj,if_neg aj,if_neg aj]
    rw[<-this];exact bQ
   .rw[<-I];refine ec _ _ _ _ _ _ _ _ _ _ an ?_ (.inr (.inr ⟨aL,Y,⟨u,ar,by rw[<-ab];exact z_⟩,⟨(u.toList.take (b.xs.length*f)++m++u.toList.drop (b.xs.length*f+m.length)).toArray,ar,by
     exact Q4⟩⟩))
    rw[I];refine .aG ap (fun h=>ha) (.inr ⟨.inr rfl,?_,(u.toList.take (b.xs.length*f)++m++u.toList.drop (b.xs.length*f+m.length)).toArray,Y,ar,?_,?_,fun _=>?_⟩)
    .simp only[aO.qv,if_true,ab]
    .exact Q4
    .rw[aM,_q,ag];exact hT
    rw[aM,_q,ag]
   exact oN
 have Q:=aaC (P:=P) (ty:=o.type) (base:=ae) (sLen:=b.xs.length) (sCap:=af) (m:=C) b5.dC b5.xy a5 b5.info b5.zero (fun bD ai=>by rw[b5.size];exact f2 bD ai) (fun bD ai=>by rw[b5.size];exact f1 bD ai) G a2 (by rw[b5.byte];exact a3);rw[<-z]at Q;have aQ:=Q2 (k:=k) (e:=e) (PH M g) am aE b5.pos (Ve a8 Z) b5.Yp (need:=b.xs.length+C) a9 (grownCap_ge w (b.xs.length+C) af e);refine jQ (vA b5 Q) (aH _ _ _ aQ.1 ?_ ?_ ?_)
 .rw[aK];exact aQ.2.1
 .rw[<-I];refine ec _ _ _ _ _ _ _ _ _ _ an (by rw[I];exact aQ.2.2) (.inr (.inl ⟨_,_,by
   exact ML⟩))
 exact oN
theorem ahc{k f n sz g j len bytes:Nat}{x y:a7}{p q:Operand}{c:Call}{t z e:TypeId}{i:TypeInfo}{C:Value}(G:tD P o sz bytes p q c t z e i C)(h1:ba p x=true)(h2:ba q y=true){b:aR}
 {ys:List (List O)} {m:List Nat} {u:Prop} (I:lO sz H (aW tm y)=.ok ys m u) (J:u) (M:aW tm x=.aG f n g j len false) (Q:aB H f=some b) (hid:b.n=n/\b.sz=g/\g=sz/\j=0/\len=b.xs.length)
 (U:eW ys=true/\cx (b.xs.length+ys.length) bytes) :
 bh P o (x.reads++y.reads) tm H gen (.aG k gen sz 0 (b.xs.length+ys.length) false) (f::k::m) [(f,none),(k,some ⟨gen,sz,b.xs++ys⟩)] 1:=
 NH G h1 h2 I J (fun K w v h=>by rw[M]at h;exact h) _ Q hid U (fun K X w Y A Z aa ab ac ae _ h _=>h)
theorem ajQ{K:aO}{w:World}{k n len:Nat}{T:TypeId}{v:Value}(h:aJ K w (.eZ k n len T) v):aJ K w (.aG k n 1 0 len false) v:=by
 cases h with
 |eZ b h=>
  refine .aG b (fun h=>ha) ?_;rcases h with h|⟨c,f,g,ax,j,m⟩
  .exact .inl h
  exact .inr ⟨c,by rw[_B];exact f,g,T,ax,j,G,fun _=>G⟩
theorem RG{k bytes:Nat}{x y:a7}{p q:Operand}{c:Call}{t aa e:TypeId}{i:TypeInfo}{ab:Value}(ac:tD P o 1 bytes p q c t aa e i ab)(h1:ba p x=true)(h2:ba q y=true):
 (AF k bytes e gen H (aW tm x) (lO 1 H (aW tm y))).all (fun d t wr g=>bh P o (x.reads++y.reads) tm H gen d t wr g) (fun _ _=>False):=by
 cases ae:lO 1 H (aW tm y)with
 |bad=>exact trivial
 |ok ys aq ar=>
  intro af;split
  .rename_i ag n len z C;rintro rfl;cases ah:aB H ag with
   |none=>exact trivial
   |some ai=>
    intro hid aj;refine NH ac h1 h2 ae af (fun K w v h=>by rw[C]at h;exact ajQ h) (.eZ k gen (ai.xs.length+ys.length) z) ah ⟨hid.1,hid.2.1,rfl,rfl,hid.2.2⟩ aj (fun K m w I A ak au av aw J f h j=>?_);rw[C]at f;cases h with
    |aG al ay h=>
     refine .eZ al ?_;rcases h with h|⟨am,M,b,t0,ax,O,az,Q⟩
     .exact .inl h
     have Q:=Q rfl;have U:∀u:TypeId,u=z->(∃b ax,I.heap[m.aD gen]?=some (.cells b u ax))->J=0\/(m.real gen/\ak=some ⟨m.aD gen,0,none⟩/\∃b ax,I.heap[m.aD gen]?=some (.cells b z ax)/\J=b.size):=fun u an ⟨X,Y,h1⟩=>by
      rw[O]at h1;obtain⟨rfl,rfl,rfl⟩:b=X/\t0=u/\ax=Y:=by
       have:=_a h1;exact⟨vI,vI,vI⟩
      exact .inr ⟨am,by rw[_B]at M;exact M,b,ax,by rw[O,an],G⟩
     rcases j with j|j|⟨ao,ap,⟨X,Y,h1⟩,h2⟩
     .exact .inl j
     .exact U _ rfl j
     cases f with
     |eZ _ f=>
      rcases f with f|⟨_,_,aA,aC,Z,_⟩
      .exact absurd f ao
      rw[h1]at Z;have:=_a Z;exact U ap vI h2
  exact trivial
theorem Ze{k sz bytes:Nat}{x y:a7}{p q:Operand}{c:Call}{t J e:TypeId}{i:TypeInfo}{M:Value}(z:tD P o sz bytes p q c t J e i M)(h1:ba p x=true)(h2:ba q y=true):
 (CK k sz bytes gen H (aW tm x) (lO sz H (aW tm y))).all (fun d t wr g=>bh P o (x.reads++y.reads) tm H gen d t wr g) (fun _ _=>False):=by
 cases C:lO sz H (aW tm y)with
 |bad=>exact trivial
 |ok ys ae af=>
  intro G;split
  .rename_i O n ag ah len j;cases Q:aB H O with
   |none=>exact trivial
   |some ai=>exact fun hid m=>ahc z h1 h2 C G j Q hid m
  all_goals first
   |exact trivial
   |(rename_i j
     unfold uC;split
     .rename_i xs ak al U;intro X;refine⟨fun m=>aly z h1 h2 C G (by rw[j];exact U) X (fun K w A am an b=>?_) m,fun Y=>?_⟩
      .rw[j]at b;first|(cases b with|aG u I h=>exact I rfl)|(cases b with|snap f hl u m aj Z aa h=>exact m rfl)|(have:=cQ b;injection this with ao ab ac;rw[ab,ac])
      rw[<-j];refine ae9 (k:=k) z h1 h2 C G (fun K w v b=>?_) Y;rw[j]at b;first|(cases b with|aG u I h=>exact⟨_,_,_,rfl,u⟩)|(cases b with|snap f hl u m aj Z aa h=>exact⟨_,_,_,rfl,u⟩)|exact⟨none,0,0,cQ b,_s _⟩
     exact trivial)
end
def dS(K:aO)(w:World)(b:List O)(c:Array Value):Prop:=c.size=b.length/\∀(i:Nat)(d:O)(v:Value),b[i]?=some d->c[i]?=some v->aJ K w d v
def nm(P:Program)(o:Oper)(rs:List bK)(tm:bQ)(f:FuncId)(c:List O):Prop:=
 k6 P f=true->∀(K:aO)(a:Act)(w:World),(∀s∈rs,aJ K w (tm.get s) (a.tmps.getD s.nat undef))->∃b,(execOp a.eval o).run P w=.ok (.enter f b) w/\dS K w c b
section
variable {P:Program} {o:Oper} {tm:bQ} {H:aV} {gen:Nat}
theorem ya{K:aO}{a:Act}{w:World}:∀ {xs:List Operand} {ys:List a7},l2 xs ys=true->(∀s∈ys.flatMap a7.reads,aJ K w (tm.get s) (a.tmps.getD s.nat undef))->dS K w (jH tm ys) (xs.map a.eval).toArray
 |[],[],_,_=>⟨rfl,fun i d v h=>by simp[jH]at h⟩
 |[],_::_,h,_=>by simp[l2]at h
 |_::_,[],h,_=>by simp[l2]at h
 |x::xs,y::ys,h,c=>by
  simp only[l2,_x]at h;obtain⟨f,g⟩:=ya (K:=K) (a:=a) (w:=w) h.2 (fun s aj=>c s (by
   exact IK))
  have j:aJ K w (aW tm y) (a.eval x):=bL (fun s aj=>c s (_6.2 ⟨_,_M,aj⟩)) h.1;refine⟨by simp[jH]at f⊢;exact f,fun i d v b eX=>?_⟩;cases i with
  |zero=>
   simp[jH]at b eX;rw[<-b,<-eX];exact j
  |succ i=>
   simp only[jH,_I]at b;exact g i d v b xJ
theorem aaR {f:FuncId} (h:k6 P f=true):∃fn c,P.funcs[f]?=some fn/\fn.body=some c/\¬fn.name = "runtime.NumGoroutine":=by
 unfold k6 at h;split at h
 .rename_i fn b;simp only[_x,Bool.not_eq_true',beq_eq_false_iff_ne]at h;obtain⟨c,g⟩:=_O.1 h.1;exact⟨fn,c,b,g,h.2⟩
 cases h
theorem Dz(c:Array Operand)(a:Act):c.map a.eval=(c.toList.map a.eval).toArray:=by apply _U;simp
theorem ald{f g:FuncId}{b:List a7}{c:Call}(j:o.op=.call c)(m:c.callee=.value (.func g))(q:f=g)(u:l2 c.args.toList b=true):
 nm P o (b.flatMap a7.reads) tm f (jH tm b):=by
 intro v K a w x;subst q;obtain⟨fn,I,z,C,G⟩:=aaR v;refine⟨(c.args.toList.map a.eval).toArray,?_,ya u x⟩;simp[execOp,j,resolve,m,Act.eval,Deferred.ofValue,invoke,callFunc,z,G,C,Dz]
theorem Q_:∀(a b:List O),vK a b=a++b
 |[],b=>rfl
 |x::r,b=>by simp[vK,Q_ r b]
theorem adD{K:aO}{w:World}{f g:List O}{j m:Array Value}(h1:dS K w f j)(h2:dS K w g m):dS K w (f++g) (j++m):=by
 refine⟨by simp[h1.1,h2.1],fun i d v b c=>?_⟩;by_cases q:i<f.length
 .rw[_n q]at b;rw[Array.getElem?_append_left (by rw[h1.1];exact q)]at c;exact h1.2 i d v b c
 rw[_l G]at b;rw[Array.getElem?_append_right (by rw[h1.1];omega),h1.1]at c;exact h2.2 _ d v b c
theorem alk{x:a7}{b:List a7}{c:Call}{y:Operand}(m:o.op=.call c)(q:c.callee=.value y)(h1:ba y x=true)(u:l2 c.args.toList b=true):
 (xd (jH tm b) (aW tm x)).all (fun d t wr g=>bh P o (x.reads++b.flatMap a7.reads) tm H gen d t wr g) (fun f v=>nm P o (x.reads++b.flatMap a7.reads) tm f v):=by
 unfold xd;split
 .rename_i g Z z;intro C K a w j;obtain⟨fn,aa,G,I,J⟩:=aaR C;have aw:=bL (c8 j) h1;rw[z]at aw;generalize M:a.eval y=ab at aw;cases aw with
  |@fn _ _ _ O Q bp U ac X=>
   have Y:O = #[]:=Array.eq_empty_of_size_eq_zero FY;subst Y;refine⟨(c.args.toList.map a.eval).toArray++Q,?_,?_⟩
   .simp[execOp,m,resolve,q,M,Deferred.ofValue,invoke,callFunc,G,J,I,Dz]
   rw[Q_];exact adD (ya u (cq j)) ⟨U,X⟩
 exact trivial
theorem aeJ{f g:FuncId}{first b:List a7}{c j:Array Operand}(v:o.op=.makeFunc (.func g) c j)(x:f=g)(h1:l2 c.toList first=true)(h2:l2 j.toList b=true):
 bh P o (first.flatMap a7.reads++b.flatMap a7.reads) tm H gen (.fn (.func f) (jH tm first) (jH tm b)) [] [] 0:=by
 subst x;refine bh.pure fun K a w u=>⟨.func (.func f) (c.map a.eval) (j.map a.eval),by simp[execOp,v,Instr.makeFunc],?_⟩
 have m:=ya (K:=K) (a:=a) (w:=w) h1 (c8 u);have q:=ya (K:=K) (a:=a) (w:=w) h2 (cq u);rw[<-Dz]at m q;exact .fn m.1 q.1 m.2 q.2
theorem kz{w:World}{k:IntKind}{i:Int}{y:Nat}{c:BoundsCode}(h1:0<=i)(h2:i<=y):(Instr.sliceBound (.int k i) y c).run P w=.ok i.toNat w:=by
 simp only[Instr.sliceBound,asIntOf,_g,_j,_c];rw[if_pos ⟨h1,h2⟩];rfl
def s5(v:Option Value)(a d:Int):Prop:=(v=none/\a=d)\/∃k,v=some (.int k a)
theorem G6{w:World}{c f:Option Value}{a b:Int}{len cap:Nat}(g:s5 c a 0)(j:s5 f b len)(m:0<=a)(h1:a<=b)(h2:b<=len)(q:len<=cap):
 (_i true len cap c f none).run P w=.ok (a.toNat,b.toNat,cap) w:=by
 rcases g with⟨rfl,rfl⟩|⟨eP,rfl⟩<;>rcases j with⟨rfl,rfl⟩|⟨e3,rfl⟩
 .simp[_i]
 .exact ZV
 .exact HZ
 exact XM
theorem Lq{w:World}{f c:Option Value}{a b:Int}{k3:IntKind}{len cap:Nat}(j:s5 f a 0)(m:s5 c b len)(aj:c.isSome=true)(u:0<=a)(h1:a<=b)(h2:b<=len)(v:len<=cap):
 (_i true len cap f c (some (.int k3 b))).run P w=.ok (a.toNat,b.toNat,b.toNat) w:=by
 rcases j with⟨rfl,rfl⟩|⟨q,rfl⟩<;>rcases m with⟨rfl,rfl⟩|⟨g,rfl⟩
 .cases aj
 .simp[_i,kz (P:=P) (w:=w) (k:=k3) (i:=b) (y:=cap) G G,kz (P:=P) (w:=w) (k:=g) (i:=b) (y:=b.toNat) G G]
 .cases aj
 simp[_i,kz (P:=P) (w:=w) (k:=k3) (i:=b) (y:=cap) G G,kz (P:=P) (w:=w) (k:=g) (i:=b) (y:=b.toNat) G G,kz (P:=P) (w:=w) (k:=q) (i:=a) (y:=b.toNat) G G]
theorem jh{K:aO}{w:World}{a:Act}{l:Option Operand}{x:Option a7}{c d:Int}(h:iC l x=true)(f:∀s∈kb x,aJ K w (tm.get s) (a.tmps.getD s.nat undef))(b:iW (gY tm x) d=some c):s5 (l.map a.eval) c d:=by
 cases l with
 |none=>
  cases x with
  |none=>simp[gY,iW]at b;exact .inl ⟨rfl,b.symm⟩
  |some x=>simp[iC]at h
 |some l=>
  cases x with
  |none=>simp[iC]at h
  |some x=>
   have r:=bL (K:=K) (w:=w) (a:=a) f h;simp only[gY]at b;unfold iW at b;split at b
   .rename_i e;cases e
   .rename_i k g e;rw[_a e]at r;obtain rfl:=_a b;exact .inr ⟨k,by rw[_S,cQ r]⟩
   cases b
theorem Eo{a:Act}{l:Option Operand}{x:Option a7}(h:iC l x=true)(aj:tz (gY tm x)=true):(l.map a.eval).isSome=true:=by
 cases l with
 |none=>cases x with
  |none=>cases aj
  |some x=>cases h
 |some l=>rfl
theorem AH{a:Act}{l:Option Operand}{x:Option a7}(h:iC l x=true)(aj:gY tm x=none):l.map a.eval=none:=by
 cases l with
 |none=>rfl
 |some l=>cases x with
  |none=>cases h
  |some x=>cases aj
theorem Hk{K:aO}{w:World}{a:Act}{l:Option Operand}{x:Option a7}{k:IntKind}{c:Int}(h:iC l x=true)(b:∀s∈kb x,aJ K w (tm.get s) (a.tmps.getD s.nat undef))(aj:gY tm x=some (.v (.int k c))):l.map a.eval=some (.int k c):=by
 cases l with
 |none=>cases x with
  |none=>cases aj
  |some x=>cases h
 |some l=>cases x with
  |none=>cases aj
  |some x=>
   have r:=bL (K:=K) (w:=w) (a:=a) b h;simp only[gY,_F]at aj;rw[aj]at r;rw[_S,cQ r]
theorem ae8(ad:Addr)(j:Nat):(ad.add j).block=ad.block/\(ad.spot=none->(ad.add j).spot=none):=yP
theorem Xt{K:aO}{w:World}{sz:Nat}{xs:List (List O)}{C:Bool}{A:Option Addr}{len cap:Nat}(f:Nat->Nat->Value)(hl:xs.length=len)(ag:len<=cap)(aj:∀x∈xs,x.length=sz)
 (J:0<len->∃ad,A=some ad/\ad.spot=none/\ad.block<w.heap.size/\¬K.M ad.block)
 (Q:∀(ad:Addr)(i:Nat)(x:List O)(j:Nat)(d:O),A=some ad->xs[i]?=some x->x[j]?=some d->w.cell? (ad.add (i*sz+j))=some (f i j))
 (h:∀(i:Nat)(x:List O)(j:Nat)(d:O),xs[i]?=some x->x[j]?=some d->aJ K w d (f i j)) {a b g q:Nat} (h1:a<=b) (h2:b<=len) (ah:b<=g) (U:q=b-a) (X:C=true->g=b) :
 aJ K w (.snap sz (cp (cC xs a) q) C) (.slice (if g=a then A else A.map (·.add (a*sz))) (b-a) (g-a)):=by
 subst U;have I:(cp (cC xs a) (b-a)).length=b-a:=by
  rw[hh,kH,_R,_7];omega
 have m:∀(i:Nat)(x:List O),(cp (cC xs a) (b-a))[i]?=some x->xs[a+i]?=some x/\a<g:=by
  intro i x c;have Y:=(_f.1 c).1;rw[I]at Y;rw[hh,kH,List.getElem?_take]at c;rw[if_pos G,_r]at c;exact⟨c,G⟩
 refine .snap (fun i j=>f (a+i) j) I G (fun q=>by rw[X q]) (fun x c=>?_) (fun ai=>?_) (fun ad i x j d u c v=>?_) (fun i x j d c v=>?_)
 .obtain⟨i,Z⟩:=_C.1 c;exact aj x (_C.2 ⟨_,(m i x Z).1⟩)
 .obtain⟨ad,rfl,aa,ab,ac⟩:=J G;rw[if_neg G];have z:=ae8 ad (a*sz);exact⟨_,rfl,z.2 aa,by rw[z.1];exact ab,by rw[z.1];exact ac⟩
 .obtain⟨ae,ak⟩:=m i x c;rw[if_neg G]at u;cases A with
  |none=>cases u
  |some af=>
   obtain rfl:=_a u;rw[add_add,show a*sz+(i*sz+j)=(a+i)*sz+j by rw[_t,_w]];exact Q af _ _ j d rfl ae v
 exact h _ _ j d (m i x c).1 v
theorem LA{K:aO}{w:World}{k n sz lo len cap a b m q:Nat}{full full':Bool}{A:Option Addr}(M:len<=cap)
 (h:cap=0\/(K.real n/\A=some ⟨K.aD n,lo*sz,none⟩/\∃c t ax,w.heap[K.aD n]?=some (.cells c t ax)/\(lo+cap)*sz<=c.size/\(full=false->(lo+cap)*sz=c.size)))
 (h1:a<=b) (h2:b<=len) (O:b<=m/\m<=cap) (f:q=b-a) (g:full'=true->m=b) (j:full'=false->full=false/\m=cap) :
 aJ K w (.aG k n sz (lo+a) q full') (.slice (if m=a then A else A.map (·.add (a*sz))) (b-a) (m-a)):=by
 subst f;refine .aG G (fun q=>by rw[g q]) ?_;by_cases u:m=a
 .exact .inl G
 rw[if_neg u];rcases h with h|⟨v,rfl,c,t,ax,x,z,C⟩
 .omega
 have I:(lo+a+(m-a))*sz<=(lo+cap)*sz:=_e _ G;refine .inr ⟨v,?_,c,t,ax,x,_V I z,fun q=>?_⟩
 .rw[_S,addr_add,_t]
 obtain⟨J,Q⟩:=j q;rw[show lo+a+(m-a)=lo+cap from G];exact C J
theorem aji{sz:Nat}{x:a7}{ai af ak:Option a7}{p:Operand}{l h al:Option Operand}{t e:TypeId}(iw:o.op=.slice t p l h al)(h1:ba p x=true)(h2:iC l ai=true)(U:iC h af=true)(ae:iC al ak=true)(cG:P.underlying t=some (.slice e))(ax:fQ P e sz=true):
 (ym sz (gY tm ai) (gY tm af) (gY tm ak) (aW tm x)).all (fun d t wr g=>bh P o (x.reads++(kb ai++(kb af++kb ak))) tm H gen d t wr g) (fun _ _=>False):=by
 obtain⟨aB,qj,bd⟩:=lT ax
 have iM:∀(a:Act)(w:World)(A:Option Addr)(n wK L xO M:Nat),a.eval p=.slice A n wK->(_i true n wK (l.map a.eval) (h.map a.eval) (al.map a.eval)).run P w=.ok (L,xO,M) w->
  (execOp a.eval o).run P w=.ok (.value (.slice (if M=L then A else A.map (·.add (L*sz))) (xO-L) (M-L))) w:=by
  exact PR
 unfold ym;split
 .
  rename_i ay xs az X;unfold BD;split
  .rename_i a b z m C;intro I;obtain⟨rfl,Y,Z,aa⟩:=I;refine bh.pure fun K u w j=>?_
   have aw:=bL (c8 j) h1;rw[X]at aw;have J:=jh h2 (c8 (cq j)) z;have O:=jh U (c8 (cq (cq j))) m;have lk:=AH (a:=u) ae C;generalize ab:u.eval p=am at aw;cases aw with
   |@snap _ _ _ A len cap f hl Q aq aj an ao ac=>
    have hK:=G6 (P:=P) (w:=w) (cap:=cap) J (by rw[<-hl];exact O) Y Z (by rw[<-hl];exact aa) Q;rw[<-lk]at hK;refine⟨_,iM _ _ _ _ _ _ _ _ ab hK,?_⟩;refine Xt f hl Q aj an ao ac G G G G (fun ag=>?_);have ar:az=true/\gY tm af=none:=by
     cases au:gY tm af with
     |none=>rw[au]at ag;exact⟨ag,rfl⟩
     |some d=>rw[au]at ag;cases ag
    have:=aq ar.1;rw[ar.2]at m;simp[iW]at m;omega
  .rename_i a b k c z m C;intro I;obtain⟨⟨rfl,Y,Z,aa⟩,rfl,ah⟩:=I;refine bh.pure fun K u w j=>?_
   have aw:=bL (c8 j) h1;rw[X]at aw;have J:=jh h2 (c8 (cq j)) z;have O:=jh U (c8 (cq (cq j))) m;have lk:=Hk ae (cq (cq (cq j))) C;generalize ab:u.eval p=am at aw;cases aw with
   |@snap _ _ _ A len cap f hl Q aq aj an ao ac=>
    have hK:=Lq (P:=P) (w:=w) (cap:=cap) (k3:=k) J (by rw[<-hl];exact O) (Eo U ah) Y Z (by rw[<-hl];exact aa) Q;rw[<-lk]at hK;refine⟨_,iM _ _ _ _ _ _ _ _ ab hK,?_⟩;exact Xt f hl Q aj an ao ac G G G G (fun ag=>rfl)
  exact trivial
 .
  rename_i k n ay aC len aD X;unfold A2;split
  .rename_i a b z m C;intro I;obtain⟨⟨rfl,Y,Z,aa⟩,aA⟩:=I;refine bh.pure fun K u w j=>?_
   have aw:=bL (c8 j) h1;rw[X]at aw;have J:=jh h2 (c8 (cq j)) z;have O:=jh U (c8 (cq (cq j))) m;have lk:=AH (a:=u) ae C;generalize ab:u.eval p=am at aw;cases aw with
   |@aG _ _ _ _ _ _ A cap Q av ac=>
    have hK:=G6 (P:=P) (w:=w) (cap:=cap) J O Y Z aa Q;rw[<-lk]at hK;refine⟨_,iM _ _ _ _ _ _ _ _ ab hK,?_⟩;exact LA Q ac G G G G (fun q=>by have:=aA q;have:=av q;omega) (fun q=>⟨q,rfl⟩)
  .rename_i a b ap c z m C;intro I;obtain⟨⟨rfl,Y,Z,aa⟩,rfl,ah⟩:=I;refine bh.pure fun K u w j=>?_
   have aw:=bL (c8 j) h1;rw[X]at aw;have J:=jh h2 (c8 (cq j)) z;have O:=jh U (c8 (cq (cq j))) m;have lk:=Hk ae (cq (cq (cq j))) C;generalize ab:u.eval p=am at aw;cases aw with
   |@aG _ _ _ _ _ _ A cap Q av ac=>
    have hK:=Lq (P:=P) (w:=w) (cap:=cap) (k3:=ap) J O (Eo U ah) Y Z aa Q;rw[<-lk]at hK;refine⟨_,iM _ _ _ _ _ _ _ _ ab hK,?_⟩;exact LA Q ac G G G G (fun q=>rfl) (fun q=>tG)
  exact trivial
 .
  rename_i X;unfold BP;split
  .rename_i a b z m C;intro I;obtain⟨rfl,rfl⟩:=I;refine bh.pure fun K u w j=>?_
   have aw:=bL (c8 j) h1;rw[X]at aw;have J:=jh h2 (c8 (cq j)) z;have O:=jh U (c8 (cq (cq j))) m;have lk:=AH (a:=u) ae C;have hK:=G6 (P:=P) (w:=w) (len:=0) (cap:=0) J O (_L _) (_L _) (_L _) (_s _);exact Wg
  .rename_i a b ap c z m C;intro I;obtain⟨rfl,rfl,rfl,ah⟩:=I;refine bh.pure fun K u w j=>?_
   have aw:=bL (c8 j) h1;rw[X]at aw;have J:=jh h2 (c8 (cq j)) z;have O:=jh U (c8 (cq (cq j))) m;have lk:=Hk ae (cq (cq (cq j))) C;have hK:=Lq (P:=P) (w:=w) (k3:=ap) (len:=0) (cap:=0) J O (Eo U ah) (_L _) (_L _) (_L _) (_s _);exact Wg
  exact trivial
 exact trivial
theorem alv{w:World}(D:Nat){t e:TypeId}(cG:P.underlying t=some (.slice e))(A:Option Addr)(n c:Nat):(_J (D+1) t (.slice A n c) (.slice none 0 0)).run P w=.ok A.isNone w:=by exact H4
theorem akD{neg:Bool}{x:a7}{op:BinOp}{t aa e:TypeId}{p q:Operand}(iw:o.op=.binOp op t p q aa)(xP:l4 neg op=true)(h1:ba p x=true)(h2:KP q=true)(ab:P.underlying t=some (.slice e)):
 (xW neg (aW tm x)).all (fun d t wr g=>bh P o x.reads tm H gen d t wr g) (fun _ _=>False):=by
 have ac:q=.const (.slice none 0 0):=by
  unfold KP at h2;split at h2
  .rfl
  cases h2
 subst ac;have z:∀(a:Act)(w:World)(A:Option Addr)(n c:Nat),a.eval p=.slice A n c->(execOp a.eval o).run P w=.ok (.value (.bool (ih neg A.isNone))) w:=by
  intro a w A n c a_;have b8:∀(op:BinOp)(w:World),(eqGuard op t p (.const (.slice none 0 0)) (.slice A n c) (.slice none 0 0)).run P w=.ok () w:=by exact Hy
  have a8:a.eval (.const (.slice none 0 0))=.slice none 0 0:=rfl;have bO:(Op.equal t (.slice A n c) (.slice none 0 0)).run P w=.ok A.isNone w:=alv 9999 ab A n c;exact XT
 have U:∀ {sz:Nat} {xs:List (List O)} {C:Bool},aW tm x=.snap sz xs C->∀ {K:aO} {a:Act} {w:World},(∀s∈x.reads,aJ K w (tm.get s) (a.tmps.getD s.nat undef))->∃A,(execOp a.eval o).run P w=.ok (.value (.bool (ih neg A))) w/\(xs≠[]->A=false):=by
  intro sz xs C m K a w j;have aw:=bL j h1;rw[m]at aw;generalize I:a.eval p=ae at aw;cases aw with
  |@snap _ _ _ A len cap f hl af ah aj ag ai J=>
   refine⟨_,z _ _ _ _ _ I,fun X=>?_⟩;obtain⟨ad,rfl,_⟩:=ag (by rw[<-hl];exact List.length_pos_iff.2 X);rfl
 have Y:∀ {k n sz M len:Nat} {Q:Bool},aW tm x=.aG k n sz M len Q->∀ {K:aO} {a:Act} {w:World},(∀s∈x.reads,aJ K w (tm.get s) (a.tmps.getD s.nat undef))->∃A,(execOp a.eval o).run P w=.ok (.value (.bool (ih neg A))) w/\(0<len->A=false):=by
  intro k n sz M len Q m K a w j;have aw:=bL j h1;rw[m]at aw;generalize I:a.eval p=ae at aw;cases aw with
  |@aG _ _ _ _ _ _ A cap af ak J=>
   refine⟨_,z _ _ _ _ _ I,fun X=>?_⟩;rcases J with J|⟨_,rfl,_⟩
   .omega
   rfl
 have Z:fX neg=fX (ih neg false):=CU;unfold xW;split
 .rename_i a b m;refine bh.pure fun K u w j=>?_
  have aw:=bL j h1;rw[m]at aw;have a_:=cQ aw;refine⟨_,z _ _ _ _ _ a_,?_⟩;exact OJ
 .rename_i sz xs C m;unfold AD;split
  .refine bh.pure fun K u w j=>?_
   obtain⟨A,a_,_⟩:=U m j;exact⟨_,a_,.dY _⟩
  rw[Z];refine bh.pure fun K u w j=>?_
  obtain⟨A,a_,a8⟩:=U m j;rw[a8 aF]at a_;exact⟨_,a_,.v _⟩
 .rename_i k n sz M len Q m;unfold AM;split
  .refine bh.pure fun K u w j=>?_
   obtain⟨A,a_,_⟩:=Y m j;exact⟨_,a_,.dY _⟩
  rw[Z];refine bh.pure fun K u w j=>?_
  obtain⟨A,a_,a8⟩:=Y m j;rw[a8 G]at a_;exact⟨_,a_,.v _⟩
 exact trivial
theorem agO{op:BinOp}{x y:a7}{t C:TypeId}{p q:Operand}(G:o.op=.binOp op t p q C)(h1:ba p x=true)(h2:ba q y=true):
 (wF op (aW tm x) (aW tm y)).all (fun d t wr g=>bh P o (x.reads++y.reads) tm H gen d t wr g) (fun _ _=>False):=by
 unfold wF;split
 .rename_i a b I J;have u:∀(c:Act)(w:World)(v:Value),c.eval p=.string a->c.eval q=.string b->(_Q op a b).run P w=.ok v w->(op=.add\/op=.eql\/op=.neq\/op=.lss\/op=.geq)->(execOp c.eval o).run P w=.ok (.value v) w:=by
   intro c w v j m M O;have Q:∀(op:BinOp)(w:World),(eqGuard op t p q (.string a) (.string b)).run P w=.ok () w:=by exact Hy
   rcases O with rfl|rfl|rfl|rfl|rfl<;>simp only[execOp,G,j,m,_g,Q,_c,binOp,M,_j]
  have z:∀ {K:aO} {c:Act} {w:World},(∀s∈x.reads++y.reads,aJ K w (tm.get s) (c.tmps.getD s.nat undef))->c.eval p=.string a/\c.eval q=.string b:=by
   intro K c w f;have aw:=bL (c8 f) h1;have aY:=bL (cq f) h2;rw[I]at aw;rw[J]at aY;exact⟨cQ aw,cQ aY⟩
  unfold Bh;split
  .intro U;refine bh.pure fun K c w f=>?_
   obtain⟨j,m⟩:=z f;refine⟨_,u _ _ (.string (a++b)) j m ?_ aF,.v _⟩;have:¬((a.size+b.size:Nat):Int)>_3.max:=by
    have:_3.max=9223372036854775807:=ae;omega
   simp only[_Q];rw[if_neg this];rfl
  .refine bh.pure fun K c w f=>?_
   obtain⟨j,m⟩:=z f;exact⟨_,u _ _ (.bool (decide (a=b))) j m (by simp[_Q,J1]) aF,.v _⟩
  .refine bh.pure fun K c w f=>?_
   obtain⟨j,m⟩:=z f;exact⟨_,u _ _ (.bool (!decide (a=b))) j m (by simp[_Q,J1]) aF,.v _⟩
  .refine bh.pure fun K c w f=>?_
   obtain⟨j,m⟩:=z f;exact⟨_,u _ _ (.bool (_Z a.toList b.toList)) j m (by simp[_Q]) aF,.v _⟩
  .refine bh.pure fun K c w f=>?_
   obtain⟨j,m⟩:=z f;exact⟨_,u _ _ (.bool (!_Z a.toList b.toList)) j m (by simp[_Q]) aF,.v _⟩
  exact trivial
 exact trivial
theorem afA{x:a7}{p:Operand}{t:TypeId}{c:Call}(b:o.op=.call c)(f:c.callee=.builtin .len)(j:c.args = #[p])(m:c.argTypes = #[t])(h1:ba p x=true)(q:P.underlying t=some .string):
 (yl (aW tm x)).all (fun d t wr g=>bh P o x.reads tm H gen d t wr g) (fun _ _=>False):=by
 unfold yl;split
 .rename_i s u;refine bh.pure fun K a w z=>?_
  have aw:=bL z h1;rw[u]at aw;have C:=cQ aw;exact⟨_,by simp[execOp,b,resolve,f,j,m,C,invoke,builtin,Builtin.len_,run_underlying q,goInt],.v _⟩
 exact trivial
end
section
variable {P:Program} {o:Oper} {tm:bQ} {H:aV} {gen:Nat}
theorem ahQ{x i:a7}{t:TypeId}{p q:Operand}(c:o.op=.index t p q)(h1:ba p x=true)(h2:ba q i=true)(f:P.underlying t=some .string):
 (x3 (aW tm x) (aW tm i)).all (fun d t wr g=>bh P o (x.reads++i.reads) tm H gen d t wr g) (fun _ _=>False):=by
 unfold x3;split
 .rename_i s k n j m;intro u;refine bh.pure fun K a w b=>?_
  have aw:=bL (c8 b) h1;have aY:=bL (cq b) h2;rw[j]at aw;rw[m]at aY;have z:=cQ aw;have C:=cQ aY;refine⟨.int .u8 (og s n.toNat),?_,.v _⟩;have I:n.toNat<s.size:=G;have J:s[n.toNat]?=some s[n.toNat]:=getElem?_pos s _ I;simp[execOp,c,z,C,Instr.index,asIntOf,run_underlying f,u.1,J,og]
 exact trivial
theorem ac_{w:World}{c f:Option Value}{a b:Int}{len:Nat}(j:s5 c a 0)(m:s5 f b len)(q:0<=a)(h1:a<=b)(h2:b<=len):
 (_i false len len c f none).run P w=.ok (a.toNat,b.toNat,len) w:=by
 rcases j with⟨rfl,rfl⟩|⟨eP,rfl⟩<;>rcases m with⟨rfl,rfl⟩|⟨g,rfl⟩
 .simp[_i]
 .simp[_i,kz (P:=P) (w:=w) (k:=g) (i:=b) (y:=len) G G]
 .exact HZ
 simp[_i,kz (P:=P) (w:=w) (k:=g) (i:=b) (y:=len) G G,kz (P:=P) (w:=w) (k:=eP) (i:=a) (y:=b.toNat) G G]
theorem ajD{x:a7}{c f:Option a7}{p:Operand}{l h q:Option Operand}{t:TypeId}(u:o.op=.slice t p l h q)(h1:ba p x=true)(h2:iC l c=true)(z:iC h f=true)(C:q=none)(G:P.underlying t=some .string):
 (x0 (gY tm c) (gY tm f) (aW tm x)).all (fun d t wr g=>bh P o (x.reads++(kb c++kb f)) tm H gen d t wr g) (fun _ _=>False):=by
 unfold x0;split
 .rename_i s I;unfold Ao;split
  .rename_i a b J M;intro j;refine bh.pure fun K Y w m=>?_
   have aw:=bL (c8 m) h1;rw[I]at aw;have O:=cQ aw;have Q:=jh h2 (c8 (cq m)) J;have U:=jh z (cq (cq m)) M;have X:=ac_ (P:=P) (w:=w) (len:=s.size) Q U j.1 j.2.1 j.2.2;refine⟨_,?_,.v _⟩;simp[execOp,u,O,C,Instr.sliceAt,Instr.slice,run_underlying G,X]
  exact trivial
 exact trivial
theorem LC(x:List O):∀k,dX x k=_p k x
 |0=>rfl
 |k+1=>by rw[dX,LC x k];rfl
theorem UH{z:Array Value}{n sz:Nat}(b:z.size=sz)(u:0<sz){i j:Nat}(f:i<n)(c:j<sz):((_X (n*sz)).map (fun q=>z[q%z.size]!))[i*sz+j]?=z[j]?:=by
 have g:i*sz+j<n*sz:=by
  have:(i+1)*sz<=n*sz:=_e _ f;exact xq
 have m:(i*sz+j)%z.size=j:=by rw[b,Nat.add_comm,Nat.add_mul_mod_self_right,Nat.mod_eq_of_lt c]
 rw[Array.getElem?_map,Array.getElem?_range,if_pos g,_S];simp only[m];rw[getElem!_pos z j (by rw[b];exact c),_b (by rw[b];exact c)]
set_option maxRecDepth 4000 in
theorem abR{k bytes:Nat}{zs:List Value}{x y:a7}{t el:TypeId}{p q:Operand}{i:TypeInfo}(I:o.op=.makeSlice t p q)(h1:ba p x=true)(h2:ba q y=true)(J:P.underlying t=some (.slice el))(ai:mL P el zs=true)(M:0<zs.length)
 (f:P.info? el=some i) (aj:i.bytes=bytes) :
 (xo k bytes gen zs (aW tm x) (aW tm y)).all (fun d t wr g=>bh P o (x.reads++y.reads) tm H gen d t wr g) (fun _ _=>False):=by
 unfold xo;split
 .rename_i aD l aE c ak al;intro am;obtain⟨aH,aI,c3,an⟩:=am;intro Γ K aJ a w aK next O aL Q ao ap ar;have U:¬K.bG gen:=ao gen (_s _) G;have aw:=bL (c8 Q) h1;have aY:=bL (cq Q) h2;rw[ak]at aw;rw[al]at aY;have X:=cQ aw;have Y:=cQ aY;obtain⟨aM,m,Z,au,aa,ab⟩:=yk ai;rw[f]at Z;obtain rfl:=_a Z;have E_:m.cells.size=zs.length:=by rw[<-aa];simp
  have c5:c.toNat<=9223372036854775807:=c3;have ac:_3.wrap l=l:=IntWalk.i64_in _ G;have ae:_3.wrap c=c:=IntWalk.i64_in _ G;have av:(c.toNat:Int)=c:=Int.toNat_of_nonneg G;have af:¬(281474976710656<(i.bytes:Int)*c):=by
   have ax:c.toNat*i.bytes<=140737488355328:=aj▸an;have ay:((c.toNat*i.bytes:Nat):Int)<=((140737488355328:Nat):Int):=Int.ofNat_le.2 ax;rw[Int.natCast_mul,av,Int.mul_comm]at ay;omega
  have ag:∀n,(askRoom n:Sem Unit).run P w=.ok () w:=by
   intro n;unfold askRoom;split<;>rfl
  have az:∃u:Array Value,(execOp a.eval o).run P w=.ok (.value (.slice (some ⟨w.heap.size,0,none⟩) l.toNat c.toNat)) (w.alloc (.cells u el))/\u.size=c.toNat*zs.length/\(∀i j,i<c.toNat->j<zs.length->u[i*zs.length+j]?=m.cells[j]?):=by
   by_cases z:c.toNat*zs.length=0
   .have aN:c.toNat=0:=by
     rcases Nat.mul_eq_zero.1 z with h|h
     .exact h
     omega
    refine⟨#[],?_,by rw[z];rfl,fun i j f=>G⟩;have bW:¬c<0:=G;have dq:¬l<0:=G;have n3:¬c<l:=G;simp[execOp,I,X,Y,Instr.makeSlice,run_underlying J,asInt,asIntOf,typeInfo,f,ac,ae,ag,sizeOf,ab,z,newRow,bW,dq,n3,af];congr 2
    apply _U;simp
   refine⟨(_X (c.toNat*zs.length)).map (fun q=>m.cells[q%m.cells.size]!),?_,aF,fun i j f cB=>UH E_ M f cB⟩;have bW:¬c<0:=G;have dq:¬l<0:=G;have n3:¬c<l:=G;simp[execOp,I,X,Y,Instr.makeSlice,run_underlying J,asInt,asIntOf,typeInfo,f,ac,ae,ag,sizeOf,ab,z,newRow,zeroValue,au,bW,dq,n3,af]
  obtain⟨u,aA,C,aB⟩:=az;refine jQ aA (ar (K.add gen w.heap.size) _ _ (qG _ (fun h=>U (O.db _ h))) ?_ ?_ ?_)
  .rw[mr];refine CG O U ap M (by rw[s9,C];exact _e _ G) (fun v b=>?_) (fun aC v j d b bf=>?_)
   .rw[LC]at b;rw[List.eq_of_mem_replicate b];exact mU zs
   rw[xv]at b;split at b
   .rename_i aP;obtain rfl:=_a b;have cB:j<zs.length:=Mk;rw[aB aC j G cB];rw[uW,<-aa]at bf;have ah:j<m.cells.size:=G5;rw[_u,_b ah]at bf;refine⟨m.cells[j],_b ah,?_⟩;simp at bf;rw[<-bf];exact .v _
   cases b
  .refine .aG G (fun h=>ha) (.inr ⟨.inr rfl,?_,u,el,(0,0),?_,by rw[C,_q];exact hT,fun _=>by rw[C,_q]⟩)
   .simp[aO.add]
   simp only[aO.add,if_true];exact DU w _
  exact oN
 exact trivial
theorem UR{K:aO}{w:World}{sz lo:Nat}{xs ys:List (List O)}{f:Array Value}{news:List Value}(M:lo+ys.length<=xs.length)(v:∀x∈xs,x.length=sz)(Q:xs.length*sz<=f.size)(u:lR K w sz ys news.toArray)
 (z:∀(i:Nat)(x:List O)(j:Nat)(d:O),xs[i]?=some x->x[j]?=some d->∃c,f[i*sz+j]?=some c/\aJ K w d c) :
 (∀x∈cp xs lo++(ys++cC xs (lo+ys.length)),x.length=sz)/\(cp xs lo++(ys++cC xs (lo+ys.length))).length=xs.length/\lo*sz+news.length<=f.size/\
 ∀(i:Nat)(x:List O)(j:Nat)(d:O),(cp xs lo++(ys++cC xs (lo+ys.length)))[i]?=some x->x[j]?=some d->∃c,(f.toList.take (lo*sz)++news++f.toList.drop (lo*sz+news.length)).toArray[i*sz+j]?=some c/\aJ K w d c:=by
 have U:news.length=ys.length*sz:=by simpa using u.1
 have C:lo*sz+news.length<=f.size:=by
  rw[U,<-_t];exact _V (_e _ M) Q
 have I:∀x∈cp xs lo++(ys++cC xs (lo+ys.length)),x.length=sz:=by
  intro x b;rw[hh,kH]at b;rcases _H.1 b with h|h
  .exact v x (List.mem_of_mem_take h)
  rcases _H.1 h with h|h
  .exact u.2.1 x h
  exact v x (List.mem_of_mem_drop h)
 refine⟨I,FP,C,fun i x j d b g=>?_⟩;have Y:j<sz:=by rw[<-I x (_k b)];exact(_f.1 g).1
 rw[LM C];rw[hh,kH]at b;by_cases h1:i<lo
 .rw[_n kF,List.getElem?_take,if_pos h1]at b;have m:(i+1)*sz<=lo*sz:=_e _ h1;rw[_t,_Y]at m;rw[if_neg G];exact z i x j d b g
 rw[_l kF,_R,Nat.min_eq_left G]at b;by_cases h2:i-lo<ys.length
 .rw[_n h2]at b;obtain⟨c,q,X⟩:=u.2.2 (i-lo) x j d b g;have J:lo*sz<=i*sz:=_e _ G;have m:=(Array.getElem?_eq_some_iff.1 q).1;simp only[_P]at m;rw[Nat.sub_mul]at m q;rw[if_pos G];refine⟨c,?_,X⟩;rw[_D]at q;rw[<-q];congr 1
  omega
 rw[_l G,_r]at b;have e:lo+ys.length+(i-lo-ys.length)=i:=G;rw[e]at b;have J:(lo+ys.length)*sz<=i*sz:=_e _ G;rw[_t]at J;rw[if_neg G];exact z i x j d b g
theorem aa4{K:aO}{w:World}{z:Array Value}{zs:List Value}(c:z.toList=zs)(m:0<zs.length)(n:Nat):lR K w zs.length (dX (fs zs) n) (_h z n):=by
 have aj:z.size=zs.length:=by rw[<-c];simp
 have q:(_h z n).size=n*zs.length:=by simp[_h,aj]
 refine⟨by rw[s9,q],fun x b=>?_,fun i x j d b bf=>?_⟩
 .rw[LC]at b;rw[List.eq_of_mem_replicate b];exact mU zs
 rw[xv]at b;split at b
 .rename_i u;obtain rfl:=_a b;have f:j<zs.length:=Mk;have g:j<z.size:=by rw[aj];exact f
  rw[uW,<-c,_u,_b g]at bf;simp at bf;have:=UH (z:=z) (n:=n) aj m u f;rw[<-aj]at this;refine⟨z[j],?_,If⟩;rw[<-aj];unfold _h;rw[this,_b g]
 cases b
theorem akX{zs:List Value}{x:a7}{p:Operand}{t el:TypeId}{c:Call}(iw:o.op=.call c)(bn:c.callee=.builtin .clear)(ek:c.args = #[p])(Wv:c.argTypes = #[t])(h1:ba p x=true)(cG:P.underlying t=some (.slice el))(am:mL P el zs=true)(Y:0<zs.length):
 (vM zs H (aW tm x)).all (fun d t wr g=>bh P o x.reads tm H gen d t wr g) (fun _ _=>False):=by
 obtain⟨i,q,an,ao,ap,aP⟩:=yk am;unfold vM;split
 .rename_i k n sz m len aQ J;unfold Bx;split
  .rename_i u aq;intro ar;obtain⟨fc,ic,au,av,ax⟩:=ar;subst au;intro Γ K Z a w aS next M ay O aT aU aa;have aw:=bL O h1;rw[J]at aw;have z:=ay k aF;rw[aq]at z;have ab:∀(A:Option Addr)(f ac:Nat)(Q:World),a.eval p=.slice A f ac->((match A,f with
    |none,_=>pure ()
    |some _,0=>pure ()
    |some ad,f=>storeCells ad (_h q.cells f).toList:Sem Unit)).run P w=.ok () Q->(execOp a.eval o).run P w=.ok (.value (.tuple #[])) Q:=by
    intro A f ac Q a_ a8;cases A with
    |none=>exact U9
    |some ad=>
     cases f with
     |zero=>exact U9
     |succ f=>
      simp only at a8;simp[execOp,iw,resolve,bn,ek,Wv,a_,invoke,builtin,Builtin.clear_,run_underlying cG,zeroValue,typeInfo,an,ao,a8]
   have az:∀j,(if j=k then some (⟨n,zs.length,cp u.xs m++(dX (fs zs) 0++cC u.xs (m+0))⟩:aR)else Z j)=Z j:=by
    intro j;by_cases e:j=k
    .rw[if_pos e,e,z,hh,kH];simp only[dX,List.nil_append,_o,List.take_append_drop];rw[<-fc,<-ic]
    rw[if_neg e]
   generalize ae:a.eval p=aV at aw;cases aw with
   |@aG _ _ _ _ _ _ A cap aX aY h=>
    rcases Nat.eq_zero_or_pos len with rfl|hlen
    .refine jQ (ab A 0 cap w ae ?_) (aa K w _ (dH.refl K w) ?_ (.v _) (fun f h=>.inl h))
     .cases A<;>rfl
     rw[mr];have e:=funext az;rw[e];exact M
    rcases h with h|⟨af,aA,C,aB,aC,I,aZ,a0⟩
    .omega
    subst aA;rw[<-fc]at af I;rcases(M.obj k u z).two (fun aE=>aE.out I)with⟨U,_⟩|⟨U,a1,a2,a3,ag,X,ah,aH,aI⟩
    .exact absurd af U
    rw[X]at I;obtain⟨rfl,rfl,rfl⟩:=I;have ai:=aa4 (K:=K) (w:=w) (z:=q.cells) (zs:=zs) ap Y len;have aj:=UR (xs:=u.xs) (sz:=zs.length) (lo:=m) (ys:=dX (fs zs) len) (news:=(_h q.cells len).toList) (by rw[s9];exact av) (by rw[<-ic];exact aH) (by rw[<-ic];exact ah) (by simpa using ai) (by rw[<-ic];exact aI);rw[s9]at aj;obtain⟨aJ,aK,ak,aL⟩:=aj;have aM:∀v∈(_h q.cells len).toList,v.oneCell'=true:=MJ Y ai (by
     have:∀f,eW (dX (fs zs) f)=true:=by
      intro f;induction f with
      |zero=>rfl
      |succ f aN=>simp[dX,eW,my,ax,aN]
     exact this len)
    have al:=BI P (K.aD u.n) (m*zs.length) aB aC (_h q.cells len).toList 0 C w X ag.1 (by simpa using ak) aM;simp only[_o]at al;have aO:(C.toList.take (m*zs.length)++(_h q.cells len).toList++C.toList.drop (m*zs.length+(_h q.cells len).toList.length)).toArray.size=C.size:=by
     simp only[_P,_N,_R,_7,Array.length_toList]at ak⊢;omega
    have cy:=Fk M z U ag X aO (xs:=cp u.xs m++(dX (fs zs) len++cC u.xs (m+len))) (by rw[aK];exact ah) (by rw[ic];exact aJ) (by rw[ic];exact aL);refine jQ (ab _ len cap _ ae ?_) (aa K _ _ cy.1 ?_ (.v _) (fun f h=>.inl h))
    .obtain⟨f,rfl⟩:∃f,len=f+1:=⟨len-1,G⟩;rw[<-fc];exact al
    exact Qr
  exact trivial
 .rename_i b a4 J;refine bh.pure fun K a w O=>?_
  have aw:=bL O h1;rw[J]at aw;have a_:=cQ aw;exact⟨_,R_,.v _⟩
 exact trivial
theorem acG{w:World}{lo hi mx:Value}{k1 k2 k3:IntKind}{a b c:Int}{len cap:Nat}(f:0<=a)(h1:a<=b)(h2:b<=c)(g:c<=cap):
 (_i true len cap (some (.int k1 a)) (some (.int k2 b)) (some (.int k3 c))).run P w=.ok (a.toNat,b.toNat,c.toNat) w:=by
 simp[_i,kz (P:=P) (w:=w) (k:=k3) (i:=c) (y:=cap) G G,kz (P:=P) (w:=w) (k:=k2) (i:=b) (y:=c.toNat) G G,kz (P:=P) (w:=w) (k:=k1) (i:=a) (y:=b.toNat) G G]
theorem ah3{w:World}{f c:Option Value}{a b:Int}{len cap:Nat}(g:s5 f a 0)(j:(c=none/\b=len/\len<=cap)\/∃k,c=some (.int k b))(m:0<=a)(h1:a<=b)(h2:b<=cap):
 (_i true len cap f c none).run P w=.ok (a.toNat,b.toNat,cap) w:=by
 rcases g with⟨rfl,rfl⟩|⟨eP,rfl⟩<;>rcases j with⟨rfl,rfl,q⟩|⟨e3,rfl⟩
 .simp[_i]
 .exact ZV
 .exact HZ
 exact XM
theorem ajd{sz:Nat}{x:a7}{ab ac ae:Option a7}{p:Operand}{l h af:Option Operand}{t e:TypeId}(iw:o.op=.slice t p l h af)(h1:ba p x=true)(h2:iC l ab=true)(Q:iC h ac=true)(ag:iC af ae=true)(cG:P.underlying t=some (.slice e))(av:fQ P e sz=true):
 (we sz H (gY tm ab) (gY tm ac) (gY tm ae) (aW tm x)).all (fun d t wr g=>bh P o (x.reads++(kb ab++(kb ac++kb ae))) tm H gen d t wr g) (fun _ _=>False):=by
 obtain⟨aQ,qj,bd⟩:=lT av
 have iM:∀(a:Act)(w:World)(A:Option Addr)(n wK L xO M:Nat),a.eval p=.slice A n wK->(_i true n wK (l.map a.eval) (h.map a.eval) (af.map a.eval)).run P w=.ok (L,xO,M) w->
  (execOp a.eval o).run P w=.ok (.value (.slice (if M=L then A else A.map (·.add (L*sz))) (xO-L) (M-L))) w:=by
  exact PR
 unfold we;split
 .rename_i k n m aR len U;split
  .rename_i u;unfold BU;split
   .rename_i a b v z;intro C;obtain⟨rfl,rfl,rfl,I,X,c3⟩:=C;refine bh.pure fun K j w f=>?_
    have aw:=bL (c8 f) h1;rw[U]at aw;have sq:=jh h2 (c8 (cq f)) v;have oq:=jh Q (c8 (cq (cq f))) z;have lk:=AH (a:=j) ag u;generalize bB:j.eval p=ap at aw;cases aw with
    |@aG _ _ _ _ _ _ A cap Y ay J=>
     have hK:=G6 (P:=P) (w:=w) (cap:=cap) sq oq (_L _) I X Y;rw[<-lk]at hK;rcases J with J|⟨Z,az,ah,ai,ax,O,aa,aA⟩
     .omega
     subst az;refine⟨_,iM _ _ _ _ _ _ _ _ bB hK,?_⟩;rw[if_neg c7];have aB:(some (⟨K.aD n,0*m,none⟩:Addr)).map (·.add ((0:Int).toNat*m))=some ⟨K.aD n,0,none⟩:=by simp[addr_add]
     rw[aB];simp only[Int.toNat_zero,Nat.sub_zero];exact .eA G Z ⟨ah,ai,ax,O,by have:=aA rfl;rw[_q]at this;exact this⟩
   exact trivial
  rename_i d u;split
  .rename_i aC;unfold AV;split
   .rename_i a b ak c v z;intro C;obtain⟨al,I,X,c3⟩:=C;refine bh.pure fun K j w f=>?_
    have aw:=bL (c8 f) h1;rw[U]at aw;have sq:=jh h2 (c8 (cq f)) v;have oq:=jh Q (c8 (cq (cq f))) z;have lk:=Hk ag (cq (cq (cq f))) u;have aj:=Eo (a:=j) Q aC;generalize bB:j.eval p=ap at aw;cases aw with
    |@aG _ _ _ _ _ _ A cap Y ay J=>
     rcases oq with⟨oq,_⟩|⟨am,oq⟩
     .rw[oq]at aj;cases aj
     rcases sq with⟨sq,rfl⟩|⟨aE,sq⟩
     .have hK:(_i true len cap none (some (.int am b)) (some (.int ak c))).run P w=.ok ((0:Int).toNat,b.toNat,c.toNat) w:=by
       simp[_i,kz (P:=P) (w:=w) (k:=ak) (i:=c) (y:=cap) G G,kz (P:=P) (w:=w) (k:=am) (i:=b) (y:=c.toNat) G G]
      exact Wp
     have hK:=acG (P:=P) (w:=w) (k1:=aE) (k2:=am) (k3:=ak) (len:=len) (cap:=cap) (lo:=undef) (hi:=undef) (mx:=undef) al I X G;exact Wp
   exact trivial
  exact trivial
 .rename_i k n m len U;split
  .rename_i u;unfold CS;split
   .rename_i oq aH;split
    .rename_i a b v z;intro C;obtain⟨an,aI,rfl,aJ,al,I,X⟩:=C;refine bh.read fun Γ K aS j w aK aL f=>?_
     have aw:=bL (c8 f) h1;rw[U]at aw;have sq:=jh h2 (c8 (cq f)) v;have aM:=jh Q (c8 (cq (cq f))) z;have lk:=AH (a:=j) ag u;have aq:=aL k aF;rw[aH]at aq;generalize bB:j.eval p=ap at aw;cases aw with
     |@eA _ _ _ _ cap Y Z J=>
      obtain⟨ah,ai,ax,O,aa⟩:=J;rcases(aK.obj k oq aq).two (fun aN=>aN.out (by rw[an];exact O))with⟨ao,_⟩|⟨ao,aT,aU,aV,aX,ar,au,aY,aZ⟩
      .rw[an]at ao;exact absurd Z ao
      rw[an,O]at ar;obtain⟨rfl,rfl,rfl⟩:=ar;rw[aI,<-aa]at au;have a0:oq.xs.length<=cap:=Nat.le_of_mul_le_mul_right au aJ;have hK:=ah3 (P:=P) (w:=w) (cap:=cap) (len:=len) sq (by
       rcases aM with⟨aO,aP⟩|q
       .exact .inl ⟨aO,aP,Y⟩
       exact .inr q) al I G
      rw[<-lk]at hK;refine⟨_,iM _ _ _ _ _ _ _ _ bB hK,?_⟩
      have:=LA (k:=k) (K:=K) (w:=w) (n:=n) (sz:=m) (lo:=0) (len:=cap) (cap:=cap) (a:=a.toNat) (b:=b.toNat) (m:=cap) (q:=(b-a).toNat) (full:=false) (full':=false) (A:=some ⟨K.aD n,0*m,none⟩) (_s _)
       (.inr ⟨Z,rfl,ah,ai,ax,O,by rw[_q,aa];exact hT,fun _=>by rw[_q,aa]⟩) G G G G (fun q=>tG) (fun _=>⟨rfl,rfl⟩)
      rw[_q,_B]at this;exact this
    exact trivial
   exact trivial
  exact trivial
 exact trivial
theorem air{sz bytes:Nat}{x y:a7}{p q:Operand}{c:Call}{t al e:TypeId}{i:TypeInfo}{am:Value}(b5:tD P o sz bytes p q c t al e i am)(h1:ba p x=true)(h2:ba q y=true):
 (zq sz H (aW tm x) (kD sz H (aW tm y))).all (fun d t wr g=>bh P o (x.reads++y.reads) tm H gen d t wr g) (fun _ _=>False):=by
 cases an:kD sz H (aW tm y)with
 |bad=>exact trivial
 |ok ys aQ aR=>
  intro ao;split
  .rename_i k n m len ap;unfold Cc;split
   .rename_i u aq;intro ar;obtain⟨fc,ic,rfl,au,av⟩:=ar;intro Γ K aS a w aT next J Q U aU aV ay;have aw:=bL (c8 U) h1;have aY:=bL (cq U) h2;rw[ap]at aw;obtain⟨az,aA,aB,X,aC,b,Y,f2⟩:=zD (P:=P) J b5.pos aY an ao (fun j aE=>Q j (_A _ aE));rw[X]at f2;have M:=Q k aF;rw[aq]at M;generalize Z:a.eval p=aX at aw;cases aw with
    |@eA _ _ _ _ cap aZ aa aG=>
     obtain⟨f,ab,ax,ac,ae⟩:=aG;rcases(J.obj k u M).two (fun aH=>aH.out (by rw[fc];exact ac))with⟨C,_⟩|⟨C,a0,a1,a2,af,I,O,aI,aJ⟩
     .rw[fc]at C;exact absurd aa C
     have ag:=I;rw[fc,ac]at ag;obtain⟨rfl,rfl,rfl⟩:=ag;have ah:=O;rw[ic,<-ae]at ah;have a3:u.xs.length<=cap:=Nat.le_of_mul_le_mul_right ah b5.pos;have z:=EN (P:=P) (ty:=o.type) (base:=some ⟨K.aD n,0,none⟩) (sLen:=len) (sCap:=cap) (m:=aA) (w:=w) (news:=b) b5.dC b5.xy (.inl ⟨az,aB,rfl⟩) b5.info ET G;obtain⟨aK,aL,aM,aN⟩:=UR (lo:=len) (ys:=ys) (news:=b) (xs:=u.xs) au (by rw[<-ic];exact aI) (by rw[<-ic];exact O) Y (by rw[<-ic];exact aJ);have aO:∀v∈b,v.oneCell'=true:=fun v eX=>MJ b5.pos Y av v xJ
     have ai:=BI P (K.aD u.n) (len*m) ab ax b 0 f w I af.1 (by simpa using aM) aO;simp only[_o]at ai;have aj:(f.toList.take (len*m)++b++f.toList.drop (len*m+b.length)).toArray.size=f.size:=by exact aaG
     have aP:(storeCells ((⟨K.aD n,0,none⟩:Addr).add (len*i.size)) b).run P w=.ok () (w.setRow (K.aD u.n) (f.toList.take (len*m)++b++f.toList.drop (len*m+b.length)).toArray):=by
      rw[addr_add,b5.size,_q,<-fc];exact ai
     simp only[aP,_c]at z;rw[<-Z,<-X]at z;have cy:=Fk J M C af I aj (xs:=cp u.xs len++(ys++cC u.xs (len+ys.length))) (by rw[aL];exact O) (by rw[ic];exact aK) (by rw[ic];exact aN);have ak:a.eval p=.slice (some ⟨K.aD n,0,none⟩) len cap:=Z;rw[ak]at z;rw[<-ak]at z;refine jQ (vA b5 z) (ay K _ _ cy.1 ?_ ?_ (fun a4 h=>.inl h))
     .exact Qr
     rw[aC];refine .eA G aa ⟨(f.toList.take (len*m)++b++f.toList.drop (len*m+b.length)).toArray,ab,ax,?_,?_⟩
     .rw[<-fc];exact setRow_heap w _ _ _ _ _ I
     rw[aj];exact ae
   exact trivial
  exact trivial
theorem adI(b:List Int):∀(s:ByteArray),b.foldl (fun r n=>r.push (_5 n.toNat)) s=⟨s.data++(b.map (fun n=>_5 n.toNat)).toArray⟩:=by
 induction b with
 |nil=>intro s;simp
 |cons n b c=>
  intro s;rw[List.foldl_cons,c];congr 1
  apply _U;simp[ByteArray.push]
theorem Rt:∀ {xs:List (List O)},ow xs=true->∃b:List Int,xs=b.map (fun n=>[O.v (.int .u8 n)])
 |[],_=>⟨[],rfl⟩
 |x::r,h=>by
  simp only[ow,my]at h;obtain⟨b,rfl⟩:=Rt h.2;have h1:=h.1;unfold zV at h1;split at h1
  .rename_i n;exact⟨n::b,rfl⟩
  cases h1
theorem aa6(b:List Int):strOf (b.map (fun n=>[O.v (.int .u8 n)]))=⟨(b.map (fun n=>_5 n.toNat)).toArray⟩:=by
 unfold strOf;rw[List.map_map];rfl
theorem ag3{x:a7}{s d el:TypeId}{p:Operand}(z:o.op=.convert s d p)(h1:ba p x=true)(aj:P.underlying s=some (.slice el))(C:P.underlying el=some (.int .u8))(I:P.underlying d=some .string):
 (BX (kD 1 H (aW tm x))).all (fun d t wr g=>bh P o x.reads tm H gen d t wr g) (fun _ _=>False):=by
 cases U:kD 1 H (aW tm x)with
 |bad=>exact trivial
 |ok ys ag ah=>
  intro X;obtain⟨Y,Z⟩:=X;obtain⟨b,rfl⟩:=Rt Z;refine bh.read fun Γ K ai a w aa ab ac=>?_
  have aw:=bL ac h1;obtain⟨A,j,c,m,ak,q,J,f1⟩:=zD (P:=P) aa Nat.one_pos aw U Y ab;have u:q=b.map (Value.int .u8):=by
   apply List.ext_getElem?;intro i;by_cases M:i<b.length
   .obtain⟨al,Q,ae⟩:=J.2.2 i [O.v (.int .u8 b[i])] 0 (.v (.int .u8 b[i])) (by simp[M]) rfl;rw[Nat.mul_one,_o,_D]at Q;rw[Q,cQ ae];simp[M]
   have hl:q.length=b.length:=by have:=J.1;simpa using this
   rw[_W G,_W c7]
  have f:=f1 w rfl;rw[m]at f;refine⟨.string (strOf (b.map (fun n=>[O.v (.int .u8 n)]))),?_,.v _⟩;rw[aa6];cases A with
  |none=>
   have:q=[]:=by
    simp only[_m,_j,Result.ok.injEq,and_true]at f;have:=congrArg Array.toList f;simpa using this.symm
   rw[this]at u;have af:b=[]:=by
    have:=u.symm;exact oe
   subst af;simp[execOp,z,m,run_convert_bytes_string w s d el none j c aj C I,Conv.bytesToString];rfl
  |some ad=>
   simp only[_m,Nat.mul_one]at f;rw[u]at f;have:=run_bytesToString (P:=P) w ad j c b f;rw[adI]at this;simp[execOp,z,m,run_convert_bytes_string w s d el (some ad) j c aj C I,this]
theorem alM{b:Bool}{sz n f:Nat}{x i:a7}{t e:TypeId}{p q:Operand}(C:o.op=.index t p q)(h1:ba p x=true)(h2:ba q i=true)(G:P.underlying t=some (.array f e))(m:fQ P e sz=true)(I:jD P e b=true)(J:b=true\/sz=1)(M:f=n):
 (wH b sz n (aW tm x) (aW tm i)).all (fun d t wr g=>bh P o (x.reads++i.reads) tm H gen d t wr g) (fun _ _=>False):=by
 subst M;obtain⟨ac,O,Q⟩:=lT m;unfold wH;split
 .rename_i ae k j U X;intro u hl;refine bh.pure fun K a w z=>?_
  have aw:=bL (c8 z) h1;have aY:=bL (cq z) h2;rw[U]at aw;rw[X]at aY;have Y:=cQ aY;generalize Z:a.eval p=af at aw;cases aw with
  |@agg _ c aj h=>
   obtain⟨v,aa,ab⟩:=RC (P:=P) m I J hl aj h;refine⟨v,?_,ab⟩;simp[execOp,C,Z,Y,Instr.index,asIntOf,run_underlying G,u.1,u.2,mD O,Q,aa]
 exact trivial
theorem ae5{w:World}(D:Nat){t e:TypeId}(cG:P.underlying t=some (.pointer e))(A:Option Addr):(_J (D+1) t (.pointer A) (.pointer none)).run P w=.ok A.isNone w:=by exact H4
theorem aih{w:World}(D:Nat){t:TypeId}{ms:Array (String×TypeId)}(b:P.underlying t=some (.interface ms)):(_J (D+1) t .nilIface .nilIface).run P w=.ok true w:=by simp[_J,run_underlying b]
theorem alu{w:World}(D:Nat){t:TypeId}{ms:Array (String×TypeId)}(b:P.underlying t=some (.interface ms))(c:TypeId)(v:Value):(_J (D+1) t (.iface c v) .nilIface).run P w=.ok false w:=by simp[_J,run_underlying b]
theorem ad0{neg:Bool}{x:a7}{op:BinOp}{t M:TypeId}{ms:Array (String×TypeId)}{p q:Operand}(O:o.op=.binOp op t p q M)(Q:l4 neg op=true)(h1:ba p x=true)(h2:L3 q=true)(C:P.underlying t=some (.interface ms)):
 (yI neg (aW tm x)).all (fun d t wr g=>bh P o x.reads tm H gen d t wr g) (fun _ _=>False):=by
 have U:q=.const .nilIface:=by
  unfold L3 at h2;split at h2
  .rfl
  cases h2
 subst U;have G:∀(a:Act)(w:World)(y:Value)(b:Bool),a.eval p=y->((y=.nilIface/\b=true)\/((∃c v,y=.iface c v)/\b=false))->(execOp a.eval o).run P w=.ok (.value (.bool (ih neg b))) w:=by
  intro a w y b m f;have X:∀(op:BinOp)(w:World),(eqGuard op t p (.const .nilIface) y .nilIface).run P w=.ok () w:=by
   intro op w;rcases f with⟨rfl,-⟩|⟨⟨c,v,rfl⟩,-⟩
   .unfold eqGuard;cases op<;>simp[_j]
   unfold eqGuard;split<;>rfl
  have Y:a.eval (.const .nilIface)=.nilIface:=rfl;have Z:(Op.equal t y .nilIface).run P w=.ok b w:=by
   rcases f with⟨rfl,rfl⟩|⟨⟨c,v,rfl⟩,rfl⟩
   .exact aih 9999 C
   exact alu 9999 C c v
  have aa:∀j:BinOp,j=op->(l4 neg j=true)->(binOp j t y .nilIface).run P w=.ok (.bool (ih neg b)) w:=by
   intro j e I;rcases f with⟨rfl,rfl⟩|⟨⟨c,v,rfl⟩,rfl⟩<;>cases j<;>simp[l4]at I<;>subst I<;>simp only[binOp,Z,_g,_c,_j,ih]
  simp only[execOp,O,m,Y,_g,X,_c,aa op rfl Q,_j]
 have ab:fX neg=fX (ih neg false):=CU;have ac:fX (!neg)=fX (ih neg true):=CU;unfold yI;split
 .rename_i u;rw[ac];refine bh.pure fun K J w z=>?_
  have aw:=bL z h1;rw[u]at aw;have m:=cQ aw;exact⟨_,G _ _ _ true m (.inl ⟨rfl,rfl⟩),.v _⟩
 .rename_i u;rw[ab];refine bh.pure fun K J w z=>?_
  have aw:=bL z h1;rw[u]at aw;generalize f:J.eval p=ae at aw;cases aw with
  |e7 c v=>exact⟨_,G _ _ _ false f (.inr ⟨⟨c,v,rfl⟩,rfl⟩),.v _⟩
 exact trivial
theorem aeb{neg:Bool}{x:a7}{op:BinOp}{t C e:TypeId}{p q:Operand}(iw:o.op=.binOp op t p q C)(xP:l4 neg op=true)(h1:ba p x=true)(h2:HW q=true)(G:P.underlying t=some (.pointer e)):
 (xX neg (aW tm x)).all (fun d t wr g=>bh P o x.reads tm H gen d t wr g) (fun _ _=>False):=by
 have I:q=.const (.pointer none):=by
  unfold HW at h2;split at h2
  .rfl
  cases h2
 subst I;have m:∀(a:Act)(w:World)(A:Option Addr),a.eval p=.pointer A->(execOp a.eval o).run P w=.ok (.value (.bool (ih neg A.isNone))) w:=by
  intro a w A a_;have b8:∀(op:BinOp)(w:World),(eqGuard op t p (.const (.pointer none)) (.pointer A) (.pointer none)).run P w=.ok () w:=by exact Hy
  have a8:a.eval (.const (.pointer none))=.pointer none:=rfl;have bO:(Op.equal t (.pointer A) (.pointer none)).run P w=.ok A.isNone w:=ae5 9999 G A;exact XT
 have z:fX neg=fX (ih neg false):=CU;unfold xX;split
 .rename_i b;refine bh.pure fun K j w c=>?_
  have aw:=bL c h1;rw[b]at aw;have a_:=cQ aw;refine⟨_,m _ _ _ a_,?_⟩;exact OJ
 .rename_i b;rw[z];refine bh.pure fun K j w c=>?_
  have aw:=bL c h1;rw[b]at aw;generalize u:j.eval p=J at aw;cases aw with
  |ptr M=>exact⟨_,m _ _ _ u,.v _⟩
 .rename_i b;rw[z];refine bh.pure fun K j w c=>?_
  have aw:=bL c h1;rw[b]at aw;generalize u:j.eval p=J at aw;cases aw with
  |bY f h1 h2 O Q U=>exact⟨_,m _ _ _ u,.v _⟩
 exact trivial
end
end Go.Proofs.YtdiobdlinjgakaaGreatDoor
