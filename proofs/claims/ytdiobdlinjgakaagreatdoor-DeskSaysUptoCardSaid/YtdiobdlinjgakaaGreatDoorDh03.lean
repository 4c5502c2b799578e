import Derived.Test.YtdiobdlinjgakaaGreatDoorDh02
import Derived.DeepKeys3
set_option linter.unusedVariables false
set_option linter.unusedSimpArgs false
set_option maxHeartbeats 8000000
set_option maxRecDepth 100000
open Go.Proofs.Tryz
open Bool renaming and_eq_true->_a,false_eq_true->_e,or_eq_true->_h,not_eq_true'->_G
open Option.some renaming inj->_b
open List renaming getElem?_eq_some_iff->_c,getElem?_eq_getElem->_d,range->_i,mem_of_getElem?->_j,mem_append->_n,getElem?_map->_w,mem_range->_E,mem_cons->_I,map_cons->_J,length_eq_one_iff->_M,range'->_O,all_eq_true->_S,idxOf?->_U,pairwise_iff_getElem->_X,getElem?_replicate->_Z,getElem?_cons_succ->_0,mem_iff_getElem?->_3,mem_cons_of_mem->_5
open Go.Lib renaming bytesCells->_f,bytesWorld->_u,bytesWorld_at_old->_z,bytesWorld_size->_Q,run_convert_string_bytes->_W
open Array renaming ext'->_g,getElem?_eq_getElem->_m,mem_of_getElem?->_s,getElem?_eq_some_iff->_t,replicate->_A,getD_eq_getD_getElem?->_B,getElem?_eq_none->_L,getElem?_push->_P,mem_toList_iff->_4,getD->_9
open Go.Result renaming andThen_ok->_k
open Go.MapKept renaming run_getObj_map->_l,run_setObj_map->_q,run_findKey->_1
open Nat renaming le_refl->_o,lt_of_lt_of_le->_r,zero_add->_x,le_trans->_C,lt_trichotomy->_H,succ_lt_succ->_K,zero_le->_6,mul_one->_7
open Go.Sem renaming run_bind->_p,run_pure->_N
open Go.Instr renaming checkKey->_v,sameBits->_D,findNow->_F,findAsking->_R,keyThatStays->_8
open Go.Region renaming wanted->_y,ready->_Y
open Go.Extern renaming findNext->_T,find->_2
open Option renaming isNone_iff_eq_none->_V
namespace Go.Proofs.YtdiobdlinjgakaaGreatDoor
section
variable {P:Program} {o:Oper} {tm:bQ} {H:aV} {gen:Nat}
theorem MI(sz:Nat):∀(n:Nat)(l:List O),(oY sz n l).length=n
 |0,l=>rfl
 |n+1,l=>by simp[oY,MI sz n]
theorem JQ(sz:Nat):∀(n:Nat)(l:List O)(i:Nat),i<n->(oY sz n l)[i]?=some ((l.drop (i*sz)).take sz)
 |0,l,i,h=>G
 |n+1,l,0,h=>by simp[oY,yR]
 |n+1,l,i+1,h=>by
  simp only[oY,_0];rw[JQ sz n _ i G,oc,List.drop_drop,Nat.succ_mul,Nat.add_comm]
theorem ah9{sz n:Nat}{x:a7}{p:Operand}{t e:TypeId}(u:o.op=.slice t p none none none)(h1:ba p x=true)(v:P.underlying t=some (.array n e))(z:fQ P e sz=true):
 (wG sz n (aW tm x)).all (fun d t wr g=>bh P o x.reads tm H gen d t wr g) (fun _ _=>False):=by
 obtain⟨ac,C,ae⟩:=lT z;unfold wG;split
 .rename_i c G;rintro⟨af,ag,hl⟩;refine bh.pure fun K a w I=>?_
  have aw:=bL I h1;rw[G]at aw;generalize J:a.eval p=ah at aw;cases aw with
  |@bY _ ad f aj M Q U X=>
   refine⟨.slice (some ad) n n,?_,?_⟩
   .have Y:¬n=0:=by omega
    have ai:(if n=0 then ad else ad.add 0)=ad:=by simp[Y,Addr.add]
    simp[execOp,u,J,Instr.sliceAt,Instr.sureAddr,run_underlying v,Instr.sliceBounds,mD C,Addr.add]
   have q:∀(i:Nat)(y:List O)(j:Nat)(d:O),(oY sz n c)[i]?=some y->y[j]?=some d->c[i*sz+j]?=some d:=by
    intro i y j d bF b;have m:i<n:=Pq;rw[JQ sz n c i m]at bF;obtain rfl:=_b bF;have Z:j<sz:=by have:=(_c.1 b).1;simp at this;omega
    rw[List.getElem?_take_of_lt Z,List.getElem?_drop]at b;exact b
   refine .snap (fun i j=>f (i*sz+j)) (MI sz n c) (_o _) (fun _=>rfl) (fun y aa=>?_) (fun _=>⟨ad,rfl,aj,M,Q⟩) (fun ak i y j d ab bF b=>?_) (fun i y j d bF b=>?_)
   .obtain⟨i,bF⟩:=_3.1 aa;have m:i<n:=Pq;rw[JQ sz n c i m]at bF;obtain rfl:=_b bF;have h2:(i+1)*sz<=n*sz:=Nat.mul_le_mul_right _ m;rw[Nat.succ_mul]at h2;simp;omega
   .obtain rfl:=_b ab;exact U _ d (q i y j d bF b)
   exact X _ d (q i y j d bF b)
 exact trivial
def aO.now(K:aO)(w:World):aO:=⟨K.bG,K.real,K.aD,fun g=>K.M g/\g<w.heap.size⟩
theorem TA{K:aO}{w b:World}(h:cN (fun _=>False) w b):dH K w (K.now w) b:=⟨h.weaken (fun _ _ c=>c.elim),fun n f=>⟨f,rfl⟩,fun g _ j=>j.1⟩
theorem ab1{Γ:bw}{K:aO}{u:Nat->Option aR}{w v:World}(b:Inv Γ K u w)(h:cN (fun _=>False) w v):Inv Γ (K.now w) u v:=
 ⟨Iv b h,⟨b.base.bG,b.base.cn,b.base.keep,fun g j=>⟨fun q=>(b.base.M g j).1 q.1,fun q=>⟨(b.base.M g j).2 q,_r j b.ext.size⟩⟩⟩,fun k o f=>(b.obj k o f).mono (TA h) (fun m=>m) (fun c=>h.keep _ (b.lt _ c) (fun x=>x)),b.inj,b.db,fun n m=>_r (b.lt n m) h.size,b.dz,fun k o f c=>⟨⟨(b.own k o f c).1,b.lt _ c⟩,(b.own k o f c).2⟩,b.ga⟩
theorem PK(w:World)(e:TypeId)(s:ByteArray):cN (fun _=>False) w (_u w e s) where
 os:=rfl
 tape:=rfl
 output:=rfl
 size:=by rw[_Q];omega
 keep:=fun g c _=>_z w e s g c
 shape:=fun g f t ax b=>⟨f,ax,by rw[_z w e s g (lt_of_heap b)];exact b,rfl⟩
 maps:=.of_eq fun g j m b=>_z w e s g (lt_of_heap b)
theorem amc{x:a7}{s d el:TypeId}{p:Operand}(J:o.op=.convert s d p)(h1:ba p x=true)(aj:P.underlying s=some .string)(Q:P.underlying d=some (.slice el))(U:P.underlying el=some (.int .u8)):
 (xB (aW tm x)).all (fun d t wr g=>bh P o x.reads tm H gen d t wr g) (fun _ _=>False):=by
 unfold xB;split
 .rename_i b X;intro Γ K ah a w ai next Y ak Z al am aa;have aw:=bL Z h1;rw[X]at aw;have ab:=cQ aw;have ac:=_W (P:=P) w s d el b aj Q U;have C:=PK w el b;have an:b.data.toList.length=b.size:=rfl;refine jQ (v:=.slice (some ⟨w.heap.size,0,none⟩) b.size (grownCap w b.size 0 el)) (w':=_u w el b) (by simp[execOp,J,ab,ac]) (aa (K.now w) _ _ (TA C) (ab1 Y C) ?_ (fun n h=>.inl h));have ae:¬(K.now w).M w.heap.size:=fun q=>Nat.lt_irrefl _ q.2
  have G:∀(i:Nat)(y:List O)(j:Nat)(m:O),(kq b)[i]?=some y->y[j]?=some m->i<b.size/\j=0/\m=.v (.int .u8 ((b.data.toList.getD i 0).toNat:Int)):=by
   intro i y j m f u;unfold kq at f;rw[_w]at f;cases z:b.data.toList[i]? with
   |none=>rw[z]at f;cases f
   |some c=>
    rw[z]at f;obtain rfl:=_b f;have af:=(_c.1 z).1;cases j with
    |succ j=>simp at u
    |zero=>
     simp at u;refine⟨af,rfl,?_⟩;rw[<-u,List.getD_eq_getElem?_getD,z];rfl
  refine .snap (fun i j=>.int .u8 ((b.data.toList.getD i 0).toNat:Int)) Fq (grownCap_ge _ _ _ _) (fun h=>ha) (fun y bB=>?_) (fun _=>⟨_,rfl,rfl,by rw[_Q];exact Nat.lt_succ_self _,ae⟩) (fun ad i y j m ag f u=>?_) (fun i y j m f u=>?_)
  .exact Yz
  .obtain rfl:=_b ag;obtain⟨I,rfl,ao⟩:=G i y j m f u;have:=Lib.bytesWorld_cell w el b i I;simpa[addr_add]using this
  obtain⟨I,rfl,rfl⟩:=G i y j m f u;exact .v _
 exact trivial
theorem U4:∀(xs:List (List O))(i:Nat)(d:O),(∀x∈xs,x.length=1)->(qM xs)[i]?=some d->∃x,xs[i]?=some x/\x[0]?=some d
 |[],i,d,_,h=>by simp[qM]at h
 |x::r,0,d,aj,h=>by
  have:=aj x aF;obtain⟨y,rfl⟩:=_M.1 this;simp[qM,jY]at h;exact⟨[y],rfl,by simp[h]⟩
 |x::r,i+1,d,aj,h=>by
  simp only[qM,_0]at h;obtain⟨y,h1,h2⟩:=U4 r i d (fun b c=>aj b (_5 _ c)) h;exact⟨y,y8,h2⟩
theorem aiE{n:Nat}{x:a7}{p:Operand}{t e:TypeId}(q:o.op=.sliceToArrayPointer t p)(h1:ba p x=true)(u:P.underlying t=some (.array n e)):
 (x7 n (aW tm x)).all (fun d t wr g=>bh P o x.reads tm H gen d t wr g) (fun _ _=>False):=by
 unfold x7;split
 .rename_i sz xs aa v;rintro⟨rfl,ab,hl⟩;refine bh.pure fun K a w z=>?_
  have aw:=bL z h1;rw[v]at aw;generalize C:a.eval p=ac at aw;cases aw with
  |@snap _ _ _ A len cap f ae af ag aj I J M=>
   obtain⟨ad,rfl,Q,U,X⟩:=I G;refine⟨.pointer (some ad),?_,?_⟩
   .have:¬len<n:=by omega
    simp[execOp,q,C,Instr.arrayAt,run_underlying u,this]
   have m:∀(i:Nat)(d:O),(qM (cp xs n))[i]?=some d->∃x,xs[i]?=some x/\x[0]?=some d:=by
    intro i d c;rw[hh]at c;obtain⟨y,b,j⟩:=U4 _ i d (fun Y Z=>aj Y (List.mem_of_mem_take Z)) c;refine⟨y,?_,j⟩;rw[List.getElem?_take]at b;split at b
    .exact b
    cases b
   refine .bY (fun i=>f i 0) Q U X (fun i d c=>?_) (fun i d c=>?_)
   .obtain⟨y,b,j⟩:=m i d c;have:=J ad i y 0 d rfl b j;exact oe
   obtain⟨y,b,j⟩:=m i d c;exact M i y 0 d b j
 exact trivial
theorem aec (fn:Func) (h:fn.name = "internal/bytealg.IndexByteString") (bX:fn.origin = ""):_T fn=none/\_2 fn=some Extern.BytealgIndexByte.indexByte:=by exact Xf
theorem akP (fn:Func) (h:fn.name = "internal/bytealg.CountString") (bX:fn.origin = ""):_T fn=none/\_2 fn=some Extern.BytealgCount.count:=by exact Xf
theorem adF {k:Nat} {m:List a7} {c:Call} {g:FuncId} (I:o.op=.call c) (J:c.callee=.value (.func g)) (b:Jq P k g=true) (M:l2 c.args.toList m=true) :
 (xe k (jH tm m)).all (fun d t wr g=>bh P o (m.flatMap a7.reads) tm H gen d t wr g) (fun _ _=>False):=by
 unfold Jq at b;split at b
 .rename_i fn O;simp only[_a,decide_eq_true_eq,beq_iff_eq]at b;obtain⟨⟨⟨Q,q⟩,z⟩,ac⟩:=b;have C:∀(e:Array Value->Sem Value) (v:Value),(fn.name == "runtime.NumGoroutine")=false->_T fn=none->_2 fn=some e->∀(a:Act) (w:World),(e (c.args.toList.map a.eval).toArray).run P w=.ok v w->(execOp a.eval o).run P w=.ok (.value v) w:=by
   intro e v h1 h2 U a w X;have:=run_callFunc_extern (P:=P) O h1 Q h2 U (c.args.toList.map a.eval).toArray w;rw[X]at this;simp only[Result.andThen]at this;simp[execOp,I,resolve,J,Act.eval,Deferred.ofValue,invoke,Dz,this]
  unfold xe;split
  .rename_i s x Y;have G:∀(K:aO) (a:Act) (w:World),(∀s∈m.flatMap a7.reads,aJ K w (tm.get s) (a.tmps.getD s.nat undef))->(c.args.toList.map a.eval).toArray = #[.string s,.int .u8 x]:=by
    intro K a w f;obtain⟨bp,u⟩:=ya M f;rw[Y]at bp u;have Z:(c.args.toList.map a.eval).length=2:=FY;match hl:c.args.toList.map a.eval,Z with
    |[v0,aa],_=>
     rw[hl]at u;have ab:=cQ (u 0 _ v0 rfl rfl);have aw:=cQ (u 1 _ aa rfl rfl);rw[ab,aw]
   split
   .have j:=aec fn q z;refine bh.pure fun K a w f=>⟨_,C _ _ (by rw[q];decide) j.1 j.2 a w ?_,.v _⟩
    rw[G K a w f];exact Lib.run_indexByteString s x w
   .have j:=akP fn q z;refine bh.pure fun K a w f=>⟨_,C _ _ (by rw[q];decide) j.1 j.2 a w ?_,.v _⟩
    rw[G K a w f];exact Lib.run_countString s x w
   exact trivial
  exact trivial
 cases b
end
section
variable {P:Program} {o:Oper} {tm:bQ} {H:aV} {gen:Nat}
theorem adj{k:Nat}{t:TypeId}{r:Option Operand}(f:o.op=.makeMap t r)(g:r=none):
 bh P o [] tm H gen (.mp k gen) [k] [(k,some ⟨gen,0,[]⟩)] 1:=by
 intro Γ K u a w v next b x z j m q;have c:¬K.bG gen:=j gen (_o _) G;subst g;refine jQ (v:=.map (some w.heap.size)) (w':=w.alloc (.map #[] 0)) ?_ (q (K.add gen w.heap.size) _ _ (qG _ (fun h=>c (b.db _ h))) ?_ ?_ ?_)
 .simp[execOp,f,Instr.makeMap]
 .rw[mr];exact Je b c m (.inr (.inr ⟨.inr rfl,rfl,#[],0,wm,.inl rfl⟩))
 .exact UE
 exact oN
theorem OI{K:aO}{w:World}:∀(b:List O)(f l:List Value),sb b=some l->f.length=b.length->(∀(i:Nat)(d:O)(c:Value),b[i]?=some d->f[i]?=some c->aJ K w d c)->f=l
 |[],[],l,h,_,_=>by simpa[sb]using h
 |[],c::f,l,h,hl,_=>qC
 |d::b,[],l,h,hl,_=>qC
 |d::b,c::f,l,h,hl,j=>by
  unfold sb at h;split at h
  .rename_i g;cases g
  .rename_i x r g;injection g with m q;subst m q;split at h
   .rename_i u v;obtain rfl:=_b h;rw[OI b f u v yn (fun i d c bf bn=>j (i+1) d c vP uZ),cQ (j 0 _ c rfl rfl)]
   cases h
  cases h
theorem Db{K:aO}{w:World}{d:O}{x y:Value}(h:aJ K w d x)(b:rk d=some y):x=y:=by
 unfold rk at b;split at b
 .rw[cQ h];exact _b b
 .split at b
  .rename_i l hl;cases h with
   |@agg m f aj g=>
    obtain rfl:=_b b;have:=OI (K:=K) (w:=w) _ f.toList l hl BK (fun i d c j bn=>g i d c j uZ);rw[<-this]
  cases b
 cases b
theorem q6:∀ {ks:List IntKind} {f:List Value},jZ ks f=true->f.length=ks.length/\∀(i:Nat)(k:IntKind),ks[i]?=some k->∃a,f[i]?=some (.int k a)
 |[],[],_=>⟨rfl,fun i k h=>fE⟩
 |[],_::_,h=>pj
 |_::_,[],h=>pj
 |k::ks,c::f,h=>by
  unfold jZ at h;split at h
  .rename_i q _;cases q
  .rename_i z C G a r g j;injection g with m u;injection j with v x;subst m u v x;rw[my]at h;obtain⟨h1,h2⟩:=q6 h.2;refine⟨wW,fun i q ay=>?_⟩;cases i with
   |zero=>simp at ay;rw[<-ay,nO h.1];exact⟨a,rfl⟩
   |succ i=>obtain⟨b,bO⟩:=h2 i q pU;exact⟨b,yJ⟩
  cases h
theorem M4{w:World}{t:TypeId}{k:IntKind}{em:Bool}{n:Nat}{v:Value}(b:P.underlying t=some (.int k)):(_v em (n+1) t v).run P w=.ok () w:=by simp[_v,run_underlying b]
theorem KL{t:TypeId}{k:IntKind}(h:Ho P t k=true):P.underlying t=some (.int k):=by
 unfold Ho at h;split at h
 .rename_i c b;rw[b,nO h]
 cases h
theorem XJ {w:World} {em:Bool} {n:Nat} {cs:Array Value}:∀(ks:List IntKind) (c:List Field) (off:Nat),xl P ks c off=true->(∀(i:Nat) (k:IntKind),ks[i]?=some k->∃a,cs[off+i]?=some (.int k a))->
 (forIn c PUnit.unit (fun f _=>
   if f.name ≠ "_" then do
    let x <-part f.type cs f.offset
    _v em (n+1) f.type x
    pure (ForInStep.yield PUnit.unit)
   else pure (ForInStep.yield PUnit.unit)):Sem PUnit).run P w=.ok PUnit.unit w
 |[],[],off,_,_=>aF
 |[],_::_,off,h,_=>by simp[xl]at h
 |_::_,[],off,h,_=>by simp[xl]at h
 |k::ks,f::c,off,h,g=>by
  simp only[xl,_a,decide_eq_true_eq,_G,beq_eq_false_iff_ne,ne_eq]at h;obtain⟨⟨⟨h1,h2⟩,m⟩,u⟩:=h;have j:=KL m;obtain⟨a,v⟩:=g 0 k rfl;have z:(part f.type cs f.offset).run P w=.ok (.int k a) w:=qE (sj j) (by rw[h1];simpa using v);have C:=XJ (w:=w) (em:=em) (n:=n) (cs:=cs) ks c (off+1) u (fun i q ay=>by
   obtain⟨b,G⟩:=g (i+1) q pU;exact⟨b,by rw[<-G];congr 1;omega⟩)
  simp only[List.forIn_cons,_p,h2,ne_eq,not_false_eq_true,if_true,_k,z,M4 (P:=P) (w:=w) (em:=em) (n:=n) (v:=.int k a) j,_N];exact C
theorem WB{k:IntKind}:∀ {ks:List IntKind},DB k ks=true->∀(i:Nat)(q:IntKind),ks[i]?=some q->q=k
 |[],_,i,q,h=>fE
 |b::r,h,i,q,ay=>by
  simp only[DB,_a]at h;cases i with
  |zero=>simp at ay;rw[<-ay,nO h.1]
  |succ i=>exact WB h.2 i q pU
theorem yT{w:World}{t:TypeId}{f:ef}{g:Value}{m:Bool}(q:lX P t f=true)(C:cF f g=true):(_v m 10000 t g).run P w=.ok () w:=by
 cases f with
 |one k=>exact M4 (n:=9999) (KL q)
 |cells ks=>
  cases g<;>simp only[cF,_e]at C
  rename_i u;obtain⟨hl,G⟩:=q6 C;simp only[lX,_a,decide_eq_true_eq]at q;obtain⟨⟨af,ag⟩,c⟩:=q;split at c
  .rename_i n e v;simp only[_a,decide_eq_true_eq]at c;obtain⟨⟨rfl,h2⟩,x⟩:=c;split at x
   .rename_i k I;obtain⟨O,Q,U⟩:=lT h2;rw[show(10000:Nat)=9999+1 from rfl,_v];simp only[_p,run_underlying v,_k];simp only[Std.Legacy.Range.forIn_eq_forIn_range',Std.Legacy.Range.size,Nat.sub_zero,Nat.add_one_sub_one,Nat.div_one];have z:∀j∈_O 0 ks.length,∃a,u[j]?=some (.int k a):=fun j X=>by
     have J:j<ks.length:=by simpa using List.mem_range'_1.1 X
     have Y:=WB x j _ (_d J);obtain⟨a,b⟩:=G j _ (_d J);rw[Y]at b;exact⟨a,by simpa using b⟩
    generalize _O 0 ks.length=M at z;induction M with
    |nil=>simp
    |cons j M Z=>
     obtain⟨a,b⟩:=z j aF;have aa:(part e u (j*O.size)).run P w=.ok (.int k a) w:=qE (sj I) (by rw[U,_7];exact b);simp only[List.forIn_cons,_p,mD Q,_k,aa,M4 (P:=P) (w:=w) (em:=m) (n:=9998) (v:=.int k a) I,_N];exact Z (fun y bB=>z y u7)
   cases x
  .rename_i ab v;rw[show(10000:Nat)=9999+1 from rfl,_v];simp only[_p,run_underlying v,_k];rw[<-Array.forIn_toList];have ac:=XJ (P:=P) (w:=w) (em:=m) (cs:=u) (n:=9998) ks ab.toList 0 c (fun i k ae=>by
    obtain⟨a,b⟩:=G i k ae;exact⟨a,by rw[_x];simpa using b⟩)
   erw[ac];rfl
  cases c
theorem F0:∀ {ks:List IntKind} {xs ys:List Value},jZ ks xs=true->jZ ks ys=true->(sV xs ys=true↔∀(i:Nat)(k:IntKind)(a b:Int),ks[i]?=some k->xs[i]?=some (.int k a)->ys[i]?=some (.int k b)->a=b)/\(sV xs ys=true->xs=ys)
 |[],[],[],_,_=>⟨⟨fun _ i k a b h=>fE,fun _=>rfl⟩,fun _=>rfl⟩
 |[],_::_,_,h,_=>pj
 |[],[],_::_,_,h=>pj
 |_::_,[],_,h,_=>pj
 |_::_,_::_,[],_,h=>pj
 |k::ks,x::xs,y::ys,h1,h2=>by
  obtain⟨a,f⟩:=(q6 h1).2 0 k rfl;obtain⟨b,g⟩:=(q6 h2).2 0 k rfl;simp at f g;subst f g;simp only[jZ,my]at h1 h2;obtain⟨j,m⟩:=F0 h1.2 h2.2;simp only[sV,_a,decide_eq_true_eq];refine⟨⟨fun h i q c d ay bn bf=>?_,fun h=>⟨h 0 k a b rfl rfl rfl,j.2 fun i q c d ay bn bf=>h (i+1) q c d pU uZ vP⟩⟩,fun h=>by rw[h.1,m h.2]⟩;cases i with
  |zero=>simp at bn bf;obtain⟨_,rfl⟩:=bn;obtain⟨_,rfl⟩:=bf;exact h.1
  |succ i=>exact j.1 h.2 i q c d pU uZ vP
theorem tf{g:ef}{a b:Value}(c:cF g a=true)(f:cF g b=true)(h:hD a b=true):a=b:=by
 cases g with
 |one k=>
  cases a<;>simp only[cF,_e]at c
  cases b<;>simp only[cF,_e]at f
  simp only[hD,decide_eq_true_eq]at h;rw[<-nO c,<-nO f,h]
 |cells ks=>
  cases a<;>simp only[cF,_e]at c
  cases b<;>simp only[cF,_e]at f
  simp only[hD]at h;have:=(F0 c f).2 h;congr 1
  exact _g this
theorem agy{w:World}{t:TypeId}{ks:List IntKind}{xs ys:Array Value}(x:lX P t (.cells ks)=true)(z:jZ ks xs.toList=true)(C:jZ ks ys.toList=true):(Op.equal t (.agg xs) (.agg ys)).run P w=.ok (sV xs.toList ys.toList) w:=by
 simp only[lX,_a,decide_eq_true_eq]at x;obtain⟨⟨O,Q⟩,_⟩:=x;obtain⟨aa,I⟩:=q6 z;obtain⟨ab,J⟩:=q6 C;have f:∀(i q:Nat),(List.replicate ks.length 0)[i]?=some q->q=0/\∃k,ks[i]?=some k:=fun i q h=>by
  rw[_Z]at h;split at h
  .rename_i m;exact⟨(_b h).symm,_,_d m⟩
  cases h
 have U:nZ (List.replicate ks.length 0) xs ys 0:=fun i q X=>by
  obtain⟨rfl,k,f⟩:=f i q X;obtain⟨a,h1⟩:=I i k f;obtain⟨b,h2⟩:=J i k f;refine⟨.int k a,.int k b,decide (a=b),by rw[_x];simpa using h1,by rw[_x];simpa using h2,?_⟩;cases k<;>rfl
 obtain⟨r,h1,h2⟩:=VO (w:=w) 19 9999 G O Q U;have e:r=sV xs.toList ys.toList:=by
  rw[Bool.eq_iff_iff,h2,(F0 z C).1];constructor
  .intro h i k a b u g j;have m:i<ks.length:=(_c.1 u).1;have:=h i 0 (.int k a) (.int k b) (by rw[_Z,if_pos m]) (by rw[_x];simpa using g) (by rw[_x];simpa using j);have v:kp 0 (.int k a) (.int k b)=some (decide (a=b)):=by cases k<;>rfl
   rw[v]at this;exact oe
  intro h i q c Y u g j;obtain⟨rfl,k,f⟩:=f i q u;obtain⟨a,M⟩:=I i k f;obtain⟨b,cR⟩:=J i k f;rw[_x]at g j;have Z:c=.int k a:=by
   have:xs[i]?=some (.int k a):=by simpa using M
   rw[this]at g;exact(_b g).symm
  have v:Y=.int k b:=by
   have:ys[i]?=some (.int k b):=Ay;rw[this]at j;exact(_b j).symm
  rw[Z,v,h i k a b f M cR];cases k<;>simp[kp,jk]
 rw[<-e];exact h1
theorem Uy{w:World}{t:TypeId}{ks:List IntKind}{key:Value}(g:lX P t (.cells ks)=true)(f:cF (.cells ks) key=true):∀(b:List MapEntry)(i:Nat),(∀e∈b,cF (.cells ks) e.key=true)->(_R t key b i).run P w=.ok (h6 b key i) w
 |[],i,_=>by simp[_R,h6]
 |e::b,i,h=>by
  have c:=h e aF;cases key<;>simp only[cF,_e]at f
  rename_i xs;have m:∃ys,e.key=.agg ys:=by cases v:e.key<;>simp_all [cF]
  obtain⟨ys,j⟩:=m;rw[j]at c;have q:=agy (w:=w) g f (ys:=ys) c;have u:=Uy (w:=w) (key:=.agg xs) g f b (i+1) (fun e c=>h e (by simp[c]));simp only[_R,_p,j,q,_k,h6,hD];by_cases aj:sV xs.toList ys.toList=true
  .simp[aj]
  simp[aj,u]
theorem W2{k:IntKind}{key:Value}(g:cF (.one k) key=true):∀(c:List MapEntry)(i:Nat),(∀e∈c,cF (.one k) e.key=true)->_F (.int k) key c i=some (h6 c key i)
 |[],i,_=>rfl
 |e::c,i,h=>by
  have f:=h e aF;cases key<;>simp only[cF,_e]at g
  rename_i C a;have u:∃m b,e.key=.int m b:=by cases G:e.key<;>simp_all [cF]
  obtain⟨m,b,q⟩:=u;rw[q]at f;have v:=nO g;have x:=nO f;subst v x;have z:=W2 (key:=.int k a) (k:=k) g c (i+1) (fun e f=>h e (by simp[f]));simp only[_F,q,Instr.sameNow,if_true,h6,hD];by_cases j:a=b
  .simp[j]
  have:(a==b)=false:=by simp[j]
  simp[j,z,this]
theorem Ev{w:World}{t:TypeId}{f:ef}{c:Value}(g:lX P t f=true)(m:cF f c=true)(b:List MapEntry)(h:∀e∈b,cF f e.key=true):(Instr.findKey t c b).run P w=.ok (h6 b c 0) w:=by
 cases f with
 |one k=>exact _1 (KL g) (W2 m b 0 h)
 |cells ks=>
  have q:=Uy (w:=w) g m b 0 h;have u:∃d,P.underlying t=some d/\u5 d=true:=by
   simp only[lX,_a]at g;have h2:=g.1.2;unfold jD at h2;split at h2
   .rename_i d j;exact⟨d,j,EP⟩
   cases h2
  obtain⟨d,j,v⟩:=u;cases b with
  |nil=>exact _1 j (by simp[_F,h6])
  |cons e b=>
   have x:_F d c (e::b) 0=none:=by
    unfold _F;have:Instr.sameNow d c e.key=none:=by cases d<;>first|rfl|simp[u5]at v
    rw[this]
   simp only[Instr.findKey,_p,run_underlying j,_k,x];exact q
theorem D7{c:ef}:∀ {b:List MapEntry},pP c (b.map iu)=true->∀e∈b,cF c e.key=true
 |[],_,e,h=>fE
 |x::b,h,e,he=>by
  simp only[_J,iu,pP,my]at h;rcases _I.1 he with rfl|he
  .exact h.1
  exact D7 h.2 e he
theorem Vh{c:Value}:∀(b:List MapEntry)(i:Nat),j9 (b.map iu) c=(h6 b c i).map (·.2)
 |[],i=>by simp[j9,h6]
 |e::b,i=>by
  simp only[_J,iu,j9,h6];by_cases h:hD c e.key=true
  .simp[h]
  simp[h];exact Vh b (i+1)
theorem YI{c v:Value}:∀(b:List MapEntry)(i:Nat),h6 b c i=none->ja (b.map iu) c v=b.map iu++[[.v c,.v v]]
 |[],i,_=>rfl
 |e::b,i,h=>by
  simp only[h6]at h;by_cases f:hD c e.key=true
  .simp[f]at h
  simp[f]at h;simp only[_J,iu,ja,f,List.cons_append];have:=YI (v:=v) b (i+1) h;exact oe
theorem Uh{key v:Value}:∀(b:List MapEntry)(i j:Nat)(g:Value),h6 b key i=some (j,g)->∃(c:Nat)(e:MapEntry),j=i+c/\b[c]?=some e/\hD key e.key=true/\(e.key=key->ja (b.map iu) key v=(b.modify c (fun e=>{e with key:=key,val:=v})).map iu)
 |[],i,j,g,h=>by simp[h6]at h
 |e::b,i,j,g,h=>by
  simp only[h6]at h;by_cases f:hD key e.key=true
  .simp[f]at h;refine⟨0,e,G,rfl,f,fun m=>?_⟩;have q:=f;rw[m]at q;simp only[_J,iu,ja,List.modify_zero_cons,m,q,if_true]
  simp[f]at h;obtain⟨c,u,h1,h2,x,z⟩:=Uh (v:=v) b (i+1) j g h;refine⟨c+1,u,G,EP,x,fun m=>?_⟩;simp only[_J,iu,ja,f,List.modify_succ_cons];have:=z m;exact oe
theorem TW{b:ef}{v:Value}(h:cF b v=true):_D 10000 v v=true:=by
 cases b with
 |one k=>
  cases v<;>simp only[cF,_e]at h
  simp[_D]
 |cells ks=>
  cases v<;>simp only[cF,_e]at h
  rename_i f;have g:∀(ks:List IntKind)(l:List Value),jZ ks l=true->((l.zip l).all fun(x,y)=>_D 9999 x y)=true:=by
   intro ks;induction ks with
   |nil=>intro l hl;cases l with
    |nil=>rfl
    |cons _ _=>simp[jZ]at hl
   |cons k ks j=>
    intro l hl;cases l with
    |nil=>simp[jZ]at hl
    |cons x l=>
     obtain⟨a,c⟩:=(q6 hl).2 0 k rfl;simp at c;subst c;simp only[jZ,my]at hl;have:=j l hl.2;simp only[List.zip_cons_cons,List.all_cons,this,Bool.and_true];simp[_D]
  rw[show(10000:Nat)=9999+1 from rfl,_D];simp only[beq_self_eq_true,Bool.true_and];exact g ks f.toList h
theorem V6{t:TypeId}{b:Value}(h:sn P t b=true)(w:World):(zeroValue t).run P w=.ok b w:=by
 unfold sn at h;split at h
 .rename_i i c;split at h
  .rename_i y f;rw[Ha c f,Dm h]
  cases h
 cases h
theorem al2{m:ef}{b:Value}{c x:a7}{p q:Operand}{t u e:TypeId}(iw:o.op=.lookup t p q false)(h1:ba p c=true)(h2:ba q x=true)(cG:P.underlying t=some (.map u e))(Bv:lX P u m=true)(b3:sn P e b=true):
 (yD m b H (aW tm c) (aW tm x)).all (fun d t wr g=>bh P o (c.reads++x.reads) tm H gen d t wr g) (fun _ _=>False):=by
 unfold yD;split
 .rename_i k n I;unfold B0;split
  .rename_i nC J;unfold Ar;split
   .rename_i z M;rintro⟨fc,Z⟩ ⟨dV,e0⟩;refine bh.read fun Γ K aa a w O Q C=>?_
    have aw:=bL (c8 C) h1;have aY:=bL (cq C) h2;rw[I]at aw;have a8:=Db aY J;have G:=Q k aF;rw[M]at G;generalize bB:a.eval p=ab at aw;cases aw with
    |mp U=>
     rcases O.obj k z G with⟨f,_⟩|⟨f,ac,ae,af,X,e8,_⟩|⟨f,ag,nD,Y,e8,j⟩
     .exact absurd (fc▸U) f
     .have:=X.2;omega
     have j:z.xs=nD.toList.map iu:=j.resolve_right H6;rw[j]at dV⊢;have bV:=Ev (w:=w) Bv e0 nD.toList (D7 dV);have bO:w.heap[K.aD n]?=some (.map nD Y):=B3;refine⟨(j9 (nD.toList.map iu) nC).getD b,?_,.v _⟩;rw[Vh nD.toList 0];exact aaN
   exact trivial
  exact trivial
 exact trivial
theorem YZ{b:Array MapEntry}{x:MapEntry}{i:Nat}{e:MapEntry}(h:b[i]?=some e):(b.push x)[i]?=some e:=by
 have:=(_t.1 h).1;rw[_P,if_neg G];exact h
theorem x2{b:Array MapEntry}{m i:Nat}{f:MapEntry->MapEntry}{e:MapEntry}(h:b[i]?=some e):(b.modify m f)[i]?=some (if i=m then f e else e):=by
 rw[Array.getElem?_modify];by_cases q:m=i
 .rw[if_pos q,h,if_pos q.symm];rfl
 rw[if_neg q,h,if_neg (fun e=>q e.symm)]
theorem ak6{c:Array MapEntry}{b i:Nat}{key val:Value}{e:MapEntry}(h:c[i]?=some e)(g:i=b->key=e.key):∃f:MapEntry,(c.modify b (fun e=>{e with key:=key,val:=val}))[i]?=some f/\f.key=e.key:=by
 refine⟨_,x2 h,?_⟩;by_cases q:i=b
 .rw[if_pos q];exact g q
 rw[if_neg q]
theorem RT{w:World}{b:Nat}{m f:Array MapEntry}{v q:Nat}(x:w.heap[b]?=some (.map m v))(z:b<w.heap.size)(C:∀(i:Nat)(e:MapEntry),m[i]?=some e->∃u:MapEntry,f[i]?=some u/\u.key=e.key):sG w {w with heap:=w.heap.setIfInBounds b (.map f q)}:=by
 intro g G c j;by_cases e:g=b
 .subst e;rw[x]at j;obtain⟨rfl,rfl⟩:=j;exact⟨f,q,by simp[z],C⟩
 exact⟨G,c,by simp only[Array.getElem?_setIfInBounds_ne (Ne.symm e)];exact j,fun i e I=>⟨e,I,rfl⟩⟩
theorem aeg{ai:ef}{aa x v:a7}{p q aj:Operand}{t ak e:TypeId}(al:o.op=.mapUpdate t p q aj)(h1:ba p aa=true)(h2:ba q x=true)(aC:ba aj v=true)(am:P.underlying t=some (.map ak e))(ab:lX P ak ai=true):
 (wy ai H (aW tm aa) (aW tm x) (aW tm v)).all (fun d t wr g=>bh P o (aa.reads++(x.reads++v.reads)) tm H gen d t wr g) (fun _ _=>False):=by
 unfold wy;split
 .rename_i k n aE;unfold AR;split
  .rename_i f val aG aH;unfold C6;split
   .rename_i C aI;rintro⟨fc,ao⟩ ⟨dV,I⟩;intro Γ K aU a w aV next Q aJ ac J aX aK;have aw:=bL (c8 ac) h1;have aY:=bL (c8 (cq ac)) h2;have ap:=bL (cq (cq ac)) aC;rw[aE]at aw;rw[aH]at ap;have aq:=Db aY aG;have ar:=cQ ap;have U:=aJ k aF;rw[aI]at U;generalize au:a.eval p=aZ at aw;cases aw with
    |mp av=>
     rcases Q.obj k C U with⟨m,_⟩|⟨m,ay,a0,a1,aL,e8,_⟩|⟨m,a2,b,X,e8,Y⟩
     .exact absurd (fc▸av) m
     .have:=aL.2;omega
     have Y:C.xs=b.toList.map iu:=Y.resolve_right H6;rw[Y]at dV;have J:=Ev (w:=w) ab I b.toList (D7 dV);have u:w.heap[K.aD n]?=some (.map b X):=B3;have aM:∃c z,(execOp a.eval o).run P w=.ok .skip {w with heap:=w.heap.setIfInBounds (K.aD n) (.map c z)}/\c.toList.map iu=ja (b.toList.map iu) f val/\(∀(i:Nat)(e:MapEntry),b[i]?=some e->∃F2:MapEntry,c[i]?=some F2/\F2.key=e.key):=by
      cases Z:h6 b.toList f 0 with
      |none=>
       rw[Z]at J;refine⟨b.push ⟨f,val,X⟩,X+1,?_,?_,fun i e M=>⟨e,YZ M,rfl⟩⟩
       .simp[execOp,al,au,aq,ar,Instr.mapUpdate,run_underlying am,_l u,yT ab I,J,_q _ u]
       rw[YI _ 0 Z];simp[iu]
      |some aN=>
       obtain⟨j,v0⟩:=aN;rw[Z]at J;obtain⟨ey,ae,a3,cR,aO,aP⟩:=Uh (v:=val) b.toList 0 j v0 Z;have aQ:ey=j:=G;subst aQ;have af:ae.key=f:=(tf I (D7 dV ae (_j cR)) aO).symm;have O:b[ey]?=some ae:=Ay;refine⟨b.modify ey (fun e=>{e with key:=f,val:=val}),X,?_,?_,fun i e M=>ak6 M (fun q=>by subst q;rw[O]at M;rw[<-_b M];exact af.symm)⟩
       .simp[execOp,al,au,aq,ar,Instr.mapUpdate,run_underlying am,_l u,yT ab I,J,O,af,_8,TW I,_q _ u]
       rw[aP af,Array.toList_modify]
     obtain⟨c,z,aR,aS,aT⟩:=aM;have az:=Q.lt _ av;have ag:∀g,g≠K.aD n->({w with heap:=w.heap.setIfInBounds (K.aD n) (.map c z)}:World).heap[g]?=w.heap[g]?:=fun g O=>by simp[Ne.symm O]
     have aA:dH K w K {w with heap:=w.heap.setIfInBounds (K.aD n) (.map c z)}:=by
      refine⟨⟨rfl,rfl,rfl,aF,fun g O an=>ag g (fun e=>an ?_),fun g ay t ax ah=>?_,?_⟩,fun n h=>⟨h,rfl⟩,fun g _ h=>h⟩
      .rw[e,<-fc];exact(Q.own k C U m).1
      .by_cases e:g=K.aD n
       .rw[e,u]at ah;cases ah
       exact⟨ay,ax,by rw[ag g e];exact ah,rfl⟩
      exact RT u az aT
     have aB:=Ei Q U m aA (by rw[fc];exact ag) (xs:=ja C.xs f val) (.inr (.inr ⟨m,ao,c,z,by
      show(w.heap.setIfInBounds (K.aD n) (.map c z))[K.aD C.n]?=_;rw[fc];simp[az],.inl (by rw[aS,Y])⟩))
     refine KF aR (aK K _ undef aA ?_ (.v undef) (fun n h=>.inl h));rw[mr];rw[ao]at aB;exact aB
   exact trivial
  exact trivial
 exact trivial
theorem ai4{u:ef}{x:a7}{p:Operand}{t z e:TypeId}{c:Call}(C:o.op=.call c)(G:c.callee=.builtin .len)(I:c.args = #[p])(J:c.argTypes = #[t])(h1:ba p x=true)(M:P.underlying t=some (.map z e)):
 (x5 u H (aW tm x)).all (fun d t wr g=>bh P o x.reads tm H gen d t wr g) (fun _ _=>False):=by
 unfold x5;split
 .rename_i k n O;unfold B_;split
  .rename_i b Q;rintro⟨fc,af,dV⟩;refine bh.read fun Γ K ag a w U X Y=>?_
   have aw:=bL Y h1;rw[O]at aw;have m:=X k aF;rw[Q]at m;generalize Z:a.eval p=ah at aw;cases aw with
   |mp aa=>
    rcases U.obj k b m with⟨f,_⟩|⟨f,ai,aj,ak,ab,e8,_⟩|⟨f,al,q,ac,e8,j⟩
    .exact absurd (fc▸aa) f
    .have:=ab.2;omega
    have ae:w.heap[K.aD n]?=some (.map q ac):=B3;have j:b.xs=q.toList.map iu:=j.resolve_right H6;refine⟨.int .i64 (b.xs.length:Nat),?_,.v _⟩;rw[j];simp[execOp,C,resolve,G,I,J,Z,invoke,builtin,Builtin.len_,run_underlying M,_l ae,goInt]
  exact trivial
 exact trivial
theorem Qg:∀ {ks c:List IntKind} {xs ys:List Value},jZ ks xs=true->jZ ks ys=true->jZ c xs=true->jZ c ys=true
 |[],c,[],[],_,_,h=>h
 |[],_,_::_,_,h,_,_=>pj
 |[],_,[],_::_,_,h,_=>pj
 |_::_,_,[],_,h,_,_=>pj
 |_::_,_,_::_,[],_,h,_=>pj
 |_::_,[],x::_,_::_,_,_,h=>pj
 |k::ks,m::c,x::xs,y::ys,h1,h2,f=>by
  obtain⟨a,g⟩:=(q6 h1).2 0 k rfl;obtain⟨b,j⟩:=(q6 h2).2 0 k rfl;simp at g j;subst g j;simp only[jZ,my]at h1 h2 f⊢;exact⟨f.1,Qg h1.2 h2.2 f.2⟩
theorem CA{g c:ef}{s f:Value}(h1:cF g s=true)(h2:cF g f=true)(b:cF c s=true):cF c f=true:=by
 cases g with
 |one k=>
  cases s<;>simp only[cF,_e]at h1
  cases f<;>simp only[cF,_e]at h2
  cases c with
  |one j=>
   simp only[cF]at b⊢;rw[<-nO h2,nO h1];exact b
  |cells m=>simp[cF]at b
 |cells ks=>
  cases s<;>simp only[cF,_e]at h1
  cases f<;>simp only[cF,_e]at h2
  cases c with
  |one j=>simp[cF]at b
  |cells m=>
   simp only[cF]at b⊢;exact Qg h1 h2 b
theorem DW{f:ef}{a:Value}(h:cF f a=true):hD a a=true:=by
 cases f with
 |one k=>cases a<;>simp_all [cF,hD]
 |cells ks=>
  cases a<;>simp only[cF,_e]at h
  simp only[hD];exact(F0 h h).1.2 (fun i k a b j g c=>by rw[g]at c;injection c with c;injection c)
theorem tQ{m:ef}{k:Value}(f:cF m k=true):∀(l:List MapEntry)(i:Nat),(∀e∈l,cF m e.key=true)->
 (∃c e,h6 l k i=some (i+c,e.val)/\l[c]?=some e/\e.key=k)\/(h6 l k i=none/\∀e∈l,e.key≠k)
 |[],i,_=>.inr ⟨rfl,fun e g=>by simp at g⟩
 |e::l,i,h=>by
  by_cases b:hD k e.key=true
  .exact .inl ⟨0,e,by simp[h6,b],rfl,(tf f (h e aF) b).symm⟩
  have u:e.key≠k:=fun q=>b (by rw[q];exact DW f)
  rcases tQ f l (i+1) (fun e g=>h e (by simp[g]))with⟨c,v,h1,h2,z⟩|⟨h1,h2⟩
  .exact .inl ⟨c+1,v,by simp[h6,b,h1];omega,EP,z⟩
  refine .inr ⟨by simp[h6,b,h1],fun x j=>?_⟩;rcases _I.1 j with rfl|j
  .exact u
  exact h2 x j
theorem Th{j:ef}{f c v:Value}(g:cF j f=true)(m:cF j c=true):∀(r:List (List O)),(∀x∈r,∃a b,x=[.v a,.v b]/\cF j a=true)->j9 (ja r f v) c=if hD c f then some v else j9 r c
 |[],_=>by simp[ja,j9]
 |x::r,h=>by
  obtain⟨a,b,rfl,u⟩:=h x aF;have z:=Th (v:=v) g m r (fun x aP=>h x oT);simp only[ja];by_cases h1:hD f a=true
  .have C:=tf g u h1;subst C;simp only[h1,if_true,j9];by_cases h2:hD c f=true
   .simp[h2]
   simp[h2]
  simp only[h1,j9];by_cases h2:hD c a=true
  .have G:=tf m u h2;subst G;have I:¬hD c f=true:=fun q=>h1 (by rw[tf m g q];exact DW g)
   simp[j9,h2,I]
  simp[j9,h2,z]
theorem Xi{p:Value->Prop}{c v:Value}(f:p c):∀(r:List (List O)),(∀x∈r,∃a b,x=[.v a,.v b]/\p a)->∀x∈ja r c v,∃a b,x=[.v a,.v b]/\p a
 |[],_,x,aP=>by
  simp[ja]at aP;exact⟨c,v,aP,f⟩
 |y::r,h,x,aP=>by
  obtain⟨a,b,rfl,g⟩:=h y aF;simp only[ja]at aP;split at aP
  .rcases _I.1 aP with rfl|aP
   .exact⟨a,v,rfl,g⟩
   exact h x oT
  rcases _I.1 aP with rfl|aP
  .exact⟨a,b,rfl,g⟩
  exact Xi f r (fun x aP=>h x oT) x aP
theorem agT{k:Nat}{t:TypeId}{r:Option Operand}{c s:Value}(m:o.op=.makeMap t r)(q:r=none):
 bh P o [] tm H gen (.mp k gen) [k] [(k,some ⟨gen,0,[[.dY,.v c,.v s]]⟩)] 1:=by
 intro Γ K I a w J next f M O u z C;have g:¬K.bG gen:=u gen (_o _) G;subst q;refine jQ (v:=.map (some w.heap.size)) (w':=w.alloc (.map #[] 0)) ?_ (C (K.add gen w.heap.size) _ _ (qG _ (fun h=>g (f.db _ h))) ?_ ?_ ?_)
 .simp[execOp,m,Instr.makeMap]
 .rw[mr];exact Je f g z (.inr (.inr ⟨.inr rfl,rfl,#[],0,wm,.inr ⟨c,s,[],rfl,⟨fun e b=>by simp at b,fun x aP=>k4,fun _ _ _ _=>rfl,fun i e b=>by simp at b,rfl,fun i j e Q b=>by simp at b⟩⟩⟩))
 .exact UE
 exact oN
theorem MS{Γ:bw}{K:aO}{q:Nat->Option aR}{w:World}(G:Inv Γ K q w){k:Nat}{c:aR}(I:q k=some c)(J:K.real c.n)(Q:c.sz=0){u s:Value}{r:List (List O)}(x:c.xs=[.dY,.v u,.v s]::r):
 ∃f g,w.heap[K.aD c.n]?=some (.map f g)/\Cp u s r f g:=by
 rcases G.obj k c I with⟨j,_⟩|⟨j,U,X,Y,M,z,_⟩|⟨j,Z,f,g,z,b⟩
 .exact absurd J j
 .have:=M.2;omega
 refine⟨f,g,z,?_⟩;rcases b with b|⟨aa,ab,ac,m,hl⟩
 .exfalso;rw[x]at b;cases C:f.toList with
  |nil=>rw[C]at b;simp at b
  |cons e l=>rw[C]at b;simp[iu]at b
 rw[x]at m;simp only[List.cons.injEq,O.v.injEq,and_true,true_and]at m;obtain⟨⟨rfl,rfl⟩,rfl⟩:=m;exact hl
theorem aeH{b:ef}{c:Value}{f x:a7}{p q:Operand}{t j e:TypeId}(iw:o.op=.lookup t p q false)(h1:ba p f=true)(h2:ba q x=true)(cG:P.underlying t=some (.map j e))(Bv:lX P j b=true)(b3:sn P e c=true):
 (w_ b c H (aW tm f) (aW tm x)).all (fun d t wr g=>bh P o (f.reads++x.reads) tm H gen d t wr g) (fun _ _=>False):=by
 unfold w_;split
 .rename_i k n G;unfold AO;split
  .rename_i nC I;unfold BL;split
   .rename_i ab J;rintro⟨m,M⟩;unfold AZ;split
    .rename_i ac ae O Q;rintro⟨U,u,e0⟩;refine bh.read fun Γ K af a w X Y z=>?_
     have aw:=bL (c8 z) h1;have aY:=bL (cq z) h2;rw[G]at aw;have a8:=Db aY I;have C:=Y k aF;rw[J]at C;generalize bB:a.eval p=ag at aw;cases aw with
     |mp Z=>
      obtain⟨nD,ah,bO,hl⟩:=MS X C (by rw[m];exact Z) M Q;rw[m]at bO;have bV:=Ev (w:=w) Bv e0 nD.toList (fun e aa=>hl.uU e aa b u);refine⟨(j9 O nC).getD c,?_,.v _⟩;rw[U]at hl;rw[hl.val b nC u e0];exact aaN
    exact trivial
   exact trivial
  exact trivial
 exact trivial
theorem Jl{Γ:bw}{K:aO}{f:Nat->Option aR}{w:World}(m:Inv Γ K f w){k:Nat}{b:aR}(x:f k=some b)(c:K.real b.n)(X:b.sz=0){z es':Array MapEntry}{Y ck':Nat}(C:w.heap[K.aD b.n]?=some (.map z Y))
 (Z:∀(i:Nat)(e:MapEntry),z[i]?=some e->∃G:MapEntry,es'[i]?=some G/\G.key=e.key) {xs:List (List O)} (aa:xs=es'.toList.map iu\/∃I s r,xs=[.dY,.v I,.v s]::r/\Cp I s r es' ck') :
 dH K w K {w with heap:=w.heap.setIfInBounds (K.aD b.n) (.map es' ck')}/\Inv Γ K (fun j=>if j=k then some ⟨b.n,b.sz,xs⟩else f j) {w with heap:=w.heap.setIfInBounds (K.aD b.n) (.map es' ck')}/\({w with heap:=w.heap.setIfInBounds (K.aD b.n) (.map es' ck')}:World).heap[K.aD b.n]?=some (.map es' ck'):=by
 have J:=m.lt _ c;have M:({w with heap:=w.heap.setIfInBounds (K.aD b.n) (.map es' ck')}:World).heap[K.aD b.n]?=some (.map es' ck'):=by simp[J]
 have q:∀g,g≠K.aD b.n->({w with heap:=w.heap.setIfInBounds (K.aD b.n) (.map es' ck')}:World).heap[g]?=w.heap[g]?:=fun g Q=>by simp[Ne.symm Q]
 have U:dH K w K {w with heap:=w.heap.setIfInBounds (K.aD b.n) (.map es' ck')}:=by
  refine⟨⟨rfl,rfl,rfl,aF,fun g Q an=>q g (fun e=>an ?_),fun g ab t ax u=>?_,RT C J Z⟩,fun n h=>⟨h,rfl⟩,fun g _ h=>h⟩
  .rw[e];exact(m.own k b x c).1
  by_cases e:g=K.aD b.n
  .rw[e,C]at u;cases u
  exact⟨ab,ax,by rw[q g e];exact u,rfl⟩
 exact⟨U,Ei m x c U q (.inr (.inr ⟨c,X,es',ck',M,aa⟩)),M⟩
theorem aiC{J:ef}{aB:Value}{al x:a7}{p q:Operand}{t aC e:TypeId}(aE:o.op=.mapEntry t p q)(h1:ba p al=true)(h2:ba q x=true)(aG:P.underlying t=some (.map aC e))(am:lX P aC J=true)(aX:sn P e aB=true):
 (yK J aB H (aW tm al) (aW tm x)).all (fun d t wr g=>bh P o (al.reads++x.reads) tm H gen d t wr g) (fun _ _=>False):=by
 unfold yK;split
 .rename_i k n aZ;unfold z8;split
  .rename_i v a0;unfold Ae;split
   .rename_i I a1;rintro⟨a2,an⟩;unfold AN;split
    .rename_i C aH a3 ao;rintro⟨a4,aI,Q⟩;subst a4;intro Γ K aJ a w bb next ap a5 aK M bc aL;have aw:=bL (c8 aK) h1;have aY:=bL (cq aK) h2;rw[aZ]at aw;have G:=Db aY a0;have U:=a5 k aF;rw[a1]at U;generalize aM:a.eval p=bd at aw;cases aw with
     |mp Y=>
      subst a2;obtain⟨b,u,X,hl⟩:=MS ap U Y an ao;have aN:∀e∈b.toList,cF J e.key=true:=fun e he=>hl.uU e he J aI
      have M:=Ev (w:=w) am Q b.toList aN;have aO:∀(f:Nat->Option aR),f k=some I->(fun j=>if j=k then some (⟨I.n,I.sz,I.xs⟩:aR)else f j)=f:=fun f M=>by
       funext j;by_cases e:j=k
       .rw[if_pos e,e,M]
       rw[if_neg e]
      rcases tQ Q b.toList 0 aN with⟨ey,Z,aq,cR,ag⟩|⟨aq,cR⟩
      .rw[aq,_x]at M;have O:b[ey]?=some Z:=Ay;have a6:b.modify ey (fun e=>{e with key:=v})=b:=by
        apply Array.ext_getElem?;intro i;cases ah:b[i]? with
        |none=>simpa using ah
        |some aa=>
         rw[x2 ah];by_cases q:i=ey
         .subst q;rw[O]at ah;obtain rfl:=_b ah;rw[if_pos rfl,<-ag]
         rw[if_neg q]
       have be:((b[ey]?).map (·.born)).getD 0=ey:=by rw[O];exact hl.born ey Z O
       have bf:((b[ey]?).map (·.key)).getD v=v:=by rw[O];exact ag
       have ar:(execOp a.eval o).run P w=.ok (.value (.tuple #[Z.val,goInt ey])) {w with heap:=w.heap.setIfInBounds (K.aD I.n) (.map b u)}:=by simp[execOp,aE,aM,G,Instr.mapEntry,run_underlying aG,_l X,yT am Q,M,O,ag,hl.born ey Z O,_8,TW Q,_q _ X,a6]
       obtain⟨au,ab,ai⟩:=Jl ap U Y an X (es':=b) (ck':=u) (fun i e he=>⟨e,he,rfl⟩) (xs:=I.xs) (.inr ⟨_,_,_,ao,hl⟩);rw[aO aJ U]at ab;refine jQ ar (aL K _ _ au ab ?_ (fun n h=>.inl h));refine .aS rfl fun i d c m z=>?_
       match i,m,z with
       |0,m,z=>simp at m;rw[<-m];exact .any c
       |1,m,z=>simp at m z;rw[<-m,<-z];exact .gA Y ⟨b,u,Z,ai,O,ag⟩
       |i+2,m,z=>simp at m
      rw[aq]at M;have ar:(execOp a.eval o).run P w=.ok (.value (.tuple #[C,goInt u])) {w with heap:=w.heap.setIfInBounds (K.aD I.n) (.map (b.push ⟨v,C,u⟩) (u+1))}:=by simp[execOp,aE,aM,G,Instr.mapEntry,run_underlying aG,_l X,yT am Q,M,V6 aX,_q _ X]
      have ac:∀(i:Nat)(e:MapEntry),(b.push ⟨v,C,u⟩)[i]?=some e->b[i]?=some e\/(i=b.size/\e=⟨v,C,u⟩):=fun i e he=>by
       rw[_P]at he;by_cases q:i=b.size
       .rw[if_pos q]at he;exact .inr ⟨q,(_b he).symm⟩
       rw[if_neg q]at he;exact .inl he
      have aP:(b.push ⟨v,C,u⟩)[b.size]?=some ⟨v,C,u⟩:=by rw[_P,if_pos rfl]
      have aQ:∀e∈(b.push ⟨v,C,u⟩).toList,∀J,cF J aH=true->cF J e.key=true:=fun e he ae aT=>by
       rw[Array.toList_push]at he;rcases _n.1 he with he|he
       .exact hl.uU e he ae aT
       simp at he;rw[he];exact CA aI Q aT
      have a8:Cp C aH a3 (b.push ⟨v,C,u⟩) (u+1):=by
       refine⟨aQ,hl.rows,fun ae a9 av ax=>?_,fun i e he=>?_,by rw[hl.clock];simp,fun i j e ay h1 h2 az=>?_⟩
       .rw[hl.val ae a9 av ax];rcases tQ ax b.toList 0 (fun e he=>hl.uU e he ae av)with⟨aU,aa,f1,f2,f3⟩|⟨f1,f2⟩<;>rcases tQ ax (b.push ⟨v,C,u⟩).toList 0 (fun e he=>aQ e he ae av)with⟨af,G,f4,f5,f6⟩|⟨f4,f5⟩
        .rw[f1,f4];have aA:(b.push ⟨v,C,u⟩)[af]?=some G:=Il;have aV:b[aU]?=some aa:=by simpa using f2
         rcases ac af G aA with h|⟨_,rfl⟩
         .have:=hl.apart aU af aa G aV h (f3.trans f6.symm);subst this;rw[aV]at h;rw[_b h]
         exact absurd (f3.trans f6.symm) (cR aa (_j f2))
        .exact absurd f3 (f5 aa (by rw[Array.toList_push];exact _n.2 (.inl (_j f2))))
        .rw[f1,f4];have aA:(b.push ⟨v,C,u⟩)[af]?=some G:=Il;rcases ac af G aA with h|⟨_,rfl⟩
         .exact absurd f6 (f2 G (by simpa using _s h))
         rfl
        rw[f1,f4]
       .rcases ac i e he with h|⟨h,rfl⟩
        .exact hl.born i e h
        rw[h];exact hl.clock
       rcases ac i e h1 with aj|⟨aj,rfl⟩<;>rcases ac j ay h2 with ak|⟨ak,rfl⟩
       .exact hl.apart i j e ay aj ak az
       .exact absurd az (cR e (by simpa using _s aj))
       .exact absurd az.symm (cR ay (by simpa using _s ak))
       rw[aj,ak]
      obtain⟨au,ab,ai⟩:=Jl ap U Y an X (fun i e he=>⟨e,YZ he,rfl⟩) (xs:=I.xs) (.inr ⟨_,_,_,ao,a8⟩);rw[aO aJ U]at ab;refine jQ ar (aL K _ _ au ab ?_ (fun n h=>.inl h));refine .aS rfl fun i d c m z=>?_
      match i,m,z with
      |0,m,z=>simp at m;rw[<-m];exact .any c
      |1,m,z=>simp at m z;rw[<-m,<-z,hl.clock];exact .gA Y ⟨_,_,_,by rw[hl.clock]at ai;exact ai,by rw[hl.clock]at aP;exact aP,rfl⟩
      |i+2,m,z=>simp at m
    exact trivial
   exact trivial
  exact trivial
 exact trivial
theorem aa_{b:Array MapEntry}{i:Nat}{e:MapEntry}(c:∀(i:Nat)(e:MapEntry),b[i]?=some e->e.born=i)(h:b[i]?=some e):b.findIdx? (fun e=>(e.born:Int)==(i:Int))=some i:=by
 obtain⟨f,g⟩:=_t.1 h;refine Array.findIdx?_eq_some_iff_getElem.2 ⟨f,?_,fun j m=>?_⟩
 .simp[c i _ (_m f)]
 have:=c j _ (_m (G:j<b.size));simp only[this];simp;omega
theorem ajW{I:ef}{aj x v:a7}{p q ay:Operand}{t:TypeId}(aK:o.op=.entryStore t p q ay)(h1:ba p aj=true)(h2:ba q x=true)(ak:ba ay v=true):
 (xu I H (aW tm aj) (aW tm x) (aW tm v)).all (fun d t wr g=>bh P o (aj.reads++(x.reads++v.reads)) tm H gen d t wr g) (fun _ _=>False):=by
 unfold xu;split
 .rename_i k n a6 Q val aL al aM;rintro rfl;unfold Aq;split
  .rename_i aN aO;rintro⟨aP,am⟩;unfold By;split
   .rename_i az Z aa aQ;rintro⟨ab,U⟩;intro Γ K a8 a w a9 next aA aR an bb bc aS;have aw:=bL (c8 an) h1;have aY:=bL (c8 (cq an)) h2;have aB:=bL (cq (cq an)) ak;rw[aL]at aw;rw[al]at aY;rw[aM]at aB;have aT:=cQ aB;have ao:=aR k aF;rw[aO]at ao;subst aP;generalize aU:a.eval p=bd at aw;generalize aV:a.eval q=be at aY;cases aw with
    |mp aC=>
     cases aY with
     |@gA _ i _ _ aX=>
      obtain⟨f,ap,ac,hl⟩:=MS aA ao aC am aQ;obtain⟨bf,bg,ae,aE,af,aq⟩:=aX;rw[ac]at aE;obtain⟨rfl,rfl⟩:=aE;have aZ:=aa_ hl.born af;have a0:(execOp a.eval o).run P w=.ok .skip {w with heap:=w.heap.setIfInBounds (K.aD aN.n) (.map (f.modify i (fun e=>{e with val:=val})) ap)}:=by simp[execOp,aK,aU,aV,aT,Instr.entryStore,_l ac,asInt,asIntOf,aZ,_q _ ac]
      have X:∀(j:Nat)(e:MapEntry),(f.modify i (fun e=>{e with val:=val}))[j]?=some e->∃m,f[j]?=some m/\e.key=m.key/\e.born=m.born/\e.val=(if j=i then val else m.val):=fun j e c=>by
       cases cB:f[j]? with
       |none=>
        have:(f.modify i (fun e=>{e with val:=val}))[j]?=none:=zF;rw[this]at c;cases c
       |some m=>
        rw[x2 cB]at c;obtain rfl:=_b c;refine⟨m,rfl,?_⟩;by_cases q:j=i
        .rw[if_pos q,if_pos q];exact⟨rfl,rfl,rfl⟩
        rw[if_neg q,if_neg q];exact⟨rfl,rfl,rfl⟩
      have aG:∀e∈(f.modify i (fun e=>{e with val:=val})).toList,∀I,cF I Z=true->cF I e.key=true:=fun e c z ar=>by
       obtain⟨j,cB⟩:=_3.1 c;obtain⟨m,bp,u,_⟩:=X j e (by rw[Array.getElem?_toList]at cB;exact cB);rw[u];exact hl.uU m S0 z ar
      have a1:Cp az Z (ja aa Q val) (f.modify i (fun e=>{e with val:=val})) ap:=by
       refine⟨aG,Xi (p:=fun a=>∀I,cF I Z=true->cF I a=true) (fun z ar=>CA ab U ar) aa hl.rows,fun z J C G=>?_,fun j e c=>?_,by rw[hl.clock];simp,fun aH aI M au h1 h2 ak=>?_⟩
       .rw[Th (CA ab U C) G aa (fun x al=>by
         obtain⟨a,b,bp,u⟩:=hl.rows x al;exact⟨a,b,bp,u z C⟩)]
        have a2:(f.modify i (fun e=>{e with val:=val}))[i]?=some {ae with val:=val}:=by rw[x2 af,if_pos rfl]
        rcases tQ G (f.modify i (fun e=>{e with val:=val})).toList 0 (fun e c=>aG e c z C)with⟨ag,au,f4,f5,f6⟩|⟨f4,f5⟩
        .rw[f4];obtain⟨m,bp,u,ah,O⟩:=X ag au Il;by_cases av:ag=i
         .subst av;rw[af]at bp;obtain rfl:=_b bp;have:J=Q:=by rw[<-f6,u,aq]
          rw[this,if_pos (DW U),if_pos rfl]at *;simp[O]
         have ax:¬hD J Q=true:=fun q=>av (hl.apart ag i m ae bp af (by rw[<-u,f6,aq];exact tf G (CA ab U C) q))
         rw[if_neg ax,hl.val z J C G];rw[if_neg av]at O;rcases tQ G f.toList 0 (fun e c=>hl.uU e c z C)with⟨Y,M,f1,f2,f3⟩|⟨f1,f2⟩
         .have ai:f[Y]?=some M:=by simpa using f2
          have:=hl.apart Y ag M m ai bp (by rw[f3,<-u,f6]);subst this;rw[ai]at bp;obtain rfl:=_b bp;rw[f1];simp[O]
         exact absurd (u.symm.trans f6) (f2 m S0)
        rw[f4];have ax:¬hD J Q=true:=fun q=>f5 {ae with val:=val} (_4.2 (_s a2)) (by
         show ae.key=J;rw[aq];exact(tf G (CA ab U C) q).symm)
        rw[if_neg ax,hl.val z J C G];rcases tQ G f.toList 0 (fun e c=>hl.uU e c z C)with⟨Y,M,f1,f2,f3⟩|⟨f1,f2⟩
        .exfalso;have ai:f[Y]?=some M:=by simpa using f2
         have:=f5 _ (_4.2 (_s (x2 (m:=i) (f:=fun e=>{e with val:=val}) ai)));apply this;by_cases q:Y=i
         .rw[if_pos q];exact f3
         rw[if_neg q];exact f3
        rw[f1]
       .obtain⟨m,bp,u,ah,O⟩:=X j e c;rw[ah];exact hl.born j m bp
       obtain⟨a3,bp,u,_⟩:=X aH M h1;obtain⟨a4,ah,O,_⟩:=X aI au h2;exact hl.apart aH aI a3 a4 bp ah (by rw[<-u,<-O];exact ak)
      obtain⟨a5,aJ,_⟩:=Jl aA ao aC am ac (es':=f.modify i (fun e=>{e with val:=val})) (ck':=ap) (fun j e c=>⟨_,x2 c,by
       by_cases q:j=i
       .rw[if_pos q]
       rw[if_neg q]⟩) (xs:=[.dY,.v az,.v Z]::ja aa Q val) (.inr ⟨_,_,_,rfl,a1⟩)
      refine KF a0 (aS K _ undef a5 ?_ (.v undef) (fun n h=>.inl h));rw[mr];rw[am]at aJ;exact aJ
   exact trivial
  exact trivial
 exact trivial
theorem akt(w:World)(e:TypeId)(s:ByteArray):_u w e s=w.drew.alloc (.cells (_f w e s) e ((_f w e s).size,(_f w e s).size+1)):=by
 have b:(_u w e s).heap=(w.drew.alloc (.cells (_f w e s) e ((_f w e s).size,(_f w e s).size+1))).heap:=by
  apply Array.ext_getElem?;intro j;rcases _H j w.heap.size with h|h|h
  .rw[_z w e s j h];exact(RowKit.Below.heap_alloc w.drew _ j h).symm
  .subst h;rw[Lib.bytesWorld_at_new];exact(DU w.drew _).symm
  rw[_L (by rw[_Q];omega),_L];have:(w.drew.alloc (.cells (_f w e s) e ((_f w e s).size,(_f w e s).size+1))).heap.size=w.heap.size+1:=by
   show(w.heap.push _).size=_;simp
  omega
 have c:_u w e s={w.drew with heap:=(_u w e s).heap}:=by
  unfold _u World.freeze;rfl
 rw[c,b];rfl
theorem aeS{k:Nat}{x:a7}{s d el:TypeId}{p:Operand}(J:o.op=.convert s d p)(h1:ba p x=true)(aj:P.underlying s=some .string)(q:P.underlying d=some (.slice el))(M:P.underlying el=some (.int .u8)):
 (wQ k gen (aW tm x)).all (fun d t wr g=>bh P o x.reads tm H gen d t wr g) (fun _ _=>False):=by
 unfold wQ;split
 .rename_i b O;intro Γ K Q a w ae next f af U X Y Z;have C:¬K.bG gen:=X gen (_o _) G;have aw:=bL U h1;rw[O]at aw;have aa:=cQ aw;have I:=_W (P:=P) w s d el b aj q M;rw[akt]at I;have q:dH K w K w.drew:=⟨cN.sX rfl rfl rfl rfl,fun n h=>⟨h,rfl⟩,fun g _ h=>h⟩;have ab:Inv Γ K Q w.drew:=⟨f.ext.trans (cN.sX rfl rfl rfl rfl),f.base,fun k o h=>(f.obj k o h).mono q id (fun _=>rfl),f.inj,f.db,f.lt,f.dz,f.own,f.ga⟩;have ac:=grownCap_ge w b.size 0 el;have u:(_f w el b).size=grownCap w b.size 0 el:=by
   have:b.data.size=b.size:=rfl;simp[_f];omega
  refine jQ (v:=.slice (some ⟨w.heap.size,0,none⟩) b.size (grownCap w b.size 0 el)) (w':=w.drew.alloc (.cells (_f w el b) el ((_f w el b).size,(_f w el b).size+1))) (by simp only[execOp,J,aa,_p,I,_k,_N]) (Z (K.add gen w.heap.size) _ _ (q.trans (qG _ (fun h=>C (f.db _ h)))) ?_ ?_ ?_)
  .rw[mr];refine WQ (w:=w.drew) ab (.inr (_o _)) C Y G (fun h=>absurd rfl h) ?_ (fun y bB=>?_) (fun i y j ag m z=>?_)
   .rw[u,_7];have:(kq b).length=b.size:=Fq;omega
   .exact Yz
   unfold kq at m;rw[_w]at m;cases ay:b.data.toList[i]? with
   |none=>rw[ay]at m;cases m
   |some c=>
    rw[ay]at m;obtain rfl:=_b m;cases j with
    |succ j=>simp at z
    |zero=>
     simp at z;refine⟨.int .u8 c.toNat,?_,by rw[<-z];exact .v _⟩;have aN:i<b.data.size:=by have:=(_c.1 ay).1;simpa using this
     rw[_7,Nat.add_zero];unfold _f;rw[Array.getElem?_append_left wR,Array.getElem?_map];have:b.data[i]?=some c:=pU;rw[this];rfl
  .refine .aG ac (fun h=>ha) (.inr ⟨.inr rfl,?_,_f w el b,el,((_f w el b).size,(_f w el b).size+1),?_,?_,fun _=>?_⟩)
   .simp[aO.add]
   .exact ML
   .rw[u];simp
   rw[u];simp
  exact oN
 exact trivial
end
theorem bA.xR{j m:O->List Nat->List (Nat×Option aR)->Nat->Prop}{q u:FuncId->List O->Prop}(h:∀d t w g,j d t w g->m d t w g)(h2:∀f a,q f a->u f a):∀ {r:bA},r.all j q->r.all m u
 |.ok d t w g,b=>h _ _ _ _ b
 |.ite t x y,b=>⟨fun c=>bA.xR h h2 (b.1 c),fun c=>bA.xR h h2 (b.2 c)⟩
 |.need p x,b=>fun v=>bA.xR h h2 (b v)
 |.alt x y,b=>⟨bA.xR h h2 b.1,bA.xR h h2 b.2⟩
 |.call f a,b=>h2 _ _ b
 |.bad,_=>trivial
section
variable {P:Program} {o:Oper} {tm:bQ} {H:aV} {gen:Nat}
theorem NO{x:sW}{st:bb}(h:c6 P o.op x=true):(kI st x).all (fun d t wr g=>bh P o x.reads st.tm st.H st.gen d t wr g) (fun f ar=>nm P o x.reads st.tm f ar):=by
 have C:∀ {r:bA},r.all (fun d t wr g=>bh P o x.reads st.tm st.H st.gen d t wr g) (fun _ _=>False)->r.all (fun d t wr g=>bh P o x.reads st.tm st.H st.gen d t wr g) (fun f ar=>nm P o x.reads st.tm f ar):=
  fun aH=>bA.xR (fun _ _ _ _ h=>h) (fun _ _ h=>h.elim) aH
 cases x with
 |makeMap k=>
  simp only[c6]at h;split at h
  .rename_i t r m;exact adj m hc
  cases h
 |zG an ak b i=>
  simp only[c6]at h;split at h
  .rename_i t a q ok m;simp only[_a,_G]at h;obtain⟨⟨⟨h1,h2⟩,rfl⟩,u⟩:=h;split at u
   .rename_i au e z;simp only[_a]at u;exact C (al2 m h1 h2 z u.1 u.2)
   cases u
  cases h
 |zv an b i v=>
  simp only[c6]at h;split at h
  .rename_i t a q aI m;simp only[_a]at h;obtain⟨⟨⟨h1,h2⟩,u⟩,J⟩:=h;split at J
   .rename_i au e z;exact C (aeg m h1 h2 u z J)
   cases J
  cases h
 |B4 k an ak s=>
  simp only[c6]at h;split at h
  .rename_i t r m;exact agT m hc
  cases h
 |Be an ak b i=>
  simp only[c6]at h;split at h
  .rename_i t a q ok m;simp only[_a,_G]at h;obtain⟨⟨⟨h1,h2⟩,rfl⟩,u⟩:=h;split at u
   .rename_i au e z;simp only[_a]at u;exact C (aeH m h1 h2 z u.1 u.2)
   cases u
  cases h
 |zy an ak b i=>
  simp only[c6]at h;split at h
  .rename_i t a q m;simp only[_a]at h;obtain⟨⟨h1,h2⟩,u⟩:=h;split at u
   .rename_i au e z;simp only[_a]at u;exact C (aiC m h1 h2 z u.1 u.2)
   cases u
  cases h
 |AX an b i v=>
  simp only[c6]at h;split at h
  .rename_i t a q aI m;simp only[_a]at h;exact C (ajW m h.1.1 h.1.2 h.2)
  cases h
 |C2 _ b=>
  simp only[c6]at h;split at h
  .rename_i c m;simp only[_a]at h;obtain⟨h1,h2⟩:=h;split at h1
   .rename_i G;split at h2
    .rename_i a t M Q;simp only[_a]at h2;obtain⟨h2,u⟩:=h2;split at u
     .rename_i au e z;exact C (ai4 m G (_g M) (_g Q) h2 z)
     cases u
    cases h2
   cases h1
  cases h
 |AA k b=>
  simp only[c6]at h;split at h
  .rename_i s d a m;simp only[_a]at h;obtain⟨⟨h1,h2⟩,u⟩:=h;split at h2
   .rename_i aj;split at u
    .rename_i el af;split at u
     .rename_i ao;exact C (aeS m h1 aj af ao)
     cases u
    cases u
   cases h2
  cases h
 |move b=>
  simp only[c6]at h;split at h
  .rename_i a m;exact XG (.inl m) h
  .rename_i a m;exact XG (.inr m) h
  cases h
 |pick c a b=>
  simp only[c6]at h;split at h
  .rename_i aN aO aP m;simp only[_a]at h;exact C (afm m h.1.1 h.1.2 h.2)
  cases h
 |box k n b=>
  simp only[c6]at h;split at h
  .rename_i t a m;simp only[_a]at h;exact C (agL m h.1 h.2)
  cases h
 |alloc k zs=>
  simp only[c6]at h;split at h
  .rename_i t m;simp only[_a,decide_eq_true_eq]at h;exact aed m h.1 h.2
  cases h
 |BV k zs T=>
  simp only[c6]at h;split at h
  .rename_i t m;simp only[_a,decide_eq_true_eq]at h;obtain⟨rfl,h1,h2⟩:=h;exact aiQ m h1 h2
  cases h
 |build zs parts=>
  simp only[c6]at h;split at h
  .rename_i t ps m;simp only[_a]at h;obtain⟨⟨h1,h2⟩,u⟩:=h;split at h2
   .rename_i aB aJ;exact fun ax=>ahY m h1 aJ h2 u ax
   cases h2
  cases h
 |buildSlice k len zs parts aQ=>
  simp only[c6]at h;split at h
  .rename_i t n ps m;simp only[_a,decide_eq_true_eq]at h;obtain⟨⟨h1,h2⟩,u⟩:=h;split at h2
   .rename_i e z;simp only[_a,decide_eq_true_eq]at h2;exact fun ax=>ajR m h1 z h2.1.1 h2.1.2 h2.2 u ax
   cases h2
  cases h
 |load aC n p=>
  simp only[c6]at h;split at h
  .rename_i t a m;simp only[_a,_h,decide_eq_true_eq]at h;exact C (agD m h.1.1.1 h.1.1.2 h.1.2 h.2)
  cases h
 |store n p b=>
  simp only[c6]at h;split at h
  .rename_i t q a m;simp only[_a]at h;exact C (abn m h.1.1 h.1.2 h.2)
  cases h
 |nilCheck b=>
  simp only[c6]at h;split at h
  .rename_i a m;exact C (ak0 m h)
  cases h
 |fieldAddr off p=>
  simp only[c6]at h;split at h
  .rename_i t a i m;simp only[_a]at h;obtain⟨h1,h2⟩:=h;split at h2
   .rename_i aB z;split at h2
    .rename_i f ay;simp only[_a,decide_eq_true_eq]at h2;exact C (aiX m h1 z ay h2.1.1 h2.1.2 h2.2)
    cases h2
   cases h2
  cases h
 |field aC off n b=>
  simp only[c6]at h;split at h
  .rename_i t a i m;simp only[_a]at h;obtain⟨h1,h2⟩:=h;split at h2
   .rename_i aB z;split at h2
    .rename_i f ay;simp only[_a,_h,decide_eq_true_eq]at h2;exact C (acC m h1 z ay h2.1.1.1 h2.1.1.2 h2.1.2 h2.2)
    cases h2
   cases h2
  cases h
 |bin op b c=>
  simp only[c6]at h;split at h
  .rename_i av t a d Y m;simp only[_a,decide_eq_true_eq]at h;obtain⟨⟨rfl,h1⟩,h2⟩:=h;exact C (acp m h1 h2)
  cases h
 |un op b=>
  simp only[c6]at h;split at h
  .rename_i av t a m;simp only[_a,decide_eq_true_eq]at h;obtain⟨rfl,h1⟩:=h;exact C (adg m h1)
  cases h
 |Cb k b=>
  simp only[c6]at h;split at h
  .rename_i s d a m;simp only[_a]at h;obtain⟨⟨h1,h2⟩,u⟩:=h;split at h2
   .rename_i ar aj;split at u
    .rename_i aR af;exact C (aca m h1 aj af u)
    cases u
   cases h2
  cases h
 |extract i b=>
  simp only[c6]at h;split at h
  .rename_i a j m;simp only[_a,decide_eq_true_eq]at h;obtain⟨h1,rfl⟩:=h;exact C (aeh m h1)
  cases h
 |len b=>
  simp only[c6]at h;split at h
  .rename_i c m;simp only[_a]at h;obtain⟨h1,h2⟩:=h;split at h1
   .rename_i G;split at h2
    .rename_i a t M Q;simp only[_a]at h2;obtain⟨h2,u⟩:=h2;split at u
     .rename_i e z;exact C (acK m G (_g M) (_g Q) h2 z)
     cases u
    cases h2
   cases h1
  cases h
 |AG sz b i=>
  simp only[c6]at h;split at h
  .rename_i t a q m;simp only[_a]at h;obtain⟨⟨h1,h2⟩,u⟩:=h;split at u
   .rename_i e z;exact C (aln m h1 h2 z u)
   cases u
  cases h
 |Co sz n b i=>
  simp only[c6]at h;split at h
  .rename_i t a q m;simp only[_a]at h;obtain⟨⟨h1,h2⟩,u⟩:=h;split at u
   .rename_i al e z;simp only[_a,decide_eq_true_eq]at u;exact C (abG m h1 h2 z u.1.1 u.1.2)
   cases u
  cases h
 |Ab sz n g i=>
  simp only[c6]at h;split at h
  .rename_i t a q m;simp only[_a]at h;obtain⟨⟨h1,h2⟩,u⟩:=h;split at h1
   .split at u
    .rename_i al e z;simp only[_a,decide_eq_true_eq]at u h1;subst h1;exact C (aiK m rfl h2 z u.1.1 u.1.2)
    cases u
   cases h1
  cases h
 |append k sz bytes b d=>
  simp only[c6]at h;split at h
  .rename_i c m;simp only[_a]at h;obtain⟨h1,h2⟩:=h;split at h1
   .rename_i G;split at h2
    .rename_i a e t Y M Q;simp only[_a]at h2;obtain⟨⟨⟨Z,aa⟩,O⟩,U⟩:=h2;split at O
     .rename_i el z;simp only[_a,decide_eq_true_eq]at O;obtain⟨⟨ap,am⟩,ab⟩:=O;obtain⟨aD,ac,ag⟩:=lT ap;rw[ac]at ab;simp only[_a,decide_eq_true_eq]at ab;obtain⟨ah,X⟩:=ab;split at X
      .rename_i ak ai;split at U
       .rename_i aE ae;exact C (Ze ⟨m,G,_g M,_g Q,z,.inl ⟨_,ae⟩,ac,ag,ah,ai,of_decide_eq_true X,am⟩ Z aa)
       .rename_i ae;exact C (Ze ⟨m,G,_g M,_g Q,z,.inr ae,ac,ag,ah,ai,of_decide_eq_true X,am⟩ Z aa)
       cases U
      cases X
     cases O
    cases h2
   cases h1
  cases h
 |Au k bytes T b d=>
  simp only[c6]at h;split at h
  .rename_i c m;simp only[_a]at h;obtain⟨h1,h2⟩:=h;split at h1
   .rename_i G;split at h2
    .rename_i a e t Y M Q;simp only[_a]at h2;obtain⟨⟨⟨Z,aa⟩,O⟩,U⟩:=h2;split at O
     .rename_i el z;simp only[_a,decide_eq_true_eq]at O;obtain⟨⟨ap,am⟩,ab⟩:=O;subst am;obtain⟨aD,ac,ag⟩:=lT ap;rw[ac]at ab;simp only[_a,decide_eq_true_eq]at ab;obtain⟨ah,X⟩:=ab;split at X
      .rename_i ak ai;split at U
       .rename_i aE ae;exact C (RG ⟨m,G,_g M,_g Q,z,.inl ⟨_,ae⟩,ac,ag,ah,ai,of_decide_eq_true X,Nat.one_pos⟩ Z aa)
       .rename_i ae;exact C (RG ⟨m,G,_g M,_g Q,z,.inr ae,ac,ag,ah,ai,of_decide_eq_true X,Nat.one_pos⟩ Z aa)
       cases U
      cases X
     cases O
    cases h2
   cases h1
  cases h
 |eqs neg ks b d=>
  simp only[c6]at h;split at h
  .rename_i av t a e Y m;simp only[_a,decide_eq_true_eq,_G]at h;obtain⟨⟨⟨⟨⟨Z,aa⟩,O⟩,U⟩,aK⟩,aL⟩:=h;exact C (alK m Z aa O U aK aL)
  cases h
 |B2 neg b d=>
  simp only[c6]at h;split at h
  .rename_i av t a e Y m;simp only[_a]at h;obtain⟨⟨⟨Z,aa⟩,O⟩,U⟩:=h;split at U
   .rename_i z;exact C (agA m Z aa O z)
   cases U
  cases h
 |Ag b d=>
  simp only[c6]at h;split at h
  .rename_i c m;simp only[_a]at h;obtain⟨h1,h2⟩:=h;split at h1
   .rename_i G;split at h2
    .rename_i a e t Y M Q;simp only[_a]at h2;exact C (Wj (mx:=false) m G (_g M) h2.1 h2.2)
    cases h2
   cases h1
  cases h
 |y_ b d=>
  simp only[c6]at h;split at h
  .rename_i c m;simp only[_a]at h;obtain⟨h1,h2⟩:=h;split at h1
   .rename_i G;split at h2
    .rename_i a e t Y M Q;simp only[_a]at h2;exact C (Wj (mx:=true) m G (_g M) h2.1 h2.2)
    cases h2
   cases h1
  cases h
 |CM f first aS=>
  simp only[c6]at h;split at h
  .rename_i g aT aU m;simp only[_a]at h;exact aeJ m (of_decide_eq_true h.1.1) h.1.2 h.2
  cases h
 |slice sz b aF aw aM=>
  simp only[c6]at h;split at h
  .rename_i t a l az al m;simp only[_a]at h;obtain⟨⟨⟨⟨h1,h2⟩,u⟩,J⟩,I⟩:=h;split at I
   .rename_i e z;exact C (aji m h1 h2 u J z I)
   cases I
  cases h
 |AP neg b=>
  simp only[c6]at h;split at h
  .rename_i aA t a e Y m;simp only[_a]at h;obtain⟨⟨⟨h1,h2⟩,u⟩,J⟩:=h;split at J
   .rename_i e z;exact C (akD m h1 h2 u z)
   cases J
  cases h
 |zE aA b c=>
  simp only[c6]at h;split at h
  .rename_i av t a d Y m;simp only[_a]at h;obtain⟨⟨⟨h1,h2⟩,u⟩,J⟩:=h;have e:=of_decide_eq_true h1;subst e;exact C (agO m h2 u)
  cases h
 |A1 b=>
  simp only[c6]at h;split at h
  .rename_i c m;simp only[_a]at h;obtain⟨h1,h2⟩:=h;split at h1
   .rename_i G;split at h2
    .rename_i a t M Q;simp only[_a]at h2;obtain⟨h2,u⟩:=h2;split at u
     .rename_i z;exact C (afA m G (_g M) (_g Q) h2 z)
     cases u
    cases h2
   cases h1
  cases h
 |Bu b i=>
  simp only[c6]at h;split at h
  .rename_i t a q m;simp only[_a]at h;obtain⟨⟨h1,h2⟩,u⟩:=h;split at u
   .rename_i z;exact C (ahQ m h1 h2 z)
   cases u
  cases h
 |substr b aF aw=>
  simp only[c6]at h;split at h
  .rename_i t a l az al m;simp only[_a]at h;obtain⟨⟨⟨⟨h1,h2⟩,u⟩,J⟩,I⟩:=h;split at I
   .rename_i z;exact C (ajD m h1 h2 u (_V.1 J) z)
   cases I
  cases h
 |makeSlice k bytes zs b d=>
  simp only[c6]at h;split at h
  .rename_i t l c m;simp only[_a]at h;obtain⟨⟨h1,h2⟩,u⟩:=h;split at u
   .rename_i el z;simp only[_a,decide_eq_true_eq]at u;obtain⟨⟨J,I⟩,aq⟩:=u;split at aq
    .rename_i i aw;exact C (abR m h1 h2 z J I aw (of_decide_eq_true aq))
    cases aq
   cases u
  cases h
 |clear zs b=>
  simp only[c6]at h;split at h
  .rename_i c m;simp only[_a]at h;obtain⟨h1,h2⟩:=h;split at h1
   .rename_i G;split at h2
    .rename_i a t M Q;simp only[_a]at h2;obtain⟨h2,u⟩:=h2;split at u
     .rename_i el z;simp only[_a,decide_eq_true_eq]at u;exact C (akX m G (_g M) (_g Q) h2 z u.1 u.2)
     cases u
    cases h2
   cases h1
  cases h
 |Bi sz b aF aw aM=>
  simp only[c6]at h;split at h
  .rename_i t a l az al m;simp only[_a]at h;obtain⟨⟨⟨⟨h1,h2⟩,u⟩,J⟩,I⟩:=h;split at I
   .rename_i e z;exact C (ajd m h1 h2 u J z I)
   cases I
  cases h
 |C_ sz bytes b d=>
  simp only[c6]at h;split at h
  .rename_i c m;simp only[_a]at h;obtain⟨h1,h2⟩:=h;split at h1
   .rename_i G;split at h2
    .rename_i a e t Y M Q;simp only[_a]at h2;obtain⟨⟨⟨Z,aa⟩,O⟩,U⟩:=h2;split at O
     .rename_i el z;simp only[_a,decide_eq_true_eq]at O;obtain⟨⟨ap,am⟩,ab⟩:=O;obtain⟨aD,ac,ag⟩:=lT ap;rw[ac]at ab;simp only[_a,decide_eq_true_eq]at ab;obtain⟨ah,X⟩:=ab;split at X
      .rename_i ak ai;split at U
       .rename_i aE ae;exact C (air ⟨m,G,_g M,_g Q,z,.inl ⟨_,ae⟩,ac,ag,ah,ai,of_decide_eq_true X,am⟩ Z aa)
       cases U
      cases X
     cases O
    cases h2
   cases h1
  cases h
 |BS b=>
  simp only[c6]at h;split at h
  .rename_i s d a m;simp only[_a]at h;obtain⟨⟨h1,h2⟩,u⟩:=h;split at h2
   .rename_i el aj;split at h2
    .rename_i ao;split at u
     .rename_i af;exact C (ag3 m h1 aj ao af)
     cases u
    cases h2
   cases h2
  cases h
 |C8 aC sz n b i=>
  simp only[c6]at h;split at h
  .rename_i t a q m;simp only[_a]at h;obtain⟨⟨h1,h2⟩,u⟩:=h;split at u
   .rename_i al e z;simp only[_a,_h,decide_eq_true_eq]at u;exact C (alM m h1 h2 z u.1.1.1 u.1.1.2 u.1.2 u.2)
   cases u
  cases h
 |Bj neg b=>
  simp only[c6]at h;split at h
  .rename_i aA t a e Y m;simp only[_a]at h;obtain⟨⟨⟨h1,h2⟩,u⟩,J⟩:=h;split at J
   .rename_i e z;exact C (aeb m h1 h2 u z)
   cases J
  cases h
 |Cg neg b=>
  simp only[c6]at h;split at h
  .rename_i aA t a e Y m;simp only[_a]at h;obtain⟨⟨⟨h1,h2⟩,u⟩,J⟩:=h;split at J
   .rename_i e z;exact C (ad0 m h1 h2 u z)
   cases J
  cases h
 |Cr sz n b=>
  simp only[c6]at h;split at h
  .rename_i t a l az al m;simp only[_a,_V]at h;obtain⟨⟨⟨⟨h1,rfl⟩,rfl⟩,rfl⟩,I⟩:=h;split at I
   .rename_i q e z;simp only[_a,decide_eq_true_eq]at I;obtain⟨aq,rfl⟩:=I;exact C (ah9 m h1 z aq)
   cases I
  cases h
 |Ai b=>
  simp only[c6]at h;split at h
  .rename_i s d a m;simp only[_a]at h;obtain⟨⟨h1,h2⟩,u⟩:=h;split at h2
   .rename_i aj;split at u
    .rename_i el af;split at u
     .rename_i ao;exact C (amc m h1 aj af ao)
     cases u
    cases u
   cases h2
  cases h
 |zx n b=>
  simp only[c6]at h;split at h
  .rename_i t a m;simp only[_a]at h;obtain⟨h1,I⟩:=h;split at I
   .rename_i q e z;simp only[decide_eq_true_eq]at I;obtain rfl:=I;exact C (aiE m h1 z)
   cases I
  cases h
 |ext k aG=>
  simp only[c6]at h;split at h
  .rename_i c m;simp only[_a]at h;obtain⟨h1,h2⟩:=h;split at h1
   .rename_i g G;exact C (adF m G h1 h2)
   cases h1
  cases h
 |dead=>exact trivial
 |A8 b aG=>
  simp only[c6]at h;split at h
  .rename_i c m;simp only[_a]at h;obtain⟨h1,h2⟩:=h;split at h1
   .rename_i y G;exact alk m G h1 h2
   cases h1
  cases h
 |call f aG=>
  simp only[c6]at h;split at h
  .rename_i c m;simp only[_a]at h;obtain⟨⟨h1,h2⟩,u⟩:=h;split at h1
   .rename_i g G;exact ald m G (of_decide_eq_true h1) h2
   cases h1
  cases h
end
def aO.cut(K:aO)(w:World):aO:=⟨K.bG,K.real,K.aD,fun g=>K.M g/\g<w.heap.size⟩
def cz(K:aO)(w:World)(g0:Nat)(b:aV):bw:={w0:=w,W0:=fun g=>∃k o,aB b k=some o/\K.real o.n/\K.aD o.n=g,K0:=K.cut w,g0:=g0}
def b1(P:Program)(f:FuncId)(m:List O)(b:aV)(R:O->aV->Prop):Prop:=k6 P f=true/\
 ∀(K:aO)(w:World)(c:Array Value)(g0:Nat),Inv (cz K w g0 b) (K.cut w) (aB b) w->(∀n,K.bG n->n<g0)->dS (K.cut w) w m c->
  Calls P f c w fun e g=>∃v d j,e=.returned v/\R d j/\Inv (cz K w g0 b) (K.cut w) (aB j) g/\aJ (K.cut w) g d v
def Spec(P:Program)(f:FuncId)(b:List O)(D:O):Prop:=b1 P f b [] fun d H=>d=D/\H=[]
def ml(P:Program)(f:FuncId)(u:List O)(g:aV)(R:Nat->O->aV->Prop):Prop:=k6 P f=true/\
 ∀(K:aO)(w:World)(j:Array Value)(g0:Nat),Inv (cz K w g0 g) (K.cut w) (aB g) w->(∀n,K.bG n->n<g0)->dS (K.cut w) w u j->
  Calls P f j w fun e m=>∃v,e=.returned v/\∀n,¬K.bG n->∃(c:aO)(d:O)(q:aV),R n d q/\(∀b,c.bG b↔K.bG b\/b=n)/\(∀b,c.real b->K.real b\/b=n)/\Inv (cz K w n g) c (aB q) m/\aJ c m d v
def fi(P:Program)(f:FuncId)(x:List O)(j:aV)(c:Nat)(R:Nat->O->aV->Prop):Prop:=k6 P f=true/\
 ∀(K:aO)(w:World)(m:Array Value)(g0:Nat),Inv (cz K w g0 j) (K.cut w) (aB j) w->(∀n,K.bG n->n<g0)->dS (K.cut w) w x m->
  Calls P f m w fun e q=>∃v,e=.returned v/\∀n,(∀b,n<=b->b<n+c->¬K.bG b)->∃(g:aO)(d:O)(u:aV),R n d u/\(∀b,g.bG b↔K.bG b\/(n<=b/\b<n+c))/\(∀b,g.real b->K.real b\/(n<=b/\b<n+c))/\Inv (cz K w n j) g (aB u) q/\aJ g q d v
structure e6 where
 (nj wr:List Nat)
def hg(tm:bQ)(d:Option bK)(v:O):bQ:=
 match d with
 |some s=>tm.set s v
 |none=>tm
def d_:aV->List (Nat×Option aR)->aV
 |H,[]=>H
 |H,(k,o)::r=>d_ (cl H k o) r
def fD:List (Nat×Option aR)->List Nat
 |[]=>[]
 |(k,_)::r=>k::fD r
def fI:List Nat->aV->List (Nat×Option aR)
 |k::r,o::s=>(k,o)::fI r s
 |_,_=>[]
def fF(H:aV):List Nat->aV
 |[]=>[]
 |k::r=>aB H k::fF H r
def abC(P:Program)(F:List cP->bb->List e6->Prop)(r:List cP)(st:bb)(dst:Option bK)(tr:List e6)(f:FuncId)(q:List O):Prop:=
 (∃(ks:List Nat)(g:List O)(D:O)(b:aV),(∀K w j,dS K w q j->dS K w g j)/\ks.Nodup/\b.length=ks.length/\b1 P f g (fF st.H ks) (fun d H=>d=D/\H=b)/\
   F r ⟨hg st.tm dst D,d_ st.H (fI ks b),st.gen⟩ (⟨ks,ks⟩::tr))\/
 (∃(ks:List Nat)(g:List O)(D:Nat->O)(b:aV)(k sz:Nat)(xs:List (List O)),(∀K w j,dS K w q j->dS K w g j)/\ks.Nodup/\b.length=ks.length/\
   ml P f g (fF st.H ks) (fun n d H=>d=D n/\H=b++[some ⟨n,sz,xs⟩])/\
   F r ⟨hg st.tm dst (D st.gen),d_ st.H (fI ks b++[(k,some ⟨st.gen,sz,xs⟩)]),st.gen+1⟩ (⟨ks++[k],ks++[k]⟩::tr))\/
 (∃(ks m:List Nat)(g:List O)(c:Nat)(D:Nat->O)(b:Nat->aV),(∀K w j,dS K w q j->dS K w g j)/\(ks++m).Nodup/\(b st.gen).length=(ks++m).length/\
   fi P f g (fF st.H ks) c (fun n d H=>d=D n/\H=b n)/\
   F r ⟨hg st.tm dst (D st.gen),d_ st.H (fI (ks++m) (b st.gen)),st.gen+c⟩ (⟨ks++m,ks++m⟩::tr))
def bc(P:Program)(F:List cP->bb->List e6->Prop)(r:List cP)(st:bb)(dst:Option bK)(tr:List e6):bA->Prop
 |.ok v t wr g=>F r ⟨hg st.tm dst v,d_ st.H wr,st.gen+g⟩ (⟨t,fD wr⟩::tr)
 |.ite t x y=>match t with
  |true=>bc P F r st dst tr x
  |false=>bc P F r st dst tr y
 |.need p x=>p/\bc P F r st dst tr x
 |.alt x y=>bc P F r st dst tr x\/bc P F r st dst tr y
 |.call f b=>abC P F r st dst tr f b
 |.bad=>False
def uG:bA:=.ok (.v undef) [] [] 0
def yO(c:bA)(b:Bool):O->bA
 |.v (.bool t)=>match b with
  |true=>.ite t c uG
  |false=>.ite t uG c
 |.v (.tuple _)=>uG
 |_=>.bad
def oJ(tm:bQ)(c:bA):Option (bK×Bool)->bA
 |none=>c
 |some (s,b)=>yO c b (tm.get s)
def run(P:Program)(b:bb->List e6->Prop):Nat->List cP->bb->List e6->Prop
 |0,_,_,_=>False
 |_+1,[],st,tr=>b st tr
 |n+1,o::r,st,tr=>bc P (run P b n) r st o.dst tr (oJ st.tm (kI st o.op) o.g)
section
variable {P:Program} {F:List cP->bb->List e6->Prop} {r:List cP} {st:bb} {dst:Option bK} {tr:List e6}
theorem IZ(v:O)(t:List Nat)(wr:List (Nat×Option aR))(g:Nat):bc P F r st dst tr (.ok v t wr g)=F r ⟨hg st.tm dst v,d_ st.H wr,st.gen+g⟩ (⟨t,fD wr⟩::tr):=rfl
theorem Bp(x y:bA):bc P F r st dst tr (.ite true x y)=bc P F r st dst tr x:=rfl
theorem zu(x y:bA):bc P F r st dst tr (.ite false x y)=bc P F r st dst tr y:=rfl
theorem agp{t:Bool}{x y:bA}(h1:t=true->bc P F r st dst tr x)(h2:t=false->bc P F r st dst tr y):bc P F r st dst tr (.ite t x y):=by exact ZW
theorem aK{p:Prop}{x:bA}(h1:p)(h2:bc P F r st dst tr x):bc P F r st dst tr (.need p x):=⟨h1,h2⟩
theorem hZ{x y:bA}(h:bc P F r st dst tr x):bc P F r st dst tr (.alt x y):=.inl h
theorem zi{x y:bA}(h:bc P F r st dst tr y):bc P F r st dst tr (.alt x y):=.inr h
theorem fS{f:FuncId}{b:List O}{D:O}(h1:Spec P f b D)(h2:F r ⟨hg st.tm dst D,st.H,st.gen⟩ (⟨[],[]⟩::tr)):bc P F r st dst tr (.call f b):=
 .inl ⟨[],b,D,[],fun _ _ _ h=>h,List.nodup_nil,rfl,h1,h2⟩
theorem bE{f:FuncId}{j:List O}{D D':O}{o g:Option aR}(k:Nat)(m:aB st.H k=o)(h1:b1 P f j [o] (fun d H=>d=D/\H=[g]))(ec:∀K w v,aJ K w D v->aJ K w D' v)(h2:F r ⟨hg st.tm dst D',d_ st.H [(k,g)],st.gen⟩ (⟨[k],[k]⟩::tr)):bc P F r st dst tr (.call f j):=by
 refine .inl ⟨[k],j,D',[g],fun _ _ _ h=>h,aF,rfl,⟨h1.1,fun K w q g0 a b c=>?_⟩,h2⟩;have e:fF st.H [k]=[o]:=by rw[<-m];rfl
 rw[e]at a⊢;refine(h1.2 K w q g0 a b c).mono ?_;rintro e C ⟨v,d,G,u,⟨rfl,rfl⟩,x,z⟩;exact⟨v,D',[g],u,⟨rfl,rfl⟩,x,ec _ _ _ z⟩
theorem oM{f:FuncId}{b:List O}{D:Nat->O}{sz:Nat}{xs:List (List O)}(k:Nat)(h1:ml P f b [] (fun n d H=>d=D n/\H=[some ⟨n,sz,xs⟩]))(h2:F r ⟨hg st.tm dst (D st.gen),d_ st.H [(k,some ⟨st.gen,sz,xs⟩)],st.gen+1⟩ (⟨[k],[k]⟩::tr)):bc P F r st dst tr (.call f b):=
 .inr (.inl ⟨[],b,D,[],k,sz,xs,fun _ _ _ h=>h,List.nodup_nil,rfl,h1,h2⟩)
theorem On{f:FuncId}{m:List O}{c:Nat}{D:Nat->O}{g:Nat->aV}{o:Option aR}(j:Nat)(b:List Nat)(q:(j::b).Nodup)(hl:(g st.gen).length=b.length+1)(u:aB st.H j=o)(h1:fi P f m [o] c (fun n d H=>d=D n/\H=g n))(h2:F r ⟨hg st.tm dst (D st.gen),d_ st.H (fI (j::b) (g st.gen)),st.gen+c⟩ (⟨j::b,j::b⟩::tr)):bc P F r st dst tr (.call f m):=by
 refine .inr (.inr ⟨[j],b,m,c,D,g,fun _ _ _ h=>h,q,hl,?_,h2⟩);have e:fF st.H [j]=[o]:=by rw[<-u];rfl
 rw[e];exact h1
end
def vY(N:Nat):Option Tmp->Option bK->Bool
 |none,none=>true
 |some t,some s=>decide (t=s.nat)&&decide (t<N)
 |_,_=>false
def Dx(ops:Array Oper):Option (Nat×Bool)->Option (bK×Bool)->Bool
 |none,none=>true
 |some (j,b),some (s,c)=>(b==c)&&decide ((ops[j]?).bind (·.dst)=some s.nat)
 |_,_=>false
def sA(P:Program)(N:Nat)(ops:Array Oper)(o:Oper)(x:cP):Bool:=c6 P o.op x.op&&vY N o.dst x.dst&&Dx ops o.guard x.g
def kK(P:Program)(N:Nat)(ops:Array Oper):List Oper->List cP->Bool
 |[],[]=>true
 |o::r,x::s=>sA P N ops o x&&kK P N ops r s
 |_,_=>false
theorem y2:∀(wr:List (Nat×Option aR))(H:aV),gT (aB H) wr=aB (d_ H wr)
 |[],H=>rfl
 |(k,o)::r,H=>by
  have e:(fun j=>if j=k then o else aB H j)=aB (cl H k o):=by
   funext j;rw[lS]
  show gT (fun j=>if j=k then o else aB H j) r=_;rw[e];exact y2 r _
theorem L0(b:Array Value)(t s:Nat)(v:Value)(h:t<b.size):(b.setIfInBounds t v).getD s undef=if s=t then v else b.getD s undef:=by
 simp only[_B];by_cases e:s=t
 .subst e;rw[if_pos rfl];simp[h]
 exact RR
theorem ab7{Γ:bw}{N:Nat}{st:bb}{K b:aO}{a:Act}{w c:World}(h:ft Γ N st K a w)(j:dH K w b c){m:aV}(u:Inv Γ b (aB m) c){g:Nat}(x:∀n,b.bG n->n<g)(z:Γ.g0<=g){t:Option Tmp}{s:Option bK}(f:vY N t s=true){d:O}{v:Value}(C:aJ b c d v):
 ft Γ N ⟨hg st.tm s d,m,g⟩ b (a.put t v) c:=by
 unfold vY at f;split at f
 .exact⟨u,x,z,h.size,h.defers,fun q=>(h.tm q).mono j⟩
 .rename_i t s;simp only[_a,decide_eq_true_eq]at f;obtain⟨rfl,G⟩:=f;refine⟨u,x,z,by simp[Act.put,h.size],h.defers,fun q=>?_⟩;show aJ b c ((st.tm.set s d).get q) ((a.tmps.setIfInBounds s.nat v).getD q.nat undef);rw[bQ.iP,L0 _ _ _ _ (by rw[h.size];exact G)];by_cases e:q=s
  .subst e;rw[if_pos rfl,if_pos rfl];exact C
  rw[if_neg e,if_neg (fun I=>e (bK.vB I))];exact(h.tm q).mono j
 cases f
theorem Dq{K:aO}{w b:World}{W:Nat->Prop}(h:cN W w b)(an:∀g,g<w.heap.size->W g->K.M g):dH K w (K.cut w) b:=
 ⟨h.weaken an,fun n c=>⟨c,rfl⟩,fun g _ f=>f.1⟩
theorem s_{K:aO}{w:World}{b:List O}{c:Array Value}(h:dS K w b c):dS (K.cut w) w b c:=
 ⟨h.1,fun i d v f g=>(h.2 i d v f g).mono (Dq (cN.refl (fun _=>False) w) (fun _ _ h=>h.elim))⟩
theorem KH(H:aV):∀(ks:List Nat)(i:Nat),aB (fF H ks) i=(ks[i]?).bind (aB H)
 |[],i=>by simp[fF,aB]
 |k::r,0=>by simp[fF,aB]
 |k::r,i+1=>by
  have:=KH H r i;simpa[fF,aB]using this
theorem Hh(k:Nat):∀(ks:List Nat)(f:aV)(H:Nat->Option aR),ks.Nodup->f.length=ks.length->
 gT H (fI ks f) k=if k∈ks then(match ks.idxOf? k with|some i=>aB f i|none=>none)else H k
 |[],[],H,_,_=>by simp[fI,gT]
 |[],_::_,H,_,hl=>qC
 |_::_,[],H,_,hl=>qC
 |j::r,o::s,H,m,hl=>by
  have g:=List.nodup_cons.1 m;have u:=Hh k r s (fun q=>if q=j then o else H q) g.2 yn;show gT (fun q=>if q=j then o else H q) (fI r s) k=_;rw[u];by_cases b:k=j
  .subst b;rw[if_neg g.1,if_pos rfl,if_pos (List.mem_cons_self)];simp[_U,List.findIdx?_cons,aB]
  by_cases c:k∈r
  .rw[if_pos c,if_pos (_5 _ c)];have v:(j==k)=false:=by simp;exact fun e=>b e.symm
   simp only[_U,List.findIdx?_cons,v];cases r.findIdx? (fun x=>x==k)<;>simp[aB]
  rw[if_neg c,if_neg b,if_neg (by simp[b,c])]
theorem Z1{ks:List Nat}{k i:Nat}(h:ks.idxOf? k=some i):ks[i]?=some k:=by
 unfold _U at h;obtain⟨h1,h2,_⟩:=List.findIdx?_eq_some_iff_getElem.1 h;rw[_d h1];simpa using h2
theorem QT{ks:List Nat}{k:Nat}(h:k∈ks):∃i,ks.idxOf? k=some i:=by
 unfold _U;cases b:ks.findIdx? (fun x=>x==k)with
 |some i=>exact⟨i,rfl⟩
 |none=>
  have:=List.findIdx?_eq_none_iff.1 b k h;simp at this
theorem acV{ks:List Nat}(b:ks.Nodup){i j k:Nat}(h1:ks[i]?=some k)(h2:ks[j]?=some k):i=j:=by
 obtain⟨c,f⟩:=_c.1 h1;obtain⟨ah,ai⟩:=_c.1 h2;rcases _H i j with h|h|h
 .exact absurd (f.trans ai.symm) (_X.1 b i j c ah h)
 .exact h
 exact absurd (ai.trans f.symm) (_X.1 b j i ah c h)
theorem akM{Γ:bw}{K:aO}{j:Nat->Option aR}{w:World}(m:Inv Γ K j w){f:aV}(h:∀k o,aB f k=some o->K.real o.n->K.M (K.aD o.n))(g0:Nat):(cz K w g0 f).ok:=fun g x u=>by
 obtain⟨a,b,c⟩:=m.mC u;exact⟨fun⟨k,o,h1,h2,v⟩=>a (v▸h k o h1 h2),fun q=>a q.1,b,c⟩
theorem wU{Γ:bw}{K:aO}{q:Nat->Option aR}{H:aV}{w:World}(c:Inv Γ K q w){ks:List Nat}(x:ks.Nodup)(z:∀k∈ks,q k=aB H k)(g0:Nat):
 Inv (cz K w g0 (fF H ks)) (K.cut w) (aB (fF H ks)) w:=by
 have C:dH K w (K.cut w) w:=Dq (cN.refl (fun _=>False) w) (fun _ _ h=>h.elim);have f:∀i o,aB (fF H ks) i=some o->∃k,ks[i]?=some k/\q k=some o:=by
  intro i o h;rw[KH]at h;cases b:ks[i]? with
  |none=>rw[b]at h;cases h
  |some k=>rw[b]at h;exact⟨k,rfl,(z k (_j b)).trans h⟩
 refine⟨cN.refl _ _,⟨fun n h=>.inl h,fun n h _=>h,fun n h=>⟨h,rfl⟩,fun g _=>Iff.rfl⟩,fun i o h=>?_,fun i j u v h1 h2 aw aY G=>?_,c.db,c.lt,fun i o h=>?_,fun i o h m=>?_,akM c (fun i o h m=>?_) g0⟩
 .obtain⟨k,_,b⟩:=f i o h;exact(c.obj k o b).mono C id (fun _=>rfl)
 .obtain⟨I,J,M⟩:=f i u h1;obtain⟨O,Q,U⟩:=f j v h2;have:=c.inj I O u v M U aw aY G;subst this;exact acV x J Q
 .obtain⟨k,_,b⟩:=f i o h;exact c.dz k o b
 .obtain⟨k,_,b⟩:=f i o h;exact⟨⟨(c.own k o b m).1,c.lt _ m⟩,.inr ⟨i,o,h,m,rfl⟩⟩
 obtain⟨k,_,b⟩:=f i o h;exact(c.own k o b m).1
theorem E4{Γ:bw}{K:aO}{c:Nat->Option aR}{H:aV}{w C:World}(aI:Inv Γ K c w){ks:List Nat}(Z:ks.Nodup)(bT:∀k∈ks,c k=aB H k){g0:Nat}{H1:aV}(hl:H1.length=ks.length)
 (eI:Inv (cz K w g0 (fF H ks)) (K.cut w) (aB H1) C):dH K w (K.cut w) C/\Inv Γ (K.cut w) (gT c (fI ks H1)) C:=by
 have r0:∀g,(cz K w g0 (fF H ks)).W0 g->∃k o,k∈ks/\c k=some o/\K.real o.n/\K.aD o.n=g:=by exact LG
 have bg:dH K w (K.cut w) C:=Dq eI.ext (fun g b8 an=>by
  exact Ik)
 have u:∀k o,gT c (fI ks H1) k=some o->(k∈ks/\∃i,ks[i]?=some k/\aB H1 i=some o)\/(k∉ks/\c k=some o):=by
  intro k o h;rw[Hh k ks H1 c Z hl]at h;by_cases bq:k∈ks
  .exact Qe
  rw[if_neg bq]at h;exact .inr ⟨bq,h⟩
 have G:∀i o,aB H1 i=some o->K.real o.n->∃k b,k∈ks/\c k=some b/\K.real b.n/\K.aD b.n=K.aD o.n:=by
  intro i o h aT;rcases(eI.own i o h aT).2 with h1|h1
  .exact absurd (aI.lt _ aT) (by
    have ab:w.heap.size<=K.aD o.n:=h1;omega)
  exact r0 _ h1
 refine⟨bg,⟨bg.ext.os.trans aI.ext.os,bg.ext.tape.trans aI.ext.tape,bg.ext.output.trans aI.ext.output,_C aI.ext.size bg.ext.size,fun g b8 an=>?_,fun g eC t ax eY=>?_,aI.ext.maps.trans bg.ext.maps⟩,⟨aI.base.bG,aI.base.cn,aI.base.keep,fun g b8=>?_⟩,fun k o h=>?_,fun I J v x h1 h2 aw aY bu=>?_,aI.db,fun n h=>_r (aI.lt n h) bg.ext.size,fun k o h=>?_,fun k o h aT=>?_,aI.ga⟩
 .exact Jz
 .exact IB
 .rw[<-aI.base.M g b8];exact⟨fun h=>h.1,fun h=>⟨h,_r b8 aI.ext.size⟩⟩
 .rcases u k o h with⟨_,i,_,bF⟩|⟨bq,bF⟩
  .exact eI.obj i o bF
  refine(aI.obj k o bF).mono bg id (fun aT=>eI.ext.keep _ (aI.lt _ aT) (fun hl=>?_));obtain⟨f,b,q,j,m,bu⟩:=r0 _ hl;exact bq ((aI.inj f k b o j bF m aT bu)▸q)
 .rcases u I v h1 with⟨O,Q,aa,a_⟩|⟨O,a_⟩<;>rcases u J x h2 with⟨U,X,Y,a8⟩|⟨U,a8⟩
  .have:=eI.inj Q X v x a_ a8 aw aY bu;subst this;rw[aa]at Y;exact _b Y
  .obtain⟨f,b,q,j,m,z⟩:=G Q v a_ aw;exact absurd ((aI.inj f J b x j a8 m aY (z.trans bu))▸q) U
  .obtain⟨f,b,q,j,m,z⟩:=G X x a8 aY;exact absurd ((aI.inj f I b v j a_ m aw (z.trans bu.symm))▸q) O
  exact aI.inj I J v x a_ a8 aw aY bu
 .rcases u k o h with⟨_,i,_,bF⟩|⟨bq,bF⟩
  .exact eI.dz i o bF
  exact aI.dz k o bF
 rcases u k o h with⟨_,i,_,bF⟩|⟨bq,bF⟩
 .obtain⟨f,b,q,j,m,z⟩:=G i o bF aT;have:=aI.own f b j m;rw[z]at this;exact⟨⟨this.1,aI.lt _ aT⟩,this.2⟩
 exact⟨⟨(aI.own k o bF aT).1,aI.lt _ aT⟩,(aI.own k o bF aT).2⟩
theorem ajM{Γ:bw}{K:aO}{f:Nat->Option aR}{H:aV}{w v:World}(aI:Inv Γ K f w){ks:List Nat}(Y:ks.Nodup)(bT:∀k∈ks,f k=aB H k){n:Nat}(I:¬K.bG n)(ai:Γ.g0<=n){b:aV}(hl:b.length=ks.length){m:aR}(aj:m.n=n)(k:Nat){c:aO}
 (J:∀aq,c.bG aq↔K.bG aq\/aq=n) (O:∀aq,c.real aq->K.real aq\/aq=n) (eI:Inv (cz K w n (fF H ks)) c (aB (b++[some m])) v):dH K w c v/\Inv Γ c (fun j=>if j=k then some m else gT f (fI ks b) j) v:=by
 have tJ:∀aq,K.real aq->c.real aq/\c.aD aq=K.aD aq:=fun aq h=>eI.base.keep aq h
 have ak:¬K.real n:=fun h=>I (aI.db n h)
 have r0:∀g,(cz K w n (fF H ks)).W0 g->∃k o,k∈ks/\f k=some o/\K.real o.n/\K.aD o.n=g:=by exact LG
 have zd:∀g,g<w.heap.size->(c.M g↔K.M g):=fun g b8=>by exact aar
 have bg:dH K w c v:=⟨eI.ext.weaken (fun g b8 an=>by
  exact Ik),tJ,fun g b8 h=>(zd g b8).1 h⟩
 have Z:∀i o,aB b i=some o->aB (b++[some m]) i=some o:=by
  intro i o h;have e:∀(l:aV)(i:Nat)(q:aR),aB l i=some q->aB (l++[some m]) i=some q:=by
   intro l;induction l with
   |nil=>intro i q h;cases h
   |cons x r js=>
    intro i q h;cases i with
    |zero=>exact h
    |succ i=>exact js i q h
  exact e b i o h
 have aa:aB (b++[some m]) b.length=some m:=by
  have e:∀(l:aV),aB (l++[some m]) l.length=some m:=by
   intro l;induction l with
   |nil=>rfl
   |cons x r js=>exact js
  exact e b
 have ab:∀i o,aB b i=some o->i<b.length:=by
  have e:∀(l:aV)(i:Nat)(q:aR),aB l i=some q->i<l.length:=by exact Ol
  exact e b
 have ac:∀j o,gT f (fI ks b) j=some o->(j∈ks/\∃i,ks[i]?=some j/\aB b i=some o)\/(j∉ks/\f j=some o):=by
  intro j o h;rw[Hh j ks b f Y hl]at h;by_cases bq:j∈ks
  .exact Qe
  rw[if_neg bq]at h;exact .inr ⟨bq,h⟩
 have u:∀j o,(if j=k then some m else gT f (fI ks b) j)=some o->(∃i,aB (b++[some m]) i=some o/\(i=b.length/\j=k\/i<b.length/\ks[i]?=some j/\j≠k))\/(j∉ks/\j≠k/\f j=some o):=by
  intro j o h;by_cases e:j=k
  .rw[if_pos e]at h;obtain rfl:=_b h;exact .inl ⟨_,aa,.inl ⟨rfl,e⟩⟩
  rw[if_neg e]at h;rcases ac j o h with⟨_,i,h1,h2⟩|⟨h1,h2⟩
  .exact .inl ⟨i,Z i o h2,.inr ⟨ab i o h2,h1,e⟩⟩
  exact .inr ⟨h1,e,h2⟩
 have ae:∀j o,f j=some o->o.n≠n:=fun j o h e=>I (e▸aI.dz j o h)
 have v7:∀j o,f j=some o->c.real o.n->K.real o.n:=fun j o h aT=>(O _ aT).resolve_right (ae j o h)
 have My:∀i o,aB (b++[some m]) i=some o->c.real o.n->w.heap.size<=c.aD o.n\/∃k nn,k∈ks/\f k=some nn/\K.real nn.n/\K.aD nn.n=c.aD o.n:=by exact XN
 have Q:∀i o j mc,aB (b++[some m]) i=some o->c.real o.n->j∉ks->f j=some mc->c.real mc.n->c.aD o.n≠c.aD mc.n:=by exact OS
 refine⟨bg,⟨bg.ext.os.trans aI.ext.os,bg.ext.tape.trans aI.ext.tape,bg.ext.output.trans aI.ext.output,_C aI.ext.size bg.ext.size,fun g b8 an=>?_,fun g eC t ax eY=>?_,aI.ext.maps.trans bg.ext.maps⟩,⟨fun aq h=>?_,fun aq h af=>?_,fun aq h=>?_,fun g b8=>?_⟩,fun j o h=>?_,fun eP e3 lM lF h1 h2 aw aY bu=>?_,eI.db,eI.lt,fun j o h=>?_,fun j o h aT=>?_,aI.ga⟩
 .exact Jz
 .exact IB
 .rcases(J aq).1 h with h|h
  .exact DR
  exact .inr G
 .rcases O aq h with h|h
  .exact aI.base.cn aq h af
  omega
 .exact Wu
 .exact Q3
 .rcases u j o h with⟨i,bF,_⟩|⟨bq,_,bF⟩
  .exact eI.obj i o bF
  exact VC
 .rcases u eP lM h1 with⟨U,a_,dV⟩|⟨ag,_,a_⟩<;>rcases u e3 lF h2 with⟨X,a8,e0⟩|⟨ah,_,a8⟩
  .have:=eI.inj U X lM lF a_ a8 aw aY bu;subst this;rcases dV with⟨dV,C⟩|⟨dV,C,_⟩<;>rcases e0 with⟨e0,z⟩|⟨e0,z,_⟩
   .rw[C,z]
   .omega
   .omega
   rw[C]at z;exact _b z
  .exact absurd bu (Q U lM e3 lF a_ aw ah a8 aY)
  .exact absurd bu.symm (Q X lF eP lM a8 aY ag a_ aw)
  exact Ok
 .rcases u j o h with⟨i,bF,_⟩|⟨bq,_,bF⟩
  .exact eI.dz i o bF
  exact(J _).2 (.inl (aI.dz j o bF))
 rcases u j o h with⟨i,bF,_⟩|⟨bq,_,bF⟩
 .exact S4
 exact aaw
theorem adV{Γ:bw}{K:aO}{f:Nat->Option aR}{H:aV}{w x:World}(aI:Inv Γ K f w){ks u:List Nat}(Q:(ks++u).Nodup)(bT:∀k∈ks,f k=aB H k){n c:Nat}(U:∀aq,n<=aq->aq<n+c->¬K.bG aq)(ab:Γ.g0<=n){m:aV}(hl:m.length=(ks++u).length){b:aO}
 (z:∀aq,b.bG aq↔K.bG aq\/(n<=aq/\aq<n+c)) (C:∀aq,b.real aq->K.real aq\/(n<=aq/\aq<n+c)) (eI:Inv (cz K w n (fF H ks)) b (aB m) x):dH K w b x/\Inv Γ b (gT f (fI (ks++u) m)) x:=by
 have tJ:∀aq,K.real aq->b.real aq/\b.aD aq=K.aD aq:=fun aq h=>eI.base.keep aq h
 have r0:∀g,(cz K w n (fF H ks)).W0 g->∃k o,k∈ks/\f k=some o/\K.real o.n/\K.aD o.n=g:=by exact LG
 have zd:∀g,g<w.heap.size->(b.M g↔K.M g):=fun g b8=>by exact aar
 have bg:dH K w b x:=⟨eI.ext.weaken (fun g b8 an=>by
  exact Ik),tJ,fun g b8 h=>(zd g b8).1 h⟩
 have v:∀j o,gT f (fI (ks++u) m) j=some o->(∃i,aB m i=some o/\(ks++u)[i]?=some j)\/(j∉ks/\f j=some o):=by
  intro j o h;rw[Hh j (ks++u) m f Q hl]at h;by_cases bq:j∈ks++u
  .rw[if_pos bq]at h;obtain⟨i,bF⟩:=QT bq;rw[bF]at h;exact .inl ⟨i,h,Z1 bF⟩
  rw[if_neg bq]at h;exact .inr ⟨fun q=>bq (_n.2 (.inl q)),h⟩
 have X:∀j o,f j=some o->¬(n<=o.n/\o.n<n+c):=fun j o h e=>U o.n e.1 e.2 (aI.dz j o h)
 have v7:∀j o,f j=some o->b.real o.n->K.real o.n:=fun j o h aT=>(C _ aT).resolve_right (X j o h)
 have My:∀i o,aB m i=some o->b.real o.n->w.heap.size<=b.aD o.n\/∃k nn,k∈ks/\f k=some nn/\K.real nn.n/\K.aD nn.n=b.aD o.n:=by exact XN
 have I:∀i o j mc,aB m i=some o->b.real o.n->j∉ks->f j=some mc->b.real mc.n->b.aD o.n≠b.aD mc.n:=by exact OS
 refine⟨bg,⟨bg.ext.os.trans aI.ext.os,bg.ext.tape.trans aI.ext.tape,bg.ext.output.trans aI.ext.output,_C aI.ext.size bg.ext.size,fun g b8 an=>?_,fun g eC t ax eY=>?_,aI.ext.maps.trans bg.ext.maps⟩,⟨fun aq h=>?_,fun aq h Y=>?_,fun aq h=>?_,fun g b8=>?_⟩,fun j o h=>?_,fun eP e3 lM lF h1 h2 aw aY bu=>?_,eI.db,eI.lt,fun j o h=>?_,fun j o h aT=>?_,aI.ga⟩
 .exact Jz
 .exact IB
 .rcases(z aq).1 h with h|h
  .exact DR
  exact .inr (by have:=h.1;omega)
 .rcases C aq h with h|h
  .exact aI.base.cn aq h Y
  exact absurd h.1 G
 .exact Wu
 .exact Q3
 .rcases v j o h with⟨i,bF,_⟩|⟨bq,bF⟩
  .exact eI.obj i o bF
  exact VC
 .rcases v eP lM h1 with⟨J,a_,dV⟩|⟨Z,a_⟩<;>rcases v e3 lF h2 with⟨O,a8,e0⟩|⟨aa,a8⟩
  .have:=eI.inj J O lM lF a_ a8 aw aY bu;subst this;rw[dV]at e0;exact _b e0
  .exact absurd bu (I J lM e3 lF a_ aw aa a8 aY)
  .exact absurd bu.symm (I O lF eP lM a8 aY Z a_ aw)
  exact Ok
 .rcases v j o h with⟨i,bF,_⟩|⟨bq,bF⟩
  .exact eI.dz i o bF
  exact(z _).2 (.inl (aI.dz j o bF))
 rcases v j o h with⟨i,bF,_⟩|⟨bq,bF⟩
 .exact S4
 exact aaw
theorem AE{P:Program}{N:Nat}{ops:Array Oper}:∀ {l:List Oper} {xs:List cP},kK P N ops l xs=true->l.length=xs.length/\∀(i:Nat)(o:Oper)(x:cP),l[i]?=some o->xs[i]?=some x->sA P N ops o x=true
 |[],[],_=>⟨rfl,fun i o x h=>fE⟩
 |[],_::_,h=>EU
 |_::_,[],h=>EU
 |o::l,x::xs,h=>by
  simp only[kK,_a]at h;obtain⟨h1,h2⟩:=AE h.2;refine⟨wW,fun i c f b aP=>?_⟩;cases i with
  |zero=>simp at b aP;rw[<-b,<-aP];exact h.1
  |succ i=>exact h2 i c f (by simpa using b) xZ
def CQ(P:Program)(o:Oper)(rs:List bK)(tm:bQ)(H:aV)(gen:Nat)(d:O)(nj:List Nat)(wr:List (Nat×Option aR))(g:Nat):Prop:=
 ∀(Γ:bw)(K:aO)(f:Nat->Option aR)(a:Act)(w:World)(j:Exit->Act->World->Prop)(next:Act->World->Prop),
  Inv Γ K f w->(∀k∈nj,f k=aB H k)->(∀s∈rs,aJ K w (tm.get s) (a.tmps.getD s.nat undef))->(∀n,gen<=n->n<gen+g->¬K.bG n)->Γ.g0<=gen->(∃m,∀n,K.bG n->n<m)->
  (∀(b:aO)(c:World)(v:Value),dH K w b c->Inv Γ b (gT f wr) c->aJ b c d v->(∀n,b.bG n->K.bG n\/(gen<=n/\n<gen+g))->next (a.put o.dst v) c)->
  o.wp P a w next j
def sK(P:Program)(ops:Array Oper)(o:Oper)(rs:List bK)(tm:bQ)(H:aV)(gen:Nat)(d:O)(nj:List Nat)(wr:List (Nat×Option aR))(g:Nat):Prop:=
 ∀(Γ:bw)(K:aO)(f:Nat->Option aR)(a:Act)(w:World)(j:Exit->Act->World->Prop)(next:Act->World->Prop),
  Inv Γ K f w->(∀k∈nj,f k=aB H k)->(∀s∈rs,aJ K w (tm.get s) (a.tmps.getD s.nat undef))->(∀n,gen<=n->n<gen+g->¬K.bG n)->Γ.g0<=gen->(∃m,∀n,K.bG n->n<m)->
  (∀(b:aO)(c:World)(v:Value),dH K w b c->Inv Γ b (gT f wr) c->aJ b c d v->(∀n,b.bG n->K.bG n\/(gen<=n/\n<gen+g))->next (a.put o.dst v) c)->
  if _y o (yielded ops a.tmps)then o.wp P a w next j else next (a.put o.dst undef) w
def Kl:Option (bK×Bool)->List bK
 |some (s,_)=>[s]
 |none=>[]
def cP.reads(x:cP):List bK:=x.op.reads++Kl x.g
theorem H5:∀(ks:List Nat)(b:aV),b.length=ks.length->fD (fI ks b)=ks
 |[],[],_=>rfl
 |[],_::_,h=>fE
 |_::_,[],h=>fE
 |k::r,o::s,h=>by simp[fI,fD,H5 r s hc]
section
variable {P:Program} {ops:Array Oper} {o:Oper} {rs:List bK} {F:List cP->bb->List e6->Prop} {r:List cP} {st:bb} {dst:Option bK} {tr:List e6}
theorem aep{f:FuncId}{j m:List O}{D:O}{c:aV}{ks:List Nat}{tm:bQ}{H:aV}{gen:Nat}(G:nm P o rs tm f j)(I:∀K w b,dS K w j b->dS K w m b)(q:ks.Nodup)(hl:c.length=ks.length)
 (u:b1 P f m (fF H ks) (fun d H=>d=D/\H=c)):CQ P o rs tm H gen D ks (fI ks c) 0:=by
 intro Γ K ae a w af next x z J ag ah g M;obtain⟨C,g⟩:=g;obtain⟨b,Q,U⟩:=G u.1 K a w J;have X:=u.2 K w b C (wU x q z C) g (s_ (I K w b U));unfold Oper.wp;rw[Q];refine X.mono fun e Y h=>?_
 obtain⟨v,d,ai,rfl,⟨rfl,rfl⟩,Z,aa⟩:=h;obtain⟨ab,ac⟩:=E4 x q z hl Z;exact M (K.cut w) Y v ab ac aa (fun n h=>.inl h)
theorem Pd:∀(ks:List Nat)(b:aV)(k:Nat)(o:Option aR),b.length=ks.length->fD (fI ks b++[(k,o)])=ks++[k]
 |[],[],k,o,_=>rfl
 |[],_::_,_,_,h=>fE
 |_::_,[],_,_,h=>fE
 |j::r,p::s,k,o,h=>by
  have:=Pd r s k o hc;simp[fI,fD,this]
theorem NU:∀(l:List (Nat×Option aR))(H:Nat->Option aR)(k:Nat)(o:Option aR),gT H (l++[(k,o)])=fun j=>if j=k then o else gT H l j
 |[],H,k,o=>rfl
 |(j,p)::r,H,k,o=>NU r (fun q=>if q=j then p else H q) k o
theorem aco{f:FuncId}{m q:List O}{D:Nat->O}{c:aV}{ks:List Nat}{k sz:Nat}{xs:List (List O)}{tm:bQ}{H:aV}{gen:Nat}(Q:nm P o rs tm f m)(U:∀K w b,dS K w m b->dS K w q b)(u:ks.Nodup)(hl:c.length=ks.length)
 (x:ml P f q (fF H ks) (fun n d H=>d=D n/\H=c++[some ⟨n,sz,xs⟩])):CQ P o rs tm H gen (D gen) (ks++[k]) (fI ks c++[(k,some ⟨gen,sz,xs⟩)]) 1:=by
 intro Γ K X a w ap next z Y Z aa ab g ac;obtain⟨C,g⟩:=g;obtain⟨b,ae,af⟩:=Q x.1 K a w Z;have I:∀j∈ks,X j=aB H j:=fun j ag=>Y j (_n.2 (.inl ag))
 have ah:=x.2 K w b C (wU z u I C) g (s_ (U K w b af));unfold Oper.wp;rw[ae];refine ah.mono fun e ai h=>?_
 obtain⟨v,rfl,h⟩:=h;have J:¬K.bG gen:=aa gen (_o _) G;obtain⟨aj,d,aq,⟨rfl,rfl⟩,M,ak,al,am⟩:=h gen J;obtain⟨an,ao⟩:=ajM z u I J ab hl rfl k M ak al;refine ac aj ai v an ?_ am (fun n h=>?_)
 .rw[NU];exact ao
 rcases(M n).1 h with h|h
 .exact .inl h
 exact .inr G
theorem adM{f:FuncId}{u x:List O}{c:Nat}{D:Nat->O}{m:Nat->aV}{ks g:List Nat}{tm:bQ}{H:aV}{gen:Nat}(U:nm P o rs tm f u)(X:∀K w b,dS K w u b->dS K w x b)(z:(ks++g).Nodup)(hl:(m gen).length=(ks++g).length)
 (C:fi P f x (fF H ks) c (fun n d H=>d=D n/\H=m n)):CQ P o rs tm H gen (D gen) (ks++g) (fI (ks++g) (m gen)) c:=by
 intro Γ K Y a w aq next G Z aa I ab q ac;obtain⟨J,q⟩:=q;obtain⟨b,ae,af⟩:=U C.1 K a w aa;have M:∀j∈ks,Y j=aB H j:=fun j ag=>Z j (_n.2 (.inl ag))
 have ah:ks.Nodup:=(List.nodup_append.1 z).1;have ai:=C.2 K w b J (wU G ah M J) q (s_ (X K w b af));unfold Oper.wp;rw[ae];refine ai.mono fun e aj h=>?_
 obtain⟨v,rfl,h⟩:=h;obtain⟨ak,d,ar,⟨rfl,rfl⟩,Q,al,am,an⟩:=h gen I;obtain⟨ao,ap⟩:=adV G z M I ab hl Q al am;exact ac ak aj v ao ap an (fun n h=>(Q n).1 h)
theorem vi:∀ {z:bA},z.all (fun d t wr g=>bh P o rs st.tm st.H st.gen d t wr g) (fun f C=>nm P o rs st.tm f C)->bc P F r st dst tr z->
 ∃d t wr g,CQ P o rs st.tm st.H st.gen d t wr g/\F r ⟨hg st.tm dst d,d_ st.H wr,st.gen+g⟩ (⟨t,fD wr⟩::tr)
 |.ok d t wr g,b,h=>⟨d,t,wr,g,fun Γ K I a w J next M O Q U X _ Y=>b Γ K I a w J next M O Q U X Y,h⟩
 |.ite t x y,b,h=>by
  cases t with
  |true=>exact vi (b.1 rfl) h
  |false=>exact vi (b.2 rfl) h
 |.need p x,b,h=>vi (b h.1) h.2
 |.alt x y,b,h=>by
  rcases h with h|h
  .exact vi b.1 h
  exact vi b.2 h
 |.call f C,b,h=>by
  rcases h with⟨ks,G,D,j,h1,h2,m,q,u⟩|⟨ks,G,D,j,k,sz,xs,h1,h2,m,q,u⟩|⟨ks,v,G,c,D,j,h1,h2,m,q,u⟩
  .refine⟨D,ks,fI ks j,0,aep b h1 h2 m q,?_⟩;rw[H5 ks j m];exact u
  .refine⟨D st.gen,ks++[k],fI ks j++[(k,some ⟨st.gen,sz,xs⟩)],1,aco b h1 h2 m q,?_⟩;rw[Pd ks j k _ m];exact u
  refine⟨D st.gen,ks++v,fI (ks++v) (j st.gen),c,adM b h1 h2 m q,?_⟩;rw[H5 (ks++v) (j st.gen) m];exact u
 |.bad,_,h=>h.elim
theorem Yq{d:O}{t:List Nat}{wr:List (Nat×Option aR)}{g:Nat}{b:List bK}{tm:bQ}{H:aV}{gen:Nat}(h:CQ P o rs tm H gen d t wr g)(f:∀s∈rs,s∈b)
 (j:∀(K:aO)(w:World)(a:Act),(∀s∈b,aJ K w (tm.get s) (a.tmps.getD s.nat undef))->_y o (yielded ops a.tmps)=true):sK P ops o b tm H gen d t wr g:=by
 intro Γ K m a w q next u v c x z C G;rw[if_pos (j K w a c)];exact h Γ K m a w q next u v (fun s aj=>c s (f s aj)) x z C G
theorem Ts{b:List bK}{tm:bQ}{H:aV}{gen:Nat}(c:∀(K:aO)(w:World)(a:Act),(∀s∈b,aJ K w (tm.get s) (a.tmps.getD s.nat undef))->_y o (yielded ops a.tmps)=false):sK P ops o b tm H gen (.v undef) [] [] 0:=by
 intro Γ K m a w q next f u g x z C j;rw[if_neg (by rw[c K w a g];simp)];exact j K w undef (dH.refl K w) f (.v undef) (fun n h=>.inl h)
theorem HM{N:Nat}{x:cP}(C:sA P N ops o x=true)(h:bc P F r st x.dst tr (oJ st.tm (kI st x.op) x.g)):
 ∃d t wr g,sK P ops o x.reads st.tm st.H st.gen d t wr g/\F r ⟨hg st.tm x.dst d,d_ st.H wr,st.gen+g⟩ (⟨t,fD wr⟩::tr):=by
 simp only[sA,_a]at C;obtain⟨⟨h1,h2⟩,bI⟩:=C;have c:=NO (st:=st) h1;unfold oJ at h;split at h
 .rename_i b8;rw[b8]at bI;have M:o.guard=none:=by
   unfold Dx at bI;split at bI<;>simp_all
  obtain⟨d,t,wr,g,m,a8⟩:=vi c h;exact⟨d,t,wr,g,Yq m (fun s aj=>_n.2 (.inl aj)) (fun K w a _=>by simp[_y,M]),a8⟩
 rename_i s b b8;rw[b8]at bI;obtain⟨j,cB,IS⟩:∃j,o.guard=some (j,b)/\(ops[j]?).bind (·.dst)=some s.nat:=by exact Ub
 unfold yO at h;split at h
 .rename_i t bT;have G:∀(K:aO)(w:World)(a:Act),(∀q∈x.reads,aJ K w (st.tm.get q) (a.tmps.getD q.nat undef))->_y o (yielded ops a.tmps)=(t==b):=by
   intro K w a aT;exact Pk
  have I:∀e:(t==b)=true,∀ {u},u.all (fun d t wr g=>bh P o x.op.reads st.tm st.H st.gen d t wr g) (fun f O=>nm P o x.op.reads st.tm f O)->bc P F r st x.dst tr u->
   ∃d t wr g,sK P ops o x.reads st.tm st.H st.gen d t wr g/\F r ⟨hg st.tm x.dst d,d_ st.H wr,st.gen+g⟩ (⟨t,fD wr⟩::tr):=by
   intro e u Q z;obtain⟨d,U,wr,g,m,a8⟩:=vi Q z;exact⟨d,U,wr,g,Yq m (fun s aj=>_n.2 (.inl aj)) (fun K w a aT=>(G K w a aT).trans e),a8⟩
  have J:∀e:(t==b)=false,bc P F r st x.dst tr uG->∃d t wr g,sK P ops o x.reads st.tm st.H st.gen d t wr g/\F r ⟨hg st.tm x.dst d,d_ st.H wr,st.gen+g⟩ (⟨t,fD wr⟩::tr):=by
   intro e z;exact⟨.v undef,[],[],0,Ts (fun K w a aT=>(G K w a aT).trans e),z⟩
  cases b<;>cases t
  .exact I rfl c h
  .exact J rfl h
  .exact J rfl h
  exact I rfl c h
 .rename_i X bT;refine⟨.v undef,[],[],0,Ts (fun K w a aT=>?_),h⟩;have eX:=aT s (_n.2 (.inr (by rw[b8];simp[Kl])));rw[bT]at eX;have e:=cQ eX;have a8:∀v,a.tmps[s.nat]?=some v->v=.tuple X:=by
   intro v ay;rw[_B,ay]at e;simpa using e
  simp only[_y,cB,yielded,IS,Option.bind_some];cases ay:a.tmps[s.nat]? with
  |none=>rfl
  |some v=>rw[a8 v ay];rfl
 exact h.elim
theorem F4{Γ:bw}{N:Nat}{Q:bb->List e6->Prop}{Q':Exit->Act->World->Prop}{tl:List Nat}(f:∀st tr K a w,ft Γ N st K a w->Q st tr->wpOps P ops Q' tl a w):∀(l:List Oper)(xs:List cP)(i n:Nat)(st:bb)(tr:List e6)(K:aO)(a:Act)(w:World),
 (∀j,j<l.length->l[j]?=ops[i+j]?)->kK P N ops l xs=true->run P Q n xs st tr->ft Γ N st K a w->wpOps P ops Q' (_O i l.length++tl) a w
 |[],[],i,n,st,tr,K,a,w,_,_,h,b=>by
  cases n with
  |zero=>exact h.elim
  |succ n=>exact f st tr K a w b h
 |[],_::_,_,_,_,_,_,_,_,_,cw,_,_=>yy
 |_::_,[],_,_,_,_,_,_,_,_,cw,_,_=>yy
 |o::l,x::xs,i,n,st,tr,K,a,w,hl,cw,h,b=>by
  cases n with
  |zero=>exact h.elim
  |succ n=>
   simp only[kK,_a]at cw;obtain⟨d,t,wr,g,z,C⟩:=HM cw.1 h;have I:ops[i]?=some o:=by simpa using(hl 0 (Nat.succ_pos _)).symm
   have cJ:=z Γ K (aB st.H) a w Q' (wpOps P ops Q' (_O (i+1) l.length++tl)) b.inv (fun k _=>rfl) (fun s _=>b.tm s) (fun c h1 _ J=>by have:=b.fresh c J;omega) b.g0 ⟨st.gen,b.fresh⟩ (fun M O v c m U X=>by
    rw[y2]at m;have u:=cw.1;simp only[sA,_a]at u;refine F4 f l xs (i+1) n _ _ M _ O (fun j Y=>by rw[show i+1+j=i+(j+1)from G,<-hl (j+1) (_K Y)];simp) cw.2 C (ab7 b c m (g:=st.gen+g) (fun q Z=>?_) (by have:=b.g0;omega) u.1.2 U);rcases X q Z with h1|h1
    .have:=b.fresh q h1;omega
    exact h1.2)
   rw[List.length_cons,List.range'_succ,List.cons_append];simp only[wpOps,I];exact X0
end
section replay
variable {L V:Type} (W:Nat->L->Prop) [∀i l,Decidable (W i l)] (val:Nat->L->V) (v0:L->V)
def lY(E:Nat->Bool):Nat->L->V
 |0,l=>v0 l
 |k+1,l=>if E k=true/\W k l then val k l else lY E k l
theorem tx{E c:Nat->Bool}{l:L}:∀(k:Nat),(∀i,i<k->W i l->E i=c i)->lY W val v0 E k l=lY W val v0 c k l
 |0,_=>rfl
 |k+1,h=>by
  have f:=tx k (fun i g b=>h i G b);simp only[lY];by_cases b:W k l
  .rw[h k G b,f]
  rw[if_neg (fun q=>b q.2),if_neg (fun q=>b q.2),f]
theorem JX{E:Nat->Bool}{l:L}{i:Nat}(b:E i=true)(c:W i l):∀(k:Nat),i<k->(∀j,i<j->j<k->W j l->E j=false)->lY W val v0 E k l=val i l
 |0,h,_=>G
 |k+1,h,f=>by
  simp only[lY];by_cases g:i=k
  .subst g;rw[if_pos ⟨b,c⟩]
  rw[if_neg (fun q=>by rw[f k G G q.2]at q;exact absurd q.1 aF)];exact JX b c k G (fun j h1 h2=>f j h1 G)
theorem Li{l:L}(i:Nat):∀(k:Nat),i<=k->lY W val v0 (fun j=>decide (j<i)) k l=lY W val v0 (fun _=>true) i l
 |0,h=>by
  have:i=0:=G;subst this;rfl
 |k+1,h=>by
  by_cases b:i=k+1
  .subst b;exact tx W val v0 _ (fun j c _=>by simp[c])
  simp only[lY];rw[if_neg (fun q=>by have:=q.1;simp at this;omega)];exact Li i k G
end replay
structure gy where
 (dst:Option bK) (rs:List bK) (d:O) (t:List Nat) (wr:List (Nat×Option aR)) (g:Nat)
def Iz(st:bb)(s:gy):bb:=⟨hg st.tm s.dst s.d,d_ st.H s.wr,st.gen+s.g⟩
def gl(st:bb)(l:List gy)(i:Nat):bb:=(l.take i).foldl Iz st
theorem KJ{st:bb}{l:List gy}{i:Nat}{s:gy}(h:l[i]?=some s):gl st l (i+1)=Iz (gl st l i) s:=by
 obtain⟨b,c⟩:=_c.1 h;unfold gl;rw[List.take_succ_eq_append_getElem b,List.foldl_append,c];rfl
def tX:List gy->List e6->List e6
 |[],tr=>tr
 |s::r,tr=>tX r (⟨s.t,fD s.wr⟩::tr)
theorem YU{P:Program}{N:Nat}{ops:Array Oper}{c:bb->List e6->Prop}:∀(l:List Oper)(xs:List cP)(n:Nat)(st:bb)(tr:List e6),kK P N ops l xs=true->run P c n xs st tr->
 ∃S:List gy,S.length=xs.length/\(∀(i:Nat)(s:gy)(x:cP)(o:Oper),S[i]?=some s->xs[i]?=some x->l[i]?=some o->s.dst=x.dst/\s.rs=x.reads/\sK P ops o s.rs (gl st S i).tm (gl st S i).H (gl st S i).gen s.d s.t s.wr s.g)/\
  c (gl st S S.length) (tX S tr)
 |[],[],n,st,tr,_,h=>by
  cases n with
  |zero=>exact h.elim
  |succ n=>exact⟨[],rfl,fun i s x o h=>fE,h⟩
 |[],_::_,_,_,_,cw,_=>yy
 |_::_,[],_,_,_,cw,_=>yy
 |o::l,x::xs,n,st,tr,cw,h=>by
  cases n with
  |zero=>exact h.elim
  |succ n=>
   simp only[kK,_a]at cw;obtain⟨d,t,wr,g,j,m⟩:=HM cw.1 h;obtain⟨S,h1,h2,q⟩:=YU l xs n _ _ cw.2 m;have f:∀i,gl st (⟨x.dst,x.reads,d,t,wr,g⟩::S) (i+1)=gl ⟨hg st.tm x.dst d,d_ st.H wr,st.gen+g⟩ S i:=fun i=>rfl
   refine⟨⟨x.dst,x.reads,d,t,wr,g⟩::S,wW,fun i s y p aj aP b=>?_,?_⟩
   .cases i with
    |zero=>
     simp at aj aP b;subst aj aP b;exact⟨rfl,rfl,j⟩
    |succ i=>
     rw[f];exact h2 i s y p BK xZ (by simpa using b)
   rw[List.length_cons,f];exact q
def ko(ops:Array Oper)(j:Nat):List Nat:=
 match ops[j]? with
 |some o=>(o.after.toList.filter (Region.binds .any)).map (·.on)
 |none=>[]
def C7(ops:Array Oper)(j i:Nat):Prop:=∀E:Nat->Bool,(∀q,E q=true->∀e∈ko ops q,E e=true)->(∀e∈ko ops j,E e=true)->E i=true
def rR(ps:List Nat)(e:Nat):Nat:=(ps[e]?).getD 0
def uI(ps:List Nat):List Nat->Nat
 |[]=>0
 |e::r=>((1 <<< e) ||| rR ps e) ||| uI ps r
theorem Vd{ps:List Nat}{i:Nat}:∀ {d:List Nat},(uI ps d).testBit i=true->∃e∈d,i=e\/(rR ps e).testBit i=true
 |[],h=>by simp[uI]at h
 |e::r,h=>by
  simp only[uI,Nat.testBit_or,_h]at h;rcases h with(h|h)|h
  .rw[Nat.one_shiftLeft,Nat.testBit_two_pow]at h;exact⟨e,aF,.inl (by simpa using(of_decide_eq_true h).symm)⟩
  .exact⟨e,aF,.inr h⟩
  obtain⟨b,h1,h2⟩:=Vd h;exact⟨b,wW,h2⟩
def ze(b:List (List Nat))(ps:List Nat):Bool:=(_i b.length).all fun j=>((b[j]?).getD []).all (· < j)&&Nat.beq (rR ps j) (uI ps ((b[j]?).getD []))
def A3(a:Nat):List Nat->Bool
 |[]=>false
 |x::r=>decide (a=x)||A3 a r
def vN(a:bK):List bK->Bool
 |[]=>false
 |x::r=>decide (a=x)||vN a r
def u3:List Nat->List Nat->Bool
 |[],_=>false
 |x::r,l=>A3 x l||u3 r l
theorem NM{a:Nat}:∀ {l:List Nat},A3 a l=true↔a∈l
 |[]=>by simp[A3]
 |x::r=>by simp[A3,NM (l:=r)]
theorem Ke{a:bK}:∀ {l:List bK},vN a l=true↔a∈l
 |[]=>by simp[vN]
 |x::r=>by simp[vN,Ke (l:=r)]
theorem zU{l:List Nat}:∀ {r:List Nat},u3 r l=true↔∃x,x∈r/\x∈l
 |[]=>by simp[u3]
 |x::r=>by simp[u3,NM,zU (r:=r)]
def vt(x y:cP):Bool:=
 (match x.dst with
  |some s=>vN s y.reads||decide (y.dst=some s)
  |none=>false) ||
 (match y.dst with
  |some s=>vN s x.reads
  |none=>false)
def qJ(a b:e6):Bool:=u3 a.wr b.nj||u3 a.nj b.wr||u3 a.wr b.wr
def Mr(xs:List cP)(ps:List Nat)(n:Nat):Bool:=(_i n).all fun j=>(_i j).all fun i=>match xs[i]?,xs[j]? with
 |some x,some y=>!(vt x y)||(rR ps j).testBit i
 |_,_=>false
def e6.bare:e6->Bool
 |⟨[],[]⟩=>true
 |_=>false
def Br(ps:List Nat)(rs:List e6)(n:Nat):Bool:=decide (rs.length=n)&&(_i n).all fun j=>match rs[j]? with
 |some b=>b.bare||(_i j).all fun i=>match rs[i]? with
  |some a=>!(qJ a b)||(rR ps j).testBit i
  |none=>false
 |none=>false
theorem abo(ops:Array Oper)(j:Nat):(((_i ops.size).map (ko ops))[j]?).getD []=ko ops j:=by
 rw[_w];by_cases h:j<ops.size
 .rw[List.getElem?_range h];rfl
 rw[List.getElem?_eq_none hc];unfold ko;rw[_L G];rfl
theorem Rn{ops:Array Oper}{ps:List Nat}(h:ze ((_i ops.size).map (ko ops)) ps=true){j:Nat}(b:j<ops.size):(∀e∈ko ops j,e<j)/\rR ps j=uI ps (ko ops j):=by
 unfold ze at h;simp only[List.length_map,List.length_range,_S,_E,abo,_a,decide_eq_true_eq]at h;exact⟨(h j b).1,Nat.eq_of_beq_eq_true (h j b).2⟩
theorem Lu{ops:Array Oper}{ps:List Nat}(h:ze ((_i ops.size).map (ko ops)) ps=true):∀(j:Nat),j<ops.size->∀i,(rR ps j).testBit i=true->C7 ops j i:=by
 intro j;induction j using Nat.strongRecOn with
 |_ j q=>
  intro c i f E g m;obtain⟨h1,h2⟩:=Rn h c;rw[h2]at f;obtain⟨e,b,rfl|u⟩:=Vd f
  .exact m i b
  exact q e (h1 e b) (Nat.lt_trans (h1 e b) c) i u E g (g e (m e b))
theorem FT(k:Nat):∀(wr:List (Nat×Option aR))(H:Nat->Option aR),gT H wr k=if k∈fD wr then gT (fun _=>none) wr k else H k
 |[],H=>by simp[gT,fD]
 |(j,o)::r,H=>by
  have h1:=FT k r (fun q=>if q=j then o else H q);have h2:=FT k r (fun q=>if q=j then o else none);show gT (fun q=>if q=j then o else H q) r k=if k∈fD ((j,o)::r)then gT (fun q=>if q=j then o else none) r k else H k
  rw[h1,h2];by_cases b:k∈fD r
  .rw[if_pos b,if_pos (by simp[fD,b]),if_pos b]
  rw[if_neg b];by_cases c:k=j
  .rw[if_pos c,if_pos (by simp[fD,c]),if_neg b,if_pos c]
  rw[if_neg c,if_neg (by simp[fD,c,b])]
section
variable {P:Program} {N:Nat} {ops:Array Oper} {xs:List cP} {S:List gy} {st:bb}
def ti(S:List gy)(i:Nat)(s:bK):Prop:=∃q,S[i]?=some q/\q.dst=some s
def uq(S:List gy)(i:Nat)(k:Nat):Prop:=∃q,S[i]?=some q/\k∈fD q.wr
instance (S:List gy) (i:Nat) (s:bK):Decidable (ti S i s):=
 match h:S[i]? with
 |none=>isFalse (fun⟨q,e,_⟩=>by rw[h]at e;cases e)
 |some q=>if ay:q.dst=some s then isTrue ⟨q,h,ay⟩else isFalse (fun⟨p,e,h2⟩=>RD)
instance (S:List gy) (i:Nat) (k:Nat):Decidable (uq S i k):=
 match h:S[i]? with
 |none=>isFalse (fun⟨q,e,_⟩=>by rw[h]at e;cases e)
 |some q=>if ay:k∈fD q.wr then isTrue ⟨q,h,ay⟩else isFalse (fun⟨p,e,h2⟩=>RD)
def B6(S:List gy)(i:Nat)(_:bK):O:=match S[i]? with|some q=>q.d|none=>.any
def Cu(S:List gy)(i:Nat)(k:Nat):Option aR:=match S[i]? with|some q=>gT (fun _=>none) q.wr k|none=>none
def nH(S:List gy)(st:bb)(E:Nat->Bool)(k:Nat)(s:bK):O:=lY (ti S) (B6 S) st.tm.get E k s
def mz(S:List gy)(st:bb)(E:Nat->Bool)(k:Nat)(j:Nat):Option aR:=lY (uq S) (Cu S) (aB st.H) E k j
theorem Mu:∀(i:Nat),i<=S.length->∀s,(gl st S i).tm.get s=nH S st (fun _=>true) i s
 |0,_,s=>rfl
 |i+1,h,s=>by
  have b:S[i]?=some S[i]:=_d G;rw[KJ b];have g:=Mu i G s;show(hg (gl st S i).tm S[i].dst S[i].d).get s=lY (ti S) (B6 S) st.tm.get (fun _=>true) (i+1) s;simp only[lY,true_and];by_cases c:ti S i s
  .rw[if_pos c];obtain⟨q,e,f⟩:=c;rw[b]at e;obtain rfl:=_b e;simp only[B6,b,hg,f,bQ.iP,if_true]
  rw[if_neg c];cases f:S[i].dst with
  |none=>exact g
  |some t=>
   simp only[hg,bQ.iP];rw[if_neg (fun e=>c ⟨_,b,by rw[f,e]⟩)];exact g
theorem II:∀(i:Nat),i<=S.length->∀k,aB (gl st S i).H k=mz S st (fun _=>true) i k
 |0,_,k=>rfl
 |i+1,h,k=>by
  have b:S[i]?=some S[i]:=_d G;rw[KJ b];have f:=II i G k;show aB (d_ (gl st S i).H S[i].wr) k=lY (uq S) (Cu S) (aB st.H) (fun _=>true) (i+1) k;simp only[lY,true_and];rw[<-y2,FT];by_cases c:uq S i k
  .rw[if_pos c];obtain⟨q,e,g⟩:=c;rw[b]at e;obtain rfl:=_b e;rw[if_pos g];simp only[Cu,b]
  rw[if_neg c,if_neg (fun e=>c ⟨_,b,e⟩)];exact f
def oK(st:bb)(S:List gy)(i:Nat):Nat:=(gl st S i).gen
theorem GW{i:Nat}{s:gy}(h:S[i]?=some s):oK st S (i+1)=oK st S i+s.g:=by
 unfold oK;rw[KJ h];rfl
theorem p_:∀(j i:Nat),i<=j->j<=S.length->oK st S i<=oK st S j
 |0,i,h,_=>by
  have:i=0:=G;subst this;exact hT
 |j+1,i,h,hl=>by
  by_cases e:i=j+1
  .subst e;exact hT
  have b:S[j]?=some S[j]:=_d G;have:=p_ j i G G;rw[GW b];omega
structure Pn (ops:Array Oper) (xs:List cP) (S:List gy):Prop where
 back:∀j:Nat,∀e∈ko ops j,j<ops.size->e<j
 slot:∀(i j:Nat)(x y:cP),i<j->xs[i]?=some x->xs[j]?=some y->vt x y=true->C7 ops j i
 site:∀(i j:Nat)(a b:gy),i<j->S[i]?=some a->S[j]?=some b->qJ ⟨a.t,fD a.wr⟩ ⟨b.t,fD b.wr⟩=true->C7 ops j i
theorem RI:∀(S:List gy)(tr:List e6),tX S tr=(S.map fun s=>(⟨s.t,fD s.wr⟩:e6)).reverse++tr
 |[],tr=>rfl
 |s::r,tr=>by simp[tX,RI r]
theorem aiB{a b:e6}(h:b.bare=true):qJ a b=false:=by
 obtain⟨t,w⟩:=b;cases t with
 |cons=>cases h
 |nil=>
  cases w with
  |cons=>cases h
  |nil=>
   cases bn:qJ a ⟨[],[]⟩with
   |false=>rfl
   |true=>
    simp only[qJ,_h]at bn;rcases bn with(bn|bn)|bn
    .exact NG
    .exact NG
    exact NG
theorem WZ{xs:List cP}{ps:List Nat}(v:xs.length=ops.size)(g:ze ((_i ops.size).map (ko ops)) ps=true)(aj:Mr xs ps xs.length=true)(h:Br ps (tX S []).reverse xs.length=true):S.length=ops.size/\Pn ops xs S:=by
 unfold Br at h;unfold Mr at aj;rw[RI]at h;simp only[List.append_nil,List.reverse_reverse,_a,decide_eq_true_eq,List.length_map,_S,_E]at h aj;obtain⟨hl,z⟩:=h;refine⟨by rw[hl,v],⟨fun j e C c=>(Rn g c).1 e C,fun i j x y m I q f=>?_,fun i j a b m J u f=>?_⟩⟩
 .have c:j<xs.length:=(_c.1 q).1;have ay:=aj j c i m;rw[I,q]at ay;dsimp only at ay;rw[f]at ay;exact Lu g j G i pU
 have c:j<xs.length:=by rw[<-hl];exact(_c.1 u).1
 have ay:=z j c;rw[_w,u]at ay;simp only[Option.map_some,_h]at ay;rcases ay with ay|ay
 .rw[aiB ay]at f;cases f
 simp only[_S,_E]at ay;have ay:=ay i m;rw[_w,J]at ay;simp only[Option.map_some]at ay;rw[f]at ay;exact Lu g j G i pU
def ea(b:Array Bool)(i:Nat):Bool:=b.getD i false
theorem akV(b:Array Bool)(i j:Nat)(hi:i<b.size):ea (b.setIfInBounds i true) j=if j=i then true else ea b j:=by
 unfold ea;simp only[_B];by_cases e:j=i
 .subst e;simp[hi]
 exact RR
structure Lb (Γ:bw) (N:Nat) (ops:Array Oper) (W:Nat->Prop) (S:List gy) (st:bb) (b:Array Bool) (K:aO) (a:Act) (w:World):Prop where
 du:∀i,W i->ea b i=false
 size:b.size=ops.size
 closed:∀j,ea b j=true->∀e∈ko ops j,ea b e=true
 inv:Inv Γ K (mz S st (ea b) ops.size) w
 names:∀m,K.bG m->m<st.gen\/∃i s,S[i]?=some s/\ea b i=true/\oK st S i<=m/\m<oK st S i+s.g
 yM:a.tmps.size=N
 defers:a.defers=Γ.df
 tm:∀s:bK,aJ K w (nH S st (ea b) ops.size s) (a.tmps.getD s.nat undef)
theorem Pb{E E':Nat->Bool}{i:Nat}(h1:E i=false)(h2:∀j,E' j=if j=i then true else E j):∀(l:List Nat),l.Nodup->i∈l->(l.filter E').length=(l.filter E).length+1
 |[],_,h=>fE
 |x::r,c,h=>by
  have b:=List.nodup_cons.1 c;by_cases e:x=i
  .subst e;have f:r.filter E'=r.filter E:=List.filter_congr fun j g=>by
    rw[h2 j,if_neg];rintro rfl;exact b.1 g
   simp[List.filter_cons,h1,h2 x,f]
  have m:=Pb h1 h2 r b.2 ((_I.1 h).resolve_left (fun q=>e q.symm));have u:E' x=E x:=by rw[h2 x,if_neg e]
  simp only[List.filter_cons,u];split<;>simp[m]
theorem Oh{Γ:bw}{Q:Exit->Act->World->Prop}{W:Nat->Prop}(hl:S.length=ops.size)(I:xs.length=ops.size)(aP:kK P N ops ops.toList xs=true)(Z:Pn ops xs S)(aq:Γ.g0<=st.gen)
 (ar:∀(i:Nat)(s:gy)(x:cP)(o:Oper),S[i]?=some s->xs[i]?=some x->ops[i]?=some o->(∀q,s.dst=some q->x.dst=some q)/\s.rs=x.reads/\(W i\/(s.dst=x.dst/\sK P ops o s.rs (gl st S i).tm (gl st S i).H (gl st S i).gen s.d s.t s.wr s.g)))
 (an:∀(i:Nat)(s:gy)(b:Array Bool)(K:aO)(a:Act)(w:World)(next:Act->World->Prop),W i->S[i]?=some s->Lb Γ N ops W S st b K a w->(∀e∈ko ops i,ea b e=true)->(∀q∈s.rs,aJ K w ((gl st S i).tm.get q) (a.tmps.getD q.nat undef))->wpOp P ops Q i next a w)
 (aQ:(∀i,i<ops.size->¬W i)->∀K a w,ft Γ N (gl st S S.length) K a w->Q .normal a w):∀(U:Nat)(b:Array Bool)(K:aO)(a:Act)(w:World),ops.size<=U+((_i ops.size).filter (ea b)).length->Lb Γ N ops W S st b K a w->wpAny P .any ops Q U b a w:=by
 have au:∀(b:Array Bool)(K:aO)(a:Act)(w:World),_Y .any ops b=[]->Lb Γ N ops W S st b K a w->Q .normal a w:=by
  intro b K a w X aI;have aa:∀j,j<ops.size->ea b j=true:=by
   intro j;induction j using Nat.strongRecOn with
   |_ j ag=>
    intro cB;cases ah:ea b j with
    |true=>rfl
    |false=>
     exfalso;have u:j∈_Y .any ops b:=by
      refine mem_ready.2 ⟨?_,ops[j],_m cB,fun e J aR=>?_⟩
      .have aj:=aI.size;unfold ea at ah;have aN:j<b.size:=G;simp only[_9,aN]at ah⊢;exact ah
      have f:e.on∈ko ops j:=by
       unfold ko;rw[_m cB];exact List.mem_map.2 ⟨e,List.mem_filter.2 ⟨by simpa using J,aR⟩,rfl⟩
      have aN:=Z.back j _ f cB;exact ag _ aN G
     rw[X]at u;cases u
  have aS:∀s,nH S st (ea b) ops.size s=(gl st S S.length).tm.get s:=by
   intro s;rw[Mu _ (_o _),hl];exact tx _ _ _ _ (fun i C _=>aa i C)
  have aT:mz S st (ea b) ops.size=aB (gl st S S.length).H:=by
   funext k;rw[II _ (_o _),hl];exact tx _ _ _ _ (fun i C _=>aa i C)
  refine aQ (fun i C cy=>by have h1:=aa i C;rw[aI.du i cy]at h1;cases h1) K a w ⟨by rw[<-aT];exact aI.inv,fun n bd=>?_,?_,aI.yM,aI.defers,fun s=>by rw[<-aS];exact aI.tm s⟩
  .rcases aI.names n bd with h|⟨i,s,C,_,h1,h2⟩
   .exact Tk
   have aN:=(_c.1 C).1;have:=p_ (st:=st) (S:=S) S.length (i+1) G (_o _);rw[GW C]at this;exact _r h2 this
  exact _C aq (p_ (st:=st) (S:=S) _ 0 (_6 _) (_o _))
 intro U;induction U with
 |zero=>
  intro b K a w av aI;have X:_Y .any ops b=[]:=by
   have aa:∀j∈_i ops.size,ea b j=true:=by
    have:((_i ops.size).filter (ea b)).length=(_i ops.size).length:=by
     have h1:=List.length_filter_le (ea b) (_i ops.size);simp at h1 av⊢;omega
    exact List.length_filter_eq_length_iff.1 this
   refine List.eq_nil_iff_forall_not_mem.2 fun j cB=>?_
   obtain⟨h1,o,bX,_⟩:=mem_ready.1 cB;have aN:j<ops.size:=(_t.1 bX).1;have:=aa j (_E.2 aN);have aj:=aI.size;unfold ea at this;have aU:j<b.size:=G;simp only[_9,aU]at h1 this;simp_all
  exact⟨X,au b K a w X aI⟩
 |succ U ag=>
  intro b K a w av aI;refine⟨fun X=>au b K a w X aI,fun i C=>?_⟩;obtain⟨aw,o,bX,aV⟩:=mem_ready.1 C;have ae:i<ops.size:=(_t.1 bX).1;have ax:i<b.size:=by rw[aI.size];exact ae
  have Y:ea b i=false:=by
   unfold ea;simp only[_9,ax]at aw⊢;exact aw
  have ai:∀e∈ko ops i,ea b e=true:=by
   intro e J;unfold ko at J;rw[bX]at J;obtain⟨aW,aX,rfl⟩:=List.mem_map.1 J;obtain⟨h1,h2⟩:=List.mem_filter.1 aX;exact aV aW y8 h2
  have m:S[i]?=some S[i]:=_d G;have ab:xs[i]?=some xs[i]:=_d G;obtain⟨_,aY,aZ⟩:=ar i _ _ _ m ab bX;have af:∀j,j<ops.size->(∃x,xs[j]?=some x/\(j<i->vt x xs[i]=true)/\(i<j->vt xs[i] x=true))\/(∃q,S[j]?=some q/\(j<i->qJ ⟨q.t,fD q.wr⟩ ⟨S[i].t,fD S[i].wr⟩=true)/\(i<j->qJ ⟨S[i].t,fD S[i].wr⟩ ⟨q.t,fD q.wr⟩=true))->ea b j=decide (j<i):=by
   intro j cB ay;have a0:j<i->C7 ops i j:=by
    intro aN;rcases ay with⟨x,I,h1,_⟩|⟨q,c,h1,_⟩
    .exact Z.slot j i x _ aN I ab (h1 aN)
    exact Z.site j i q _ aN c m (h1 aN)
   have a1:i<j->C7 ops j i:=by
    intro aN;rcases ay with⟨x,I,_,h1⟩|⟨q,c,_,h1⟩
    .exact Z.slot i j _ x aN ab I (h1 aN)
    exact Z.site i j _ q aN m c (h1 aN)
   rcases _H j i with aN|rfl|az
   .rw[a0 aN _ aI.closed ai];simp[aN]
   .rw[Y];simp
   have u:=a1 az;have:decide (j<i)=false:=c7;rw[this];cases ac:ea b j with
   |false=>rfl
   |true=>
    rw[u _ aI.closed (aI.closed j ac)]at Y;cases Y
  have ak:∀j q,ti S j q->∃x,xs[j]?=some x/\x.dst=some q/\j<ops.size:=by
   rintro j q ⟨aA,cB,f⟩;have al:j<ops.size:=WD;have aC:xs[j]?=some xs[j]:=_d G;exact⟨_,aC,(ar j _ _ _ cB aC (_m al)).1 _ f,al⟩
  have am:∀j k,uq S j k->∃q,S[j]?=some q/\k∈fD q.wr/\j<ops.size:=by
   rintro j k ⟨aA,cB,f⟩;exact⟨aA,cB,f,WD⟩
  have a2:∀k∈S[i].t,mz S st (ea b) ops.size k=aB (gl st S i).H k:=by
   intro k M;rw[II i G,mz,mz,<-Li _ _ _ i ops.size G];refine tx _ _ _ _ (fun j cB cy=>af j cB (.inr ?_));obtain⟨q,c,u,_⟩:=am j k cy;refine⟨q,c,fun _=>?_,fun _=>?_⟩
   .simp only[qJ,_h];exact .inl (.inl (zU.2 ⟨k,u,M⟩))
   simp only[qJ,_h];exact .inl (.inr (zU.2 ⟨k,M,u⟩))
  have aD:∀q∈S[i].rs,aJ K w ((gl st S i).tm.get q) (a.tmps.getD q.nat undef):=by
   intro q c;have e:nH S st (ea b) ops.size q=(gl st S i).tm.get q:=by
    rw[Mu i G,nH,nH,<-Li _ _ _ i ops.size G];refine tx _ _ _ _ (fun j cB cy=>af j cB (.inl ?_));obtain⟨x,I,f,_⟩:=ak j q cy;rw[aY]at c;refine⟨x,I,fun _=>?_,fun _=>?_⟩
    .simp only[vt,f,_h];exact .inl (.inl (Ke.2 c))
    simp only[vt,f,_h];exact .inr (Ke.2 c)
   rw[<-e];exact aI.tm q
  by_cases ao:W i
  .exact an i _ b K a w _ ao m aI ai aD
  obtain⟨a3,a4⟩:=aZ.resolve_left ao;have a5:∀O,(gl st S i).gen<=O->O<(gl st S i).gen+S[i].g->¬K.bG O:=by
   intro O h1 h2 f;rcases aI.names O f with h|⟨j,s,cB,ac,bm,bn⟩
   .have:=p_ (st:=st) (S:=S) i 0 (_6 _) G;have bo:oK st S 0=st.gen:=rfl;have a6:oK st S i=(gl st S i).gen:=rfl;omega
   have al:=(_c.1 cB).1;have a6:oK st S i=(gl st S i).gen:=rfl;rcases _H j i with aN|rfl|az
   .have:=p_ (st:=st) (S:=S) i (j+1) G G;exact Xp
   .rw[ac]at Y;cases Y
   have:=p_ (st:=st) (S:=S) j (i+1) G G;rw[GW m]at this;omega
  have a7:Γ.g0<=(gl st S i).gen:=_C aq (p_ (st:=st) (S:=S) i 0 (_6 _) G);have a8:∃a9,∀n,K.bG n->n<a9:=by
   refine⟨oK st S S.length,fun n bd=>?_⟩;exact TC
  have ba:=AE aP;have aE:=ba.2 i o xs[i] GZ ab;simp only[sA,_a]at aE;have cJ:=a4 Γ K (mz S st (ea b) ops.size) a w Q (wpAny P .any ops Q U (b.setIfInBounds i true)) aI.inv a2 aD a5 a7 a8 (fun bb bc v O be bf bg=>by
   have q9:=akV b i (hi:=ax);refine ag _ bb _ bc ?_ ⟨fun j cB=>by rw[q9,if_neg (fun e:j=i=>ao (e▸cB))];exact aI.du j cB,by simp[aI.size],fun j cB e J=>?_,?_,fun aF bh=>?_,?_,(by unfold Act.put;split<;>exact aI.defers),fun q=>?_⟩
   .have:=Pb (E:=ea b) (E':=ea (b.setIfInBounds i true)) Y q9 (_i ops.size) List.nodup_range (_E.2 ae);rw[this];omega
   .rw[q9]at cB⊢;by_cases aG:e=i
    .rw[if_pos aG]
    rw[if_neg aG];by_cases aH:j=i
    .subst aH;exact ai e J
    rw[if_neg aH]at cB;exact aI.closed j cB e J
   .have e:mz S st (ea (b.setIfInBounds i true)) ops.size=gT (mz S st (ea b) ops.size) S[i].wr:=by
     funext k;rw[FT];by_cases M:k∈fD S[i].wr
     .rw[if_pos M];have:=JX (uq S) (Cu S) (aB st.H) (E:=ea (b.setIfInBounds i true)) (l:=k) (i:=i) I0 ⟨_,m,M⟩ ops.size ae (fun j bi ap cy=>by
       rw[q9,if_neg G];obtain⟨q,c,u,_⟩:=am j k cy;rw[af j ap (.inr ⟨q,c,fun h=>G,fun _=>by simp only[qJ,_h];exact .inr (zU.2 ⟨k,M,u⟩)⟩)];simp;omega)
      rw[mz,this];simp only[Cu,m]
     rw[if_neg M];refine tx _ _ _ _ (fun j cB cy=>?_);rw[q9,if_neg];rintro rfl;obtain⟨q,c,u,_⟩:=am j k cy;rw[m]at c;obtain rfl:=_b c;exact M u
    rw[e];exact be
   .rcases bg aF bh with h|h
    .rcases aI.names aF h with h1|⟨j,s,cB,ac,h1,h2⟩
     .exact .inl h1
     refine .inr ⟨j,s,cB,?_,h1,h2⟩;rw[q9];split
     .rfl
     exact ac
    refine .inr ⟨i,_,m,I0,h.1,h.2⟩
   .show(a.put o.dst v).tmps.size=N;unfold Act.put;split
    .simp[aI.yM]
    exact aI.yM
   have z:vY N o.dst S[i].dst=true:=by rw[a3];exact aE.1.2
   by_cases c:ti S i q
   .have e:=JX (ti S) (B6 S) st.tm.get (E:=ea (b.setIfInBounds i true)) (l:=q) (i:=i) I0 c ops.size ae (fun j bi ap cy=>by
     rw[q9,if_neg G];obtain⟨x,I,f,_⟩:=ak j q cy;obtain⟨bp,aK,bj,_⟩:=ak i q c;rw[ab]at aK;obtain rfl:=_b aK;rw[af j ap (.inl ⟨x,I,fun h=>G,fun _=>by simp only[vt,bj,f,_h,decide_eq_true_eq];exact .inl (.inr trivial)⟩)];simp;omega)
    rw[nH,e];simp only[B6,m];obtain⟨bq,aL,f⟩:=c;rw[m]at aL;obtain rfl:=_b aL;rw[f]at z;unfold vY at z;split at z
    .rename_i h1 h2;cases h2
    .rename_i t bk h1 h2;obtain rfl:=_b h2;simp only[_a,decide_eq_true_eq]at z;obtain⟨rfl,aN⟩:=z;simp only[h1,Act.put];rw[L0 _ _ _ _ (by rw[aI.yM];exact aN),if_pos rfl];exact bf
    cases z
   have e:nH S st (ea (b.setIfInBounds i true)) ops.size q=nH S st (ea b) ops.size q:=by
    refine tx _ _ _ _ (fun j cB cy=>?_);rw[q9,if_neg];rintro rfl;exact c cy
   rw[e];have aM:=(aI.tm q).mono O;unfold vY at z;split at z
   .rename_i h1 h2;simp only[h1,Act.put];exact aM
   .rename_i t bk h1 h2;simp only[_a,decide_eq_true_eq]at z;obtain⟨rfl,aN⟩:=z;simp only[h1,Act.put];rw[L0 _ _ _ _ (by rw[aI.yM];exact aN),if_neg]
    .exact aM
    intro bl;exact c ⟨_,m,by rw[h2,bK.vB bl]⟩
   cases z)
  unfold wpOp;simp only[bX];exact X0
end
inductive dI where
 |skip
 |ret
 |region (xs:List cP)
 |uf (ps:List Nat) (xs:List cP)
 |seq (a b:dI)
 |cond (c:a7) (t e:dI)
 |block (id:Nat) (b:dI)
 |loop (b:dI)
 |exit (id:Nat)
def hC(P:Program)(N:Nat):Code->dI->Bool
 |c,.skip=>match c with|.skip=>true|_=>false
 |c,.ret=>match c with|.ret=>true|_=>false
 |c,.region xs=>match c with|.region _ ops f=>(f==false)&&kK P N ops ops.toList xs|_=>false
 |c,.uf g xs=>match c with|.region _ ops f=>(f==true)&&ze ((_i ops.size).map (ko ops)) g&&Mr xs g xs.length&&kK P N ops ops.toList xs|_=>false
 |c,.seq x y=>match c with|.seq a b=>hC P N a x&&hC P N b y|_=>false
 |c,.cond q x y=>match c with|.cond p a b=>ba p q&&hC P N a x&&hC P N b y|_=>false
 |c,.block i x=>match c with|.block j a=>decide (i=j)&&hC P N a x|_=>false
 |c,.loop x=>match c with|.loop a=>hC P N a x|_=>false
 |c,.exit i=>match c with|.exit j=>decide (i=j)|_=>false
termination_by structural _ x=>x
def wD(Γ:bw)(P:Program)(N:Nat)(c:Code)(f:Exit->bb->Prop)(st:bb):Prop:=
 ∀K a w,ft Γ N st K a w->c.wp P (fun e g j=>∃b m,ft Γ N b m g j/\f e b) a w
inductive jR where
 |code (x:dI)
 |block (id:Nat)
 |loop (b:bb->Prop)
def w3(Γ:bw)(P:Program)(N:Nat)(x:dI)(b:Exit->bb->Prop)(st:bb):Prop:=∀c,hC P N c x=true->wD Γ P N c b st
def iE(Γ:bw)(P:Program)(N:Nat)(R:bb->Prop):List jR->Exit->bb->Prop
 |[],.normal,st=>R st
 |[],.ret,st=>R st
 |[],.panic b,st=>Γ.pq b st
 |[],_,_=>False
 |.code _::k,.panic b,st=>iE Γ P N R k (.panic b) st
 |.block _::k,.panic b,st=>iE Γ P N R k (.panic b) st
 |.loop _::k,.panic b,st=>iE Γ P N R k (.panic b) st
 |.code x::k,.normal,st=>w3 Γ P N x (iE Γ P N R k) st
 |.code _::k,.exit i,st=>iE Γ P N R k (.exit i) st
 |.code _::k,.ret,st=>iE Γ P N R k .ret st
 |.block _::k,.normal,st=>iE Γ P N R k .normal st
 |.block i::k,.exit j,st=>if j=i then iE Γ P N R k .normal st else iE Γ P N R k (.exit j) st
 |.block _::k,.ret,st=>iE Γ P N R k .ret st
 |.loop c::_,.normal,st=>c st
 |.loop _::k,.exit i,st=>iE Γ P N R k (.exit i) st
 |.loop _::k,.ret,st=>iE Γ P N R k .ret st
 |_::_,_,_=>False
def Go(Γ:bw)(P:Program)(N:Nat)(R:bb->Prop)(x:dI)(k:List jR)(st:bb):Prop:=w3 Γ P N x (iE Γ P N R k) st
def qm(Γ:bw)(P:Program)(N:Nat)(R:bb->Prop)(k:List jR)(st:bb):Prop:=iE Γ P N R k .normal st
def tn(Γ:bw)(P:Program)(N:Nat)(R:bb->Prop)(k:List jR)(i:Nat)(st:bb):Prop:=iE Γ P N R k (.exit i) st
section
variable {Γ:bw} {P:Program} {N:Nat} {R:bb->Prop} {k:List jR} {st:bb}
theorem wD.mono{c:Code}{b f:Exit->bb->Prop}(h:wD Γ P N c b st)(g:∀e s,b e s->f e s):wD Γ P N c f st:=
 fun K a w j=>wp_mono (h K a w j) fun e q u ⟨s,m,h1,h2⟩=>⟨s,m,h1,g e s h2⟩
theorem aj1(h:qm Γ P N R k st):Go Γ P N R .skip k st:=by
 intro c b K a w f;simp only[hC]at b;split at b
 .exact wp_skip ⟨st,K,f,h⟩
 cases b
theorem GA{st:bb}(h:R st):∀(k:List jR),iE Γ P N R k .ret st
 |[]=>h
 |.code _::k=>GA h k
 |.block _::k=>GA h k
 |.loop _::k=>GA h k
theorem go_ret(h:R st):Go Γ P N R .ret k st:=by
 intro c b K a w f;simp only[hC]at b;split at b
 .exact wp_ret ⟨st,K,f,GA h k⟩
 cases b
theorem agJ{i:Nat}(h:tn Γ P N R k i st):Go Γ P N R (.exit i) k st:=by
 intro c b K a w f;simp only[hC]at b;split at b
 .have e:=of_decide_eq_true b;subst e;exact wp_exit ⟨st,K,f,h⟩
 cases b
theorem j8{x y:dI}(h:Go Γ P N R x (.code y::k) st):Go Γ P N R (.seq x y) k st:=by
 intro c b K a w f;simp only[hC]at b;split at b
 .rename_i p q;simp only[_a]at b;refine wp_seq (wp_mono (h p b.1 K a w f) ?_);rintro e g j ⟨s,cH,h1,h2⟩;cases e with
  |normal=>exact h2 q b.2 cH g j h1
  |exit i=>exact tu
  |ret=>exact tu
  |goto l=>exact h2.elim
  |panic m=>exact tu
  |outgrown=>exact h2.elim
 cases b
theorem ad3{i:Nat}{x:dI}(h:Go Γ P N R x (.block i::k) st):Go Γ P N R (.block i x) k st:=by
 intro c b K a w f;simp only[hC]at b;split at b
 .rename_i j p;simp only[_a,decide_eq_true_eq]at b;obtain⟨rfl,b⟩:=b;refine wp_block (wp_mono (h p b K a w f) ?_);rintro e g m ⟨s,cH,h1,h2⟩;cases e with
  |normal=>exact tu
  |exit j=>
   simp only[Exit.inBlock];simp only[iE]at h2;split
   .rename_i e;rw[if_pos e]at h2;exact tu
   rename_i e;rw[if_neg e]at h2;exact tu
  |ret=>exact tu
  |goto l=>exact h2.elim
  |panic q=>exact tu
  |outgrown=>exact h2.elim
 cases b
def yu(Γ:bw)(P:Program)(N:Nat)(R:bb->Prop)(x y:dI)(k:List jR)(st:bb):O->Prop
 |.v (.bool t)=>match t with
  |true=>Go Γ P N R x k st
  |false=>Go Γ P N R y k st
 |.dY=>Go Γ P N R x k st/\Go Γ P N R y k st
 |_=>False
theorem agj{q:a7}{x y:dI}(h:yu Γ P N R x y k st (aW st.tm q)):Go Γ P N R (.cond q x y) k st:=by
 intro c f K a w g;simp only[hC]at f;split at f
 .rename_i p u v;simp only[_a]at f;have j:=ajh (fun s=>g.tm s) f.1.1;unfold yu at h;split at h
  .rename_i t m;rw[m]at j;have e:=cQ j;cases t with
   |true=>exact wp_cond_true e (h u f.1.2 K a w g)
   |false=>exact wp_cond_false e (h v f.2 K a w g)
  .rename_i m;rw[m]at j;generalize z:a.eval p=C at j;cases j with
   |dY b=>cases b with
    |true=>exact wp_cond_true z (h.1 u f.1.2 K a w g)
    |false=>exact wp_cond_false z (h.2 v f.2 K a w g)
  exact h.elim
 cases f
theorem aeN{x y:dI}(h1:Go Γ P N R x k st)(h2:Go Γ P N R y k st):yu Γ P N R x y k st .dY:=⟨h1,h2⟩
theorem KC{x y:dI}:yu Γ P N R x y k st (.v (.bool true))=Go Γ P N R x k st:=rfl
theorem LU{x y:dI}:yu Γ P N R x y k st (.v (.bool false))=Go Γ P N R y k st:=rfl
theorem af6{x y:dI}{t:Bool}(h1:t=true->Go Γ P N R x k st)(h2:t=false->Go Γ P N R y k st):yu Γ P N R x y k st (.v (.bool t)):=by exact ZW
def Jx(Γ:bw)(P:Program)(N:Nat)(R:bb->Prop)(k:List jR)(st:bb)(_:List e6):Prop:=qm Γ P N R k st
theorem N3(n:Nat):_i n=_O 0 n:=List.range_eq_range'
theorem ahp{xs:List cP}(h:run P (Jx Γ P N R k) 1000 xs st []):Go Γ P N R (.region xs) k st:=by
 intro c b K a w u;simp only[hC]at b;split at b
 .rename_i id ops x;simp only[_a,beq_iff_eq]at b;obtain⟨rfl,v⟩:=b;refine wp_region ?_;rw[N3];have:=F4 (Γ:=Γ) (ops:=ops) (Q:=Jx Γ P N R k) (Q':=fun e g m=>∃q f,ft Γ N q f g m/\iE Γ P N R k e q) (tl:=[]) (fun s tr f g m h1 h2=>⟨s,f,h1,h2⟩) ops.toList xs 0 1000 st [] K a w (fun j _=>aF) v h u;exact oe
 cases b
theorem OT{K:aO}{a:Act}{w:World}(c:ft Γ N st K a w):ft Γ N st K a {w with drawn:=w.drawn+1}:=by
 have f:dH K w K {w with drawn:=w.drawn+1}:=⟨cN.sX rfl rfl rfl rfl,fun n h=>⟨h,rfl⟩,fun g _ h=>h⟩;have b:=c.inv;refine⟨⟨b.ext.trans (cN.sX rfl rfl rfl rfl),b.base,fun k o h=>(b.obj k o h).mono f id (fun _=>rfl),b.inj,b.db,b.lt,b.dz,b.own,b.ga⟩,c.fresh,c.g0,c.size,c.defers,fun s=>(c.tm s).mono f⟩
def N6(Γ:bw)(P:Program)(N:Nat)(R:bb->Prop)(k:List jR)(b:List Nat)(xs:List cP)(st:bb)(tr:List e6):Prop:=Br b tr.reverse xs.length=true/\qm Γ P N R k st
theorem af3{b:List Nat}{xs:List cP}{tr:List e6}(h1:Br b tr.reverse xs.length=true)(h2:qm Γ P N R k st):N6 Γ P N R k b xs st tr:=⟨h1,h2⟩
theorem abt(g:P.follows .mixedOrders=true){m:List Nat}{xs:List cP}(h:run P (N6 Γ P N R k m xs) 1000 xs st []):Go Γ P N R (.uf m xs) k st:=by
 intro c b K a w u;simp only[hC]at b;split at b
 .rename_i id ops ag;simp only[_a,beq_iff_eq,decide_eq_true_eq]at b;obtain⟨⟨⟨rfl,I⟩,J⟩,cw⟩:=b;obtain⟨S,h1,h2,M,O⟩:=YU ops.toList xs 1000 st [] cw h;have v:xs.length=ops.size:=HU;obtain⟨hl,Q⟩:=WZ v I J M;refine wp_region_any g ?_;have f:=OT u;refine Oh (Γ:=Γ) (W:=fun _=>False) hl v cw Q u.g0 (fun i s x o U X dk=>by
   obtain⟨z,Y,Z⟩:=h2 i s x o U X Yy;exact⟨fun _ h=>z▸h,Y,.inr ⟨z,Z⟩⟩) (fun _ _ _ _ _ _ _ h=>h.elim) (fun _ aa ah ai ab=>⟨_,aa,ab,O⟩) ops.size _ K a _ G ?_
  have b3:∀j,ea (_A ops.size false) j=false:=by exact TN
  have ac:∀s,nH S st (ea (_A ops.size false)) ops.size s=st.tm.get s:=by exact PT
  have ae:mz S st (ea (_A ops.size false)) ops.size=aB st.H:=by exact Vs
  exact⟨fun _ h=>h.elim,aF,(fun j C=>by rw[b3]at C;exact absurd C aF),by rw[ae];exact f.inv,fun af g=>.inl (f.fresh af g),f.size,f.defers,fun s=>by rw[ac];exact f.tm s⟩
 cases b
theorem aga{x:dI}(h:Go Γ P N R x k st):qm Γ P N R (.code x::k) st:=h
theorem ag5{i:Nat}(h:qm Γ P N R k st):qm Γ P N R (.block i::k) st:=h
theorem br{b:bb->Prop}(h:b st):qm Γ P N R (.loop b::k) st:=h
theorem aeQ(h:R st):qm Γ P N R [] st:=h
theorem aht{i:Nat}{x:dI}(h:tn Γ P N R k i st):tn Γ P N R (.code x::k) i st:=h
theorem adO{i:Nat}{b:bb->Prop}(h:tn Γ P N R k i st):tn Γ P N R (.loop b::k) i st:=h
theorem afI{i:Nat}(h:qm Γ P N R k st):tn Γ P N R (.block i::k) i st:=by
 show(if i=i then _ else _);rw[if_pos rfl];exact h
theorem ahi{i j:Nat}(b:i≠j)(h:tn Γ P N R k i st):tn Γ P N R (.block j::k) i st:=by
 show(if i=j then _ else _);rw[if_neg b];exact h
def fP(st b:bb):Prop:=∀(Γ:bw)(N:Nat)(K:aO)(a:Act)(w:World),ft Γ N st K a w->∃c,ft Γ N b c a w
theorem fP.refl(st:bb):fP st st:=fun Γ N K a w h=>⟨K,h⟩
theorem fP.trans{a b c:bb}(h:fP a b)(k:fP b c):fP a c:=fun Γ N K x w f=>let⟨g,j⟩:=h Γ N K x w f;k Γ N g x w j
theorem eJ{x:dI}{st':bb}(b:fP st st')(h:Go Γ P N R x k st'):Go Γ P N R x k st:=by
 intro c f K a w g;obtain⟨j,m⟩:=b Γ N K a w g;exact h c f j a w m
theorem aiR{α:Type}(f:α->bb)(j:α->Nat)(q:α->Prop){x:dI}(u:α)(J:q u)(M:fP st (f u))
 (O:∀a,q a->Go Γ P N R x (.loop (fun s=>∃m,q m/\j m<j a/\fP s (f m))::k) (f a)):Go Γ P N R (.loop x) k st:=by
 intro c v K a w Q;simp only[hC]at v;split at v
 .rename_i b;obtain⟨U,X⟩:=M Γ N K a w Q;refine wp_loop_ghost (fun n m Y=>∃p G,q p/\j p=n/\ft Γ N (f p) G m Y) (j u) ⟨u,U,J,rfl,X⟩ ?_;rintro n Z bl ⟨p,G,h1,rfl,h2⟩;refine wp_mono (O p h1 b v G Z bl h2) ?_;rintro e aa bD ⟨s,z,C,g⟩;cases e with
  |normal=>
   obtain⟨I,ab,ac,ae⟩:=g;obtain⟨af,ag⟩:=ae Γ N z aa bD C;exact⟨j I,ac,I,af,ab,rfl,ag⟩
  |exit i=>exact⟨s,z,C,g⟩
  |ret=>exact⟨s,z,C,g⟩
  |goto l=>exact g.elim
  |panic ah=>exact⟨s,z,C,g⟩
  |outgrown=>exact g.elim
 cases v
end
def xr(d:O):O->Prop
 |.any=>True
 |e=>d=e
def tA{α:Type}(m:α)(j:α->α->Prop):c9 α->c9 α->Prop
 |_,.nil=>True
 |.nil,.mk a b c d e f g h=>j m a/\j m b/\j m c/\j m d/\j m e/\j m f/\j m g/\j m h
 |.mk p q r s t u v w,.mk a b c d e f g h=>j p a/\j q b/\j r c/\j s d/\j t e/\j u f/\j v g/\j w h
def zR(x y:c9 O):Prop:=tA .any xr x y
def zB(x y:c9 (c9 O)):Prop:=tA .nil zR x y
def DP(x y:bQ):Prop:=tA .nil zB x y
def zY(o:Option aR):Option aR->Prop
 |none=>True
 |some p=>o=some p
def im:aV->aV->Prop
 |_,[]=>True
 |[],o::r=>zY none o/\im [] r
 |x::s,o::r=>zY x o/\im s r
theorem Kf{α:Type}{j:α}{m:α->α->Prop}(u:∀a,m a j){x y:c9 α}(h:tA j m x y)(d:kL):m (x.get j d) (y.get j d):=by
 cases y with
 |nil=>exact u _
 |mk a b c d e f g h=>
  cases x with
  |nil=>exact TT
  |mk v z C G I J M O=>exact TT
theorem aj0(x:c9 O):zR x .nil:=by unfold zR tA;cases x<;>trivial
theorem ajy(x:c9 (c9 O)):zB x .nil:=by unfold zB tA;cases x<;>trivial
theorem ac5{x y:bQ}(h:DP x y)(s:bK):xr (x.get s) (y.get s):=Kf (fun _=>trivial) (Kf aj0 (Kf ajy h s.i) s.j) s.k
theorem ahu{K:aO}{w:World}{d e:O}{v:Value}(h:xr d e)(b:aJ K w d v):aJ K w e v:=by
 unfold xr at h;split at h
 .exact .any v
 rw[<-h];exact b
theorem wx:∀ {x y:aV} (h:im x y) (k:Nat) (o:aR),aB y k=some o->aB x k=some o
 |x,[],_,k,o,h=>mT
 |[],q::r,h,k,o,b=>by
  simp only[im]at h;cases k with
  |zero=>
   simp only[aB]at b;subst b;exact absurd h.1 (by simp[zY])
  |succ k=>exact wx h.2 k o (by simpa[aB]using b)
 |p::s,q::r,h,k,o,b=>by
  simp only[im]at h;cases k with
  |zero=>
   simp only[aB]at b⊢;subst b;exact h.1
  |succ k=>exact wx h.2 k o (by simpa[aB]using b)
theorem wP{Γ:bw}{K:aO}{H c:Nat->Option aR}{w:World}(h:Inv Γ K H w)(aj:∀k o,c k=some o->H k=some o):Inv Γ K c w:=
 ⟨h.ext,h.base,fun k o b=>h.obj k o (aj k o b),fun f g j m h1 h2=>h.inj f g j m (aj _ _ h1) (aj _ _ h2),h.db,h.lt,fun k o b=>h.dz k o (aj k o b),fun k o b=>h.own k o (aj k o b),h.ga⟩
theorem dB{st b:bb}(h1:DP st.tm b.tm)(h2:im st.H b.H)(c:st.gen<=b.gen):fP st b:=fun Γ N K a w h=>⟨K,wP h.inv (wx h2),fun n f=>_r (h.fresh n f) c,_C h.g0 c,h.size,h.defers,fun s=>ahu (ac5 h1 s) (h.tm s)⟩
theorem gU{st:bb}(s:bK)(k sz:Nat){n:Nat}(h:st.tm.get s=.v (.slice none n 0))(m:n=0):fP st ⟨st.tm.set s (.aG k st.gen sz 0 0 false),cl st.H k (some ⟨st.gen,sz,[]⟩),st.gen+1⟩:=by
 intro Γ N K a w b;subst m;let c:aO:=⟨fun aq=>K.bG aq\/aq=st.gen,K.real,K.aD,K.M⟩
 have bg:dH K w c w:=⟨cN.refl _ _,fun n h=>⟨h,rfl⟩,fun g _ h=>h⟩;have u:¬K.bG st.gen:=fun h=>by have:=b.fresh _ h;omega
 have aI:=b.inv;have xN:∀j o,aB (cl st.H k (some ⟨st.gen,sz,[]⟩)) j=some o->(j=k/\o=⟨st.gen,sz,[]⟩)\/aB st.H j=some o:=by
  intro j o bX;rw[lS]at bX;exact XS
 have Af:¬K.real st.gen:=fun h=>u (aI.db _ h)
 refine⟨c,⟨aI.ext,⟨fun aq h=>?_,aI.base.cn,aI.base.keep,aI.base.M⟩,fun j o bX=>?_,fun eP e3 Jj mc h1 h2 aw aY bu=>?_,fun aq h=>.inl (aI.db aq h),aI.lt,fun j o bX=>?_,fun j o bX aT=>?_,aI.ga⟩,fun aq h=>?_,by have:=b.g0;show Γ.g0<=st.gen+1;omega,b.size,b.defers,fun q=>?_⟩
 .rcases h with h|h
  .exact DR
  exact .inr (by rw[h];exact b.g0)
 .exact aal
 .exact Qz
 .exact Zj
 .exact Tf
 .show aq<st.gen+1;rcases h with h|h
  .have:=b.fresh aq h;omega
  omega
 show aJ c w ((st.tm.set s _).get q) _;rw[bQ.iP];by_cases e:q=s
 .subst e;rw[if_pos rfl];have f:=b.tm q;rw[h]at f;rw[cQ f];exact .aG (_o _) (fun h=>rfl) (.inl rfl)
 rw[if_neg e];exact(b.tm q).mono bg
mutual
def dn (g:Nat):O->Prop
 |.any=>True
 |.dY=>True
 |.e7=>True
 |.v _=>True
 |.agg c=>eV g c
 |.aS c=>eV g c
 |.ptr _ n _ _ _=>n<g
 |.bY x=>eV g x
 |.aG _ n _ _ _ _=>n<g
 |.eA _ n _ _=>n<g
 |.snap _ xs _=>c1 g xs
 |.fn _ a b=>eV g a/\eV g b
 |.mp _ n=>n<g
 |.ch n _ _=>n<g
 |.eZ _ n _ _=>n<g
 |.gA n _=>n<g
def eV (g:Nat):List O->Prop
 |[]=>True
 |d::r=>dn g d/\eV g r
def c1 (g:Nat):List (List O)->Prop
 |[]=>True
 |x::r=>eV g x/\c1 g r
end
theorem R7{g:Nat}:∀ {l:List O},eV g l↔∀d∈l,dn g d
 |[]=>by simp[eV]
 |d::r=>by simp[eV,R7 (l:=r)]
theorem F_{g:Nat}:∀ {l:List (List O)},c1 g l↔∀x∈l,eV g x
 |[]=>by simp[c1]
 |x::r=>by simp[c1,F_ (l:=r)]
theorem sN{g:Nat}{l:List O}(h:eV g l){i:Nat}{d:O}(b:l[i]?=some d):dn g d:=R7.1 h d (_j b)
theorem zk{K K0:aO}{w:World}{g:Nat}(aT:∀n,K.real n->n<g->K0.real n/\K0.aD n=K.aD n)(C:∀b,b<w.heap.size->K0.M b->K.M b){d:O}{v:Value}(h:aJ K w d v):dn g d->aJ K0 w d v:=by
 induction h with
 |any x=>exact fun _=>.any x
 |dY b=>exact fun _=>.dY b
 |e7 t x=>exact fun _=>.e7 t x
 |v x=>exact fun _=>.v x
 |agg hl h u=>exact fun bd=>.agg hl fun i d c m bn=>u i d c m bn (sN ob m)
 |aS hl h u=>exact fun bd=>.aS hl fun i d c m bn=>u i d c m bn (sN ob m)
 |@ptr k n sz i j dm J=>
  intro bd;have:=aT n dm ob;rw[<-this.2];exact .ptr this.1 (by rw[this.2];exact J)
 |@mp k n dm=>
  intro bd;have:=aT n dm ob;exact HT
 |@eZ k n len T A cap z h=>
  intro bd;refine .eZ z ?_;exact Pm
 |@ch n sz T dm bn=>
  intro bd;have:=aT n dm ob;rw[<-this.2];exact .ch this.1 Km
 |@gA n i ae dm h=>
  intro bd;have:=aT n dm ob;exact .gA this.1 Dc
 |@bY x ad f aj G Q bn h u=>exact fun bd=>.bY f aj G (fun q=>Q (C _ G q)) bn fun t d m=>u t d m (sN ob m)
 |@aG k n sz af len ag A cap z U h=>
  intro bd;refine .aG z U ?_;exact Pm
 |@eA k n sz len cap z dm h=>
  intro bd;have:=aT n dm ob;rw[<-this.2];exact .eA z this.1 Dc
 |@snap sz xs ah A len cap f hl z bn aj X Y h u=>
  intro bd;refine .snap f hl z bn aj (fun Z=>?_) Y fun i x j d I m=>u i x j d I m ?_
  .obtain⟨ad,e,aa,h1,h2⟩:=X Z;exact⟨ad,e,aa,h1,fun q=>h2 (C _ h1 q)⟩
  have h1:c1 g xs:=ob;exact sN (F_.1 h1 x (_j I)) m
 |fn h1 h2 ai ak ab ac=>
  intro bd;simp only[dn]at bd;exact .fn h1 h2 (fun i d c m bn=>ab i d c m bn (sN bd.1 m)) (fun i d c m bn=>ac i d c m bn (sN bd.2 m))
def eH:bQ:=.nil
theorem CD(s:bK):eH.get s=.any:=rfl
def gP:List bK:=[⟨.d0,.d0,.d0⟩,⟨.d0,.d0,.d1⟩,⟨.d0,.d0,.d2⟩,⟨.d0,.d0,.d3⟩,⟨.d0,.d0,.d4⟩,⟨.d0,.d0,.d5⟩,⟨.d0,.d0,.d6⟩,⟨.d0,.d0,.d7⟩,
 ⟨.d0,.d1,.d0⟩,⟨.d0,.d1,.d1⟩,⟨.d0,.d1,.d2⟩,⟨.d0,.d1,.d3⟩,⟨.d0,.d1,.d4⟩,⟨.d0,.d1,.d5⟩,⟨.d0,.d1,.d6⟩,⟨.d0,.d1,.d7⟩]
theorem aau:∀(i:Nat)(s:bK),gP[i]?=some s->s.nat=i:=by
 intro i s h;have b:i<16:=by have:=(_c.1 h).1;exact this
 match i,b,h with
 |0,_,h|1,_,h|2,_,h|3,_,h|4,_,h|5,_,h|6,_,h|7,_,h|8,_,h|9,_,h|10,_,h|11,_,h|12,_,h|13,_,h|14,_,h|15,_,h=>(simp[gP]at h;rw[<-h];rfl)
def hq:List O->List bK->bQ->bQ
 |d::r,s::t,e=>hq r t (e.set s d)
 |_,_,e=>e
theorem HP{K:aO}{w:World}{b:Array Value}:∀(c:List O)(f:List bK)(e:bQ),(∀s:bK,aJ K w (e.get s) (b.getD s.nat undef))->(∀(i:Nat)(d:O)(s:bK),c[i]?=some d->f[i]?=some s->aJ K w d (b.getD s.nat undef))->
 ∀s:bK,aJ K w ((hq c f e).get s) (b.getD s.nat undef)
 |[],_,e,h,_=>h
 |_::_,[],e,h,_=>h
 |d::r,s::t,e,h,g=>HP r t (e.set s d) (fun q=>by
   rw[bQ.iP];by_cases eq:q=s
   .subst eq;rw[if_pos rfl];exact g 0 d q rfl rfl
   rw[if_neg eq];exact h q) (fun i j m h1 h2=>g (i+1) j m y8 EP)
inductive fy where
 |tmp (s:bK)
 |cell (s:bK) (b:Bool) (n:Nat)
def Ml(P:Program):ResultVar->fy->Bool
 |.tmp t,.tmp s=>decide (t=s.nat)
 |.cell a t,.cell s b n=>decide (a=s.nat)&&fQ P t n&&jD P t b&&(b||decide (n=1))
 |_,_=>false
def o2(P:Program):List ResultVar->List fy->Bool
 |[],[]=>true
 |a::r,x::s=>Ml P a x&&o2 P r s
 |_,_=>false
def qY(b:Bool)(n i j:Nat):Option aR->O
 |some o=>kx b n (fT (cf o.xs i) j)
 |none=>.any
def qV(b:Bool)(n:Nat)(H:aV):O->O
 |.ptr k _ _ i j=>qY b n i j (aB H k)
 |_=>.any
def qK(st:bb):fy->O
 |.tmp s=>st.tm.get s
 |.cell s b n=>qV b n st.H (st.tm.get s)
def pX(n b sz i j:Nat):Option aR->Prop
 |some o=>o.n=b/\o.sz=sz/\i<o.xs.length/\j+n<=o.sz
 |none=>False
def pL(n:Nat)(H:aV):O->Prop
 |.ptr k b sz i j=>pX n b sz i j (aB H k)
 |_=>False
def hQ(st:bb):List fy->Prop
 |[]=>True
 |.tmp _::r=>hQ st r
 |.cell s _ n::r=>pL n st.H (st.tm.get s)/\hQ st r
def fB(st:bb):List fy->List O
 |[]=>[]
 |x::r=>qK st x::fB st r
def hp:List O->O
 |[d]=>d
 |l=>.aS l
def fC:Nat->aV->aV
 |0,_=>[]
 |m+1,[]=>none::fC m []
 |m+1,o::r=>o::fC m r
def jb(g:Nat):aV->Prop
 |[]=>True
 |none::r=>jb g r
 |some o::r=>(o.n<g/\c1 g o.xs)/\jb g r
def rT(b:List fy)(g0 c:Nat)(R:O->aV->Prop)(st:bb):Prop:=
 hQ st b/\dn g0 (hp (fB st b))/\jb g0 (fC c st.H)/\R (hp (fB st b)) (fC c st.H)
def lh(Γ:bw)(st b:bb):Prop:=∀(N:Nat)(K:aO)(a:Act)(w:World),ft Γ N st K a w->∃c,ft Γ N b c a w
def nq(Γ:bw)(c:List fy)(f:Nat)(R:O->aV->Prop)(st:bb):Prop:=∃b,lh Γ st b/\rT c Γ.g0 f R b
theorem NF{Γ:bw}{b:List fy}{c:Nat}{R:O->aV->Prop}{st:bb}(h:rT b Γ.g0 c R st):nq Γ b c R st:=⟨st,fun N K a w h=>⟨K,h⟩,h⟩
theorem ev{Γ:bw}{b:List fy}{c:Nat}{R:O->aV->Prop}{st f:bb}(h1:lh Γ st f)(h2:nq Γ b c R f):nq Γ b c R st:=by
 obtain⟨g,j,m⟩:=h2;refine⟨g,fun N K a w q=>?_,m⟩;obtain⟨u,v⟩:=h1 N K a w q;exact j N u a w v
theorem tE:∀(m:Nat)(H:aV)(k:Nat)(o:aR),aB (fC m H) k=some o->aB H k=some o
 |0,H,k,o,h=>by simp[fC,aB]at h
 |m+1,[],k,o,h=>by
  cases k with
  |zero=>simp[fC,aB]at h
  |succ k=>exact tE m [] k o (by simpa[fC,aB]using h)
 |m+1,x::r,k,o,h=>by
  cases k with
  |zero=>simpa[fC,aB]using h
  |succ k=>exact tE m r k o (by simpa[fC,aB]using h)
theorem uP{g:Nat}:∀ {H:aV} (h:jb g H) (k:Nat) (o:aR),aB H k=some o->o.n<g/\c1 g o.xs
 |[],_,k,o,b=>by simp[aB]at b
 |none::r,h,k,o,b=>by
  cases k with
  |zero=>simp[aB]at b
  |succ k=>exact uP (H:=r) h k o b
 |some p::r,h,k,o,b=>by
  cases k with
  |zero=>simp[aB]at b;subst b;exact h.1
  |succ k=>exact uP (H:=r) h.2 k o b
def Az(b:Array Value):ResultVar->Sem Value
 |.tmp t=>pure (b.getD t undef)
 |.cell a t=>do loadVar t (<-asAddr (b.getD a undef))
theorem abZ(fn:Func)(c:Array Value):results fn c=(do
 let b <-fn.results.mapM (Az c)
 pure (if h:b.size=1 then b[0]else .tuple b)):=rfl
section
variable {Γ:bw} {P:Program} {N:Nat} {st:bb} {K:aO} {a:Act} {w:World}
theorem adx(g:ft Γ N st K a w){r:ResultVar}{x:fy}(b:Ml P r x=true)(aP:hQ st [x]):
 ∃v,(Az a.tmps r).run P w=.ok v w/\aJ K w (qK st x) v:=by
 unfold Ml at b;split at b
 .rename_i t s;have e:=of_decide_eq_true b;subst e;exact⟨_,rfl,g.tm s⟩
 .rename_i ad t s aj n;simp only[_a,_h,decide_eq_true_eq]at b;obtain⟨⟨⟨rfl,h1⟩,h2⟩,J⟩:=b;have m:=g.tm s;simp only[hQ,and_true]at aP;simp only[qK];unfold pL at aP;split at aP
  .rename_i k M sz i j O;rw[O]at m⊢;unfold pX at aP;split at aP
   .rename_i f C;obtain⟨u,Q,U,ak⟩:=aP;generalize X:a.tmps.getD s.nat undef=al at m;cases m with
    |ptr Y z=>
     obtain⟨_,_,_,z⟩:=z;rcases(g.inv.obj k f C).two (fun Z=>Z.out (by rw[u];exact z))with⟨G,_⟩|⟨G,aa,ab,ac,am,ae,an,af,ag⟩
     .exact absurd (u▸Y) G
     obtain⟨x,aP⟩:∃x,f.xs[i]?=some x:=⟨_,_d U⟩;have ao:x.length=f.sz:=af x (_j aP);have ah:cf f.xs i=x:=Nk;obtain⟨v,aw,aY⟩:=LY (P:=P) (ad:=⟨K.aD M,i*sz+j,none⟩) (w:=w) (K:=K) h1 h2 J (ds:=x.drop j) yi (fun q d ap I=>by
      rw[List.getElem?_drop]at I;obtain⟨c,ai,h8⟩:=ag i x (j+q) d aP I;refine⟨c,?_,h8⟩;rw[addr_add,cell_of_row w _ _ aa ab ac (by rw[<-u];exact ae),<-ai,Q,Nat.add_assoc])
     refine⟨v,by simp only[Az,X,asAddr,_p,_N,_k,aw],?_⟩;simp only[qV,C,qY,ah,oc];exact aY
   exact aP.elim
  exact aP.elim
 cases b
theorem Tz(j:ft Γ N st K a w):∀ {rs:List ResultVar} {xs:List fy},o2 P rs xs=true->hQ st xs->
 ∃b:List Value,(rs.mapM (Az a.tmps)).run P w=.ok b w/\b.length=(fB st xs).length/\∀(i:Nat)(d:O)(v:Value),(fB st xs)[i]?=some d->b[i]?=some v->aJ K w d v
 |[],[],_,_=>⟨[],by simp[List.mapM_nil],rfl,fun i d v h=>by simp[fB]at h⟩
 |[],_::_,h,_=>by simp[o2]at h
 |_::_,[],h,_=>by simp[o2]at h
 |r::rs,x::xs,h,c=>by
  simp only[o2,_a]at h;have m:hQ st [x]/\hQ st xs:=by
   cases x with
   |tmp s=>exact⟨trivial,c⟩
   |cell s J n=>exact⟨⟨c.1,trivial⟩,c.2⟩
  obtain⟨v,q,u⟩:=adx (P:=P) j h.1 m.1;obtain⟨b,z,C,G⟩:=Tz j h.2 m.2;refine⟨v::b,?_,by simp[fB,C],fun i d I f g=>?_⟩
  .simp only[List.mapM_cons,_p,q,z,_k,_N]
  cases i with
  |zero=>simp[fB]at f g;rw[<-f,<-g];exact u
  |succ i=>exact G i d I (by simpa[fB]using f) (by simpa using g)
theorem Fc(j:ft Γ N st K a w){fn:Func}{xs:List fy}(m:o2 P fn.results.toList xs=true)(q:hQ st xs):∃v,(results fn a.tmps).run P w=.ok v w/\aJ K w (hp (fB st xs)) v:=by
 obtain⟨b,u,x,g⟩:=Tz j m q;have z:(fn.results.mapM (Az a.tmps)).run P w=.ok b.toArray w:=by
  rw[Array.mapM_eq_mapM_toList];simp[u]
 have C:(results fn a.tmps).run P w=.ok (if h:b.toArray.size=1 then b.toArray[0]else .tuple b.toArray) w:=by
  rw[abZ,_p,z];rfl
 refine⟨_,C,?_⟩;by_cases h1:b.length=1
 .have h2:(fB st xs).length=1:=by omega
  obtain⟨v,rfl⟩:=_M.1 h1;obtain⟨d,f⟩:=_M.1 h2;rw[f]at g⊢;simpa[hp]using g 0 d v rfl rfl
 have h2:(fB st xs).length≠1:=G;have e:hp (fB st xs)=.aS (fB st xs):=by
  unfold hp;split
  .rename_i d f;rw[f]at h2;simp at h2
  rfl
 rw[e,dif_neg y8];refine .aS (by simp[x]) fun i d c f bn=>g i d c f uZ
end
theorem xG{K q:aO}{w z:World}{g0:Nat}{v H1:aV}{H:Nat->Option aR}(G:Inv (cz K w g0 v) (K.cut w) (aB v) w)(f:Inv (cz K w g0 v) q H z)(u:∀k o,aB H1 k=some o->H k=some o)(I:jb g0 H1):Inv (cz K w g0 v) (K.cut w) (aB H1) z:=by
 have c:=f.base;have dm:∀n,q.real n->n<g0->(K.cut w).real n/\(K.cut w).aD n=q.aD n:=fun n h1 h2=>by
  have J:=c.cn n h1 h2;exact⟨J,(c.keep n J).2.symm⟩
 have oV:∀b,b<z.heap.size->(K.cut w).M b->q.M b:=fun b _ h=>(c.M b h.2).2 h
 refine⟨f.ext,⟨fun n h=>.inl h,fun n h _=>h,fun n h=>⟨h,rfl⟩,fun g _=>Iff.rfl⟩,fun k o m=>?_,fun O Q U X h1 h2 ac ae af=>?_,G.db,fun n h=>?_,fun k o m=>?_,fun k o m Y=>?_,f.ga⟩
 .have kZ:=uP I k o m;rcases f.obj k o (u k o m)with⟨bp,en⟩|⟨bp,eC,t,oD,Gy,en,e8,ma,nd⟩|⟨bp,en,nD,F9,e8,ma⟩
  .exact .inl ⟨fun h=>bp (c.keep _ h).1,en⟩
  rotate_left
  .exact Wi
  exact Qo
 .have Z:=c.keep _ ac;have aa:=c.keep _ ae;exact f.inj O Q U X (u O U h1) (u Q X h2) Z.1 aa.1 (Z.2.trans (af.trans aa.2.symm))
 .have:=c.keep n h;have e:(K.cut w).aD n=q.aD n:=this.2.symm;rw[e];exact f.lt n this.1
 .have kZ:=uP I k o m;rcases c.bG _ (f.dz k o (u k o m))with h|h
  .exact h
  exact JF
 have ab:=c.keep _ Y;have e:(K.cut w).aD o.n=q.aD o.n:=ab.2.symm;have ag:(K.cut w).aD o.n<w.heap.size:=G.lt _ Y;have C:=f.own k o (u k o m) ab.1;rw[<-e]at C;exact⟨(c.M _ ag).1 C.1,C.2⟩
theorem ahz{P:Program}{f:FuncId}{fn:Func}{c:Code}{x:dI}{u:List fy}{ho:List O}{j:aV}{R:O->aV->Prop}(G:P.funcs[f]?=some fn)(m:fn.body=some c)(I:hC P fn.ntmps c x=true)(J:o2 P fn.results.toList u=true)(aA:ho.length<=fn.ntmps)(q:k6 P f=true)
 (Q:∀Γ:bw,(j=[]->∀g,¬Γ.W0 g)->(∀k o,aB j k=some o->o.n<Γ.g0)->(∀g,Γ.W0 g->∃k o,aB j k=some o/\Γ.K0.real o.n/\Γ.K0.aD o.n=g)->Go Γ P fn.ntmps (nq Γ u j.length R) x [] ⟨hq ho gP eH,j,Γ.g0⟩):b1 P f ho j R:=by
 refine⟨q,?_⟩;intro K w lH g0 aI q A6;refine calls_of_wp G m ?_;have sB:∀n,(K.cut w).bG n->n<g0:=q;have U:ft (cz K w g0 j) fn.ntmps ⟨hq ho gP eH,j,g0⟩ (K.cut w) {tmps:=lH++_A (fn.ntmps-lH.size) undef,defers:=[]} w:=by exact LK
 have an:j=[]->∀g,¬(cz K w g0 j).W0 g:=by exact Dj
 refine wp_mono (Q (cz K w g0 j) an (fun k o h=>q _ (aI.dz k o h)) (fun g h=>h) c I _ _ _ U) ?_
 have iG:∀(je:Act)(gO:World)(hI:bb)(cH:aO),ft (cz K w g0 j) fn.ntmps hI cH je gO->nq (cz K w g0 j) u j.length R hI->je.defers=[]/\∃v,(results fn je.tmps).run P gO=.ok v gO/\
  ∃z d C,Ending.returned v=.returned z/\R d C/\Inv (cz K w g0 j) (K.cut w) (aB C) gO/\aJ (K.cut w) gO d z:=by
  intro je gO ag X Y Z;obtain⟨hI,aa,aw,aY,ab,ac⟩:=Z;obtain⟨cH,ky⟩:=aa fn.ntmps X je gO Y;obtain⟨v,ae,af⟩:=Fc ky J aw;refine⟨ky.defers,v,ae,v,_,_,rfl,ac,xG aI ky.inv (tE _ _) ab,?_⟩;have m:=ky.inv.base;exact zk (fun n h1 h2=>⟨m.cn n h1 h2,(m.keep n (m.cn n h1 h2)).2.symm⟩) (fun b _ h=>(m.M b h.2).2 h) af aY
 exact LH
mutual
def ij (g bW n:Nat):O->O->Prop
 |.agg c,e=>match e with
  |.agg f=>vm g bW n c f
  |_=>False
 |.aS c,e=>match e with
  |.aS f=>vm g bW n c f
  |_=>False
 |.aG k b sz j len m,e=>(b=bW/\e=.aG k n sz j len m)\/(b<g/\e=.aG k b sz j len m)
 |.eA k b sz len,e=>(b=bW/\e=.eA k n sz len)\/(b<g/\e=.eA k b sz len)
 |d,e=>e=d/\dn g d
def vm (g bW n:Nat):List O->List O->Prop
 |[],l=>l=[]
 |d::r,l=>match l with
  |e::s=>ij g bW n d e/\vm g bW n r s
  |[]=>False
end
theorem LL{g bW n:Nat}:∀ {c f:List O},vm g bW n c f->c.length=f.length/\∀(i:Nat)(d e:O),c[i]?=some d->f[i]?=some e->ij g bW n d e
 |[],l,h=>by
  simp only[vm]at h;exact uB
 |d::r,[],h=>by simp[vm]at h
 |d::r,e::s,h=>by
  simp only[vm]at h;obtain⟨h1,h2⟩:=LL h.2;exact uE
theorem ajY{K K0:aO}{w:World}{g bW n:Nat}(U:∀n,K.real n->n<g->K0.real n/\K0.aD n=K.aD n)(J:K.real bW->K0.real n/\K0.aD n=K.aD bW)(X:∀b,b<w.heap.size->K0.M b->K.M b){d:O}{v:Value}(h:aJ K w d v):∀e,ij g bW n d e->aJ K0 w e v:=by
 have cn:∀ {d v},aJ K w d v->dn g d->aJ K0 w d v:=fun h bd=>zk U X h bd
 induction h with
 |any x=>intro e j;simp only[ij]at j;obtain⟨rfl,_⟩:=j;exact .any x
 |dY b=>intro e j;simp only[ij]at j;obtain⟨rfl,_⟩:=j;exact .dY b
 |e7 t x=>intro e j;simp only[ij]at j;obtain⟨rfl,_⟩:=j;exact .e7 t x
 |v x=>intro e j;simp only[ij]at j;obtain⟨rfl,_⟩:=j;exact .v x
 |@agg ho Y hl h js=>
  intro e j;cases e with
  |agg Z=>
   simp only[ij]at j;obtain⟨h1,h2⟩:=LL j;exact y7
  |_=>simp[ij]at j
 |@aS ho Y hl h js=>
  intro e j;cases e with
  |aS Z=>
   simp only[ij]at j;obtain⟨h1,h2⟩:=LL j;exact Bb
  |_=>simp[ij]at j
 |ptr m aa=>intro e j;simp only[ij]at j;obtain⟨rfl,bd⟩:=j;exact cn (.ptr m aa) bd
 |mp m=>intro e j;simp only[ij]at j;obtain⟨rfl,bd⟩:=j;exact cn (.mp m) bd
 |eZ h1 h2=>intro e j;simp only[ij]at j;obtain⟨rfl,bd⟩:=j;exact cn (.eZ h1 h2) bd
 |ch m bn=>intro e j;simp only[ij]at j;obtain⟨rfl,bd⟩:=j;exact cn (.ch m bn) bd
 |gA m h=>intro e j;simp only[ij]at j;obtain⟨rfl,bd⟩:=j;exact cn (.gA m h) bd
 |bY f h1 h2 q u G=>intro e j;simp only[ij]at j;obtain⟨rfl,bd⟩:=j;exact cn (.bY f h1 h2 q u G) bd
 |@aG k ab sz ah len ai A cap z Q h=>
  intro e j;simp only[ij]at j;rcases j with⟨rfl,rfl⟩|⟨bd,rfl⟩
  .refine .aG z Q ?_;rcases h with h|⟨m,ac,ae⟩
   .exact .inl h
   obtain⟨I,C⟩:=J m;exact .inr ⟨I,by rw[C];exact ac,by rw[C];exact ae⟩
  exact cn (.aG z Q h) ob
 |@eA k ab sz len cap z m h=>
  intro e j;simp only[ij]at j;rcases j with⟨rfl,rfl⟩|⟨bd,rfl⟩
  .obtain⟨I,C⟩:=J m;rw[<-C];exact .eA z I (by rw[C];exact h)
  exact cn (.eA z m h) ob
 |snap f h1 h2 q u G af ag=>intro e j;simp only[ij]at j;obtain⟨rfl,bd⟩:=j;exact cn (.snap f h1 h2 q u G af ag) bd
 |fn h1 h2 q u=>intro e j;simp only[ij]at j;obtain⟨rfl,bd⟩:=j;exact cn (.fn h1 h2 q u) bd
def Ti(c:List fy)(g0 b:Nat)(R:Nat->O->aV->Prop)(st:bb):Prop:=
 hQ st c/\jb g0 (fC b st.H)/\∃(f bW sz:Nat)(xs:List (List O))(D:Nat->O),aB st.H f=some ⟨bW,sz,xs⟩/\b<=f/\g0<=bW/\c1 g0 xs/\∀n,ij g0 bW n (hp (fB st c)) (D n)/\R n (D n) (fC b st.H++[some ⟨n,sz,xs⟩])
def sC(Γ:bw)(c:List fy)(f:Nat)(R:Nat->O->aV->Prop)(st:bb):Prop:=∃b,lh Γ st b/\Ti c Γ.g0 f R b
theorem HI(b:aR):∀(l:aV)(i:Nat)(o:aR),aB (l++[some b]) i=some o->(i<l.length/\aB l i=some o)\/(i=l.length/\o=b)
 |[],0,o,h=>.inr ⟨rfl,(_b h).symm⟩
 |[],i+1,o,h=>ha
 |x::r,0,o,h=>.inl ⟨Nat.zero_lt_succ _,h⟩
 |x::r,i+1,o,h=>by
  rcases HI b r i o h with⟨h1,h2⟩|⟨h1,h2⟩
  .exact .inl ⟨_K h1,h2⟩
  exact .inr ⟨congrArg (· + 1) h1,h2⟩
theorem Lj:∀(m:Nat)(H:aV)(k:Nat)(o:aR),aB (fC m H) k=some o->k<m
 |0,H,k,o,h=>by cases H<;>simp[fC,aB]at h
 |m+1,[],k,o,h=>by
  cases k with
  |zero=>exact Hs
  |succ k=>simp only[fC,aB]at h;exact _K (Lj m [] k o h)
 |m+1,x::r,0,o,h=>Nat.zero_lt_succ _
 |m+1,x::r,k+1,o,h=>by
  simp only[fC,aB]at h;exact _K (Lj m r k o h)
theorem aeo{P:Program}{f:FuncId}{fn:Func}{c:Code}{x:dI}{aa:List fy}{ho:List O}{m:aV}{R:Nat->O->aV->Prop}(ax:P.funcs[f]?=some fn)(bO:fn.body=some c)(az:hC P fn.ntmps c x=true)(aC:o2 P fn.results.toList aa=true)(aA:ho.length<=fn.ntmps)(C:k6 P f=true)
 (aE:∀Γ:bw,(m=[]->∀g,¬Γ.W0 g)->(∀k o,aB m k=some o->o.n<Γ.g0)->(∀g,Γ.W0 g->∃k o,aB m k=some o/\Γ.K0.real o.n/\Γ.K0.aD o.n=g)->Go Γ P fn.ntmps (sC Γ aa m.length R) x [] ⟨hq ho gP eH,m,Γ.g0⟩):ml P f ho m R:=by
 refine⟨C,?_⟩;intro K w lH g0 aI C A6;refine calls_of_wp ax bO ?_;have sB:∀n,(K.cut w).bG n->n<g0:=C;have aF:ft (cz K w g0 m) fn.ntmps ⟨hq ho gP eH,m,g0⟩ (K.cut w) {tmps:=lH++_A (fn.ntmps-lH.size) undef,defers:=[]} w:=by exact LK
 have an:m=[]->∀g,¬(cz K w g0 m).W0 g:=by exact Dj
 refine wp_mono (aE (cz K w g0 m) an (fun k o h=>C _ (aI.dz k o h)) (fun g h=>h) c az _ _ _ aF) ?_
 have iG:∀(je:Act)(gO:World)(hI:bb)(cH:aO),ft (cz K w g0 m) fn.ntmps hI cH je gO->sC (cz K w g0 m) aa m.length R hI->je.defers=[]/\∃v,(results fn je.tmps).run P gO=.ok v gO/\
  ∃am,Ending.returned v=.returned am/\∀n,¬K.bG n->∃(u:aO)(d:O)(ao:aV),R n d ao/\(∀aq,u.bG aq↔K.bG aq\/aq=n)/\(∀aq,u.real aq->K.real aq\/aq=n)/\Inv (cz K w n m) u (aB ao) gO/\aJ u gO d am:=by
  intro je gO a4 aG aH aK;obtain⟨hI,aL,aw,ab,U,bW,sz,xs,D,bp,en,e8,ma,nd⟩:=aK;obtain⟨cH,ky⟩:=aL fn.ntmps aG je gO aH;obtain⟨v,aM,aQ⟩:=Fc ky aC aw;refine⟨ky.defers,v,aM,v,rfl,fun n ap=>?_⟩;have bO:=ky.inv.base;have jr:=ky.inv;have X:¬K.real n:=fun h=>ap (aI.db n h)
  let u:aO:=⟨fun aq=>K.bG aq\/aq=n,fun aq=>K.real aq\/(aq=n/\cH.real bW),fun aq=>if aq=n then cH.aD bW else K.aD aq,fun g=>(K.cut w).M g\/(cH.real bW/\g=cH.aD bW)⟩
  have vc:∀aq,K.real aq->u.aD aq=K.aD aq:=fun aq h=>by
   show(if aq=n then cH.aD bW else K.aD aq)=K.aD aq;rw[if_neg (by rintro rfl;exact X h)]
  have dm:∀aq,cH.real aq->aq<g0->u.real aq/\u.aD aq=cH.aD aq:=fun aq h1 h2=>by exact X1
  have I:cH.real bW->u.real n/\u.aD n=cH.aD bW:=fun h=>⟨.inr ⟨rfl,h⟩,if_pos rfl⟩
  have ac:cH.real bW->cH.M (cH.aD bW)/\(w.heap.size<=cH.aD bW\/(cz K w g0 m).W0 (cH.aD bW)):=fun h=>jr.own U _ bp h
  have oV:∀b,b<gO.heap.size->u.M b->cH.M b:=fun b _ h=>by
   rcases h with h|⟨h1,rfl⟩
   .exact(bO.M b h.2).2 h
   exact(ac h1).1
  have Y:∀k o,aB (fC m.length hI.H++[some ⟨n,sz,xs⟩]) k=some o->(k<m.length/\aB (fC m.length hI.H) k=some o)\/((fC m.length hI.H).length=k/\o=⟨n,sz,xs⟩):=fun k o h=>by
   rcases HI _ _ _ _ h with⟨h1,h2⟩|⟨h1,h2⟩
   .exact .inl ⟨Lj _ _ _ _ h2,h2⟩
   exact .inr ⟨h1.symm,h2⟩
  refine⟨u,D n,_,(nd n).2,fun aq=>Iff.rfl,fun aq h=>?_,?_,ajY dm I oV aQ _ (nd n).1⟩
  .exact aaA
  have ae:∀k o,aB (fC m.length hI.H) k=some o->u.real o.n->K.real o.n/\o.n≠n:=by
   intro k o q z;have ar:o.n≠n:=by
    intro e;have kZ:=uP ab k o q;rcases bO.bG _ (jr.dz k o (tE _ _ _ _ q))with h|h
    .exact ap (e▸h)
    exact JF
   rcases z with h|⟨h,_⟩
   .exact⟨h,ar⟩
   exact absurd h ar
  refine⟨jr.ext,⟨fun aq h=>?_,fun aq h aN=>?_,fun aq h=>⟨.inl h,vc aq h⟩,fun g C=>?_⟩,fun k o q=>?_,fun aR aS aT aU h1 h2 aW aX aY=>?_,fun aq h=>?_,fun aq h=>?_,fun k o q=>?_,fun k o q z=>?_,jr.ga⟩
  .rcases h with h|h
   .exact .inl h
   exact .inr (Nat.le_of_eq h.symm)
  .exact Xr
  .constructor
   .rintro(h|⟨h1,rfl⟩)
    .exact h
    exact(bO.M _ C).1 (ac h1).1
   exact fun h=>.inl h
  .rcases Y k o q with⟨_,q⟩|⟨_,rfl⟩
   .have kZ:=uP ab k o q;rcases jr.obj k o (tE _ _ _ _ q)with⟨bp,en⟩|⟨bp,eC,t,oD,Gy,en,e8,ma,nd⟩|⟨bp,en,nD,F9,e8,ma⟩
    .exact .inl ⟨fun h=>bp (bO.keep _ (ae k o q h).1).1,en⟩
    rotate_left
    .exact Wi
    exact Qo
   rcases jr.obj U _ bp with⟨J,Q⟩|⟨J,eC,t,oD,Gy,Q,af,ag,aZ⟩|⟨J,Q,nD,F9,af,ag⟩
   .refine .inl ⟨fun h=>?_,Q⟩;rcases h with h|⟨_,h⟩
    .exact X h
    exact J h
   rotate_left
   .have:=I J;exact .inr (.inr ⟨this.1,Q,nD,F9,by rw[this.2];exact af,ag⟩)
   have:=I J;refine .inr (.inl ⟨this.1,eC,t,oD,Gy,by rw[this.2];exact Q,af,ag,fun i x j d aP bf=>?_⟩);obtain⟨EJ,h1,h2⟩:=aZ i x j d aP bf;exact⟨EJ,h1,zk dm oV h2 (sN (F_.1 ma x (_j aP)) bf)⟩
  .have au:∀k o,aB (fC m.length hI.H++[some ⟨n,sz,xs⟩]) k=some o->u.real o.n->∃Z ak,aB hI.H Z=some ak/\cH.real ak.n/\cH.aD ak.n=u.aD o.n/\(Z<m.length/\k=Z\/Z=U/\(fC m.length hI.H).length=k):=by
    intro k o q z;rcases Y k o q with⟨G,q⟩|⟨G,rfl⟩
    .have hl:=ae k o q z;have av:=bO.keep _ hl.1;exact⟨k,o,tE _ _ _ _ q,av.1,av.2.trans (vc _ hl.1).symm,.inl ⟨G,rfl⟩⟩
    rcases z with h|⟨_,h⟩
    .exact absurd h X
    exact⟨U,_,bp,h,(I h).2.symm,.inr ⟨rfl,G⟩⟩
   obtain⟨a0,ah,a1,d1,f1,a5⟩:=au aR aT h1 aW;obtain⟨a2,ai,a3,d2,f2,a6⟩:=au aS aU h2 aX;have a7:=jr.inj a0 a2 ah ai a1 a3 d1 d2 (f1.trans (aY.trans f2.symm));omega
  .rcases h with h|⟨h,_⟩
   .exact .inl (aI.db aq h)
   exact .inr h
  .rcases h with h|⟨rfl,h⟩
   .exact PC
   rw[(I h).2];exact jr.lt _ h
  .rcases Y k o q with⟨_,q⟩|⟨_,rfl⟩
   .have kZ:=uP ab k o q;rcases bO.bG _ (jr.dz k o (tE _ _ _ _ q))with h|h
    .exact .inl h
    exact JF
   exact .inr rfl
  rcases Y k o q with⟨_,q⟩|⟨_,rfl⟩
  .have hl:=ae k o q z;have G:=bO.keep _ hl.1;rw[vc _ hl.1];have aN:K.aD o.n<w.heap.size:=aI.lt _ hl.1;have al:=jr.own k o (tE _ _ _ _ q) G.1;have e:cH.aD o.n=K.aD o.n:=G.2;rw[e]at al;exact⟨.inl ((bO.M _ aN).1 al.1),al.2⟩
  rcases z with h|⟨_,h⟩
  .exact absurd h X
  have e:u.aD n=cH.aD bW:=if_pos rfl;show u.M (u.aD n)/\_;rw[e];exact⟨.inr ⟨h,rfl⟩,(ac h).2⟩
 exact LH
def iV(fn:Func):Code:=fn.body.getD .skip
def oA(P:Program)(f:FuncId)(fn:Func)(x:dI)(b:List fy):Bool:=hC P fn.ntmps (iV fn) x&&(o2 P fn.results.toList b&&(k6 P f&&fn.body.isSome))
theorem lP{P:Program}{f:FuncId}{fn:Func}{x:dI}{b:List fy}(h:oA P f fn x b=true):hC P fn.ntmps (iV fn) x=true/\o2 P fn.results.toList b=true/\k6 P f=true/\fn.body=some (iV fn):=by
 simp only[oA,_a]at h;refine⟨h.1,h.2.1,h.2.2.1,?_⟩;unfold iV;revert h;cases fn.body with
 |none=>intro h;exact absurd h.2.2.2 aF
 |some c=>intro _;rfl
theorem Ph{P:Program}{f:FuncId}{fn:Func}{x:dI}{m:List fy}{j:List O}{b:aV}{R:O->aV->Prop}(q:P.funcs[f]?=some fn)(c:oA P f fn x m=true)
 (u:∀Γ:bw,(b=[]->∀g,¬Γ.W0 g)->(∀k o,aB b k=some o->o.n<Γ.g0)->(∀g,Γ.W0 g->∃k o,aB b k=some o/\Γ.K0.real o.n/\Γ.K0.aD o.n=g)->Go Γ P fn.ntmps (nq Γ m b.length R) x [] ⟨hq j gP eH,b,Γ.g0⟩) (aA:Nat.ble j.length fn.ntmps=true:=by rfl):b1 P f j b R:=
 ahz q (lP c).2.2.2 (lP c).1 (lP c).2.1 (Nat.le_of_ble_eq_true aA) (lP c).2.2.1 u
theorem afD{P:Program}{f:FuncId}{fn:Func}{x:dI}{m:List fy}{j:List O}{b:aV}{R:Nat->O->aV->Prop}(q:P.funcs[f]?=some fn)(c:oA P f fn x m=true)
 (u:∀Γ:bw,(b=[]->∀g,¬Γ.W0 g)->(∀k o,aB b k=some o->o.n<Γ.g0)->(∀g,Γ.W0 g->∃k o,aB b k=some o/\Γ.K0.real o.n/\Γ.K0.aD o.n=g)->Go Γ P fn.ntmps (sC Γ m b.length R) x [] ⟨hq j gP eH,b,Γ.g0⟩) (aA:Nat.ble j.length fn.ntmps=true:=by rfl):ml P f j b R:=
 aeo q (lP c).2.2.2 (lP c).1 (lP c).2.1 (Nat.le_of_ble_eq_true aA) (lP c).2.2.1 u
theorem afs{Γ:bw}{b:List fy}{c:Nat}{R:Nat->O->aV->Prop}{st:bb}(h:Ti b Γ.g0 c R st):sC Γ b c R st:=⟨st,fun N K a w h=>⟨K,h⟩,h⟩
theorem Wz{Γ:bw}{b:List fy}{c:Nat}{R:Nat->O->aV->Prop}{st f:bb}(h1:lh Γ st f)(h2:sC Γ b c R f):sC Γ b c R st:=by exact QS
theorem Om{Γ:bw}{b:List fy}{D:O}{st:bb}(h1:hQ st b)(h2:dn Γ.g0 (hp (fB st b)))(c:hp (fB st b)=D):nq Γ b 0 (fun d H=>d=D/\H=[]) st:=NF ⟨h1,h2,trivial,c,rfl⟩
theorem eG{k:IntKind}{a b:Int}(h:a=b):O.v (.int k a)=O.v (.int k b):=by rw[h]
theorem fA{a b:Bool}(h:a=b):O.v (.bool a)=O.v (.bool b):=by rw[h]
def wh:List bK->List bK->List bK
 |[],l=>l
 |x::r,l=>x::wh r l
def u0:List cP->List bK
 |[]=>[]
 |⟨some s,_,_⟩::r=>s::u0 r
 |⟨none,_,_⟩::r=>u0 r
def j6:dI->List bK
 |.skip=>[]
 |.ret=>[]
 |.region xs=>u0 xs
 |.uf _ xs=>u0 xs
 |.seq a b=>wh (j6 a) (j6 b)
 |.cond _ a b=>wh (j6 a) (j6 b)
 |.block _ a=>j6 a
 |.loop a=>j6 a
 |.exit _=>[]
def nc:bQ->List bK->bQ
 |e,[]=>e
 |e,s::r=>nc (e.set s .any) r
def nL:bQ->List (bK×O)->bQ
 |e,[]=>e
 |e,(s,d)::r=>nL (e.set s d) r
theorem bS{Γ:bw}{P:Program}{N:Nat}{R:bb->Prop}{k:List jR}{st:bb}{α:Type}{x:dI}(aG:α->List (bK×O))(f:α->List (Nat×Option aR))(g:α->Nat)(m:α->Nat)(j:α->Prop)(b:α)(q:j b)
 (u:fP st ⟨nL (nc st.tm (j6 x)) (aG b),d_ st.H (f b),g b⟩)
 (v:∀a,j a->Go Γ P N R x (.loop (fun s=>∃c,j c/\m c<m a/\fP s ⟨nL (nc st.tm (j6 x)) (aG c),d_ st.H (f c),g c⟩)::k) ⟨nL (nc st.tm (j6 x)) (aG a),d_ st.H (f a),g a⟩):Go Γ P N R (.loop x) k st:=
 aiR (fun a=>⟨nL (nc st.tm (j6 x)) (aG a),d_ st.H (f a),g a⟩) m j b q u v
theorem fG{Γ:bw}{st:bb}(an:∀g,¬Γ.W0 g)(s:bK){k n sz jB len:Nat}{z:Bool}{o:aR}(aj:st.tm.get s=.aG k n sz jB len z)(bX:aB st.H k=some o)(hid:o.n=n/\o.sz=sz/\jB+len<=o.xs.length):
 lh Γ st ⟨st.tm.set s (.snap sz (cp (cC o.xs jB) len) z),cl st.H k none,st.gen⟩:=by
 intro N K a w b;obtain⟨fc,ic,C⟩:=hid;have aI:=b.inv;have f:=b.tm s;rw[aj]at f;rw[hh,kH];have m:Inv Γ K (aB (cl st.H k none)) w:=wP aI (fun j p a6=>by
  exact G_)
 have fa:((o.xs.drop jB).take len).length=len:=c7;by_cases I:rb K w o
 .refine⟨K,m,b.fresh,b.g0,b.size,b.defers,fun q=>?_⟩;show aJ K w ((st.tm.set s _).get q) _;rw[bQ.iP];by_cases e:q=s
  .subst e;rw[if_pos rfl];generalize a.tmps.getD q.nat undef=v at f;cases f with
   |@aG _ _ _ _ _ _ A cap r_ bV h=>
    rcases h with h|⟨_,_,_,_,_,J,_⟩
    .have CN:len=0:=by omega
     exact V9
    exact I.out (by rw[fc];exact J)
  rw[if_neg e];exact b.tm q
 rcases(aI.obj k o bX).two I with⟨bp,Q⟩|⟨bp,eC,u6,oD,X,e8,Y,nd,oQ⟩
 .refine⟨K,m,b.fresh,b.g0,b.size,b.defers,fun q=>?_⟩;show aJ K w ((st.tm.set s _).get q) _;rw[bQ.iP];by_cases e:q=s
  .subst e;rw[if_pos rfl];generalize a.tmps.getD q.nat undef=v at f;have CN:len=0:=by rw[Q]at C;simp at C;omega
   cases f with
   |@aG _ _ _ _ _ _ A cap r_ bV h=>exact V9
  rw[if_neg e];exact b.tm q
 let u:aO:=⟨K.bG,K.real,K.aD,fun g=>K.M g/\g≠K.aD o.n⟩
 have bg:dH K w u w:=⟨cN.refl _ _,fun Z h=>⟨h,rfl⟩,fun g _ h=>h.1⟩;have aa:Γ.w0.heap.size<=K.aD o.n:=((aI.own k o bX bp).2).resolve_right (an _);have bq:∀j p,aB (cl st.H k none) j=some p->j≠k/\aB st.H j=some p:=by exact Ji
 refine⟨u,⟨m.ext,⟨aI.base.bG,aI.base.cn,aI.base.keep,fun g U=>?_⟩,fun j p a6=>(m.obj j p a6).mono bg id (fun _=>rfl),m.inj,aI.db,aI.lt,m.dz,fun j p a6 aT=>?_,aI.ga⟩,b.fresh,b.g0,b.size,b.defers,fun q=>?_⟩
 .rw[<-aI.base.M g U];exact⟨fun h=>h.1,fun h=>⟨h,G⟩⟩
 .exact aaL
 show aJ u w ((st.tm.set s _).get q) _;rw[bQ.iP];by_cases e:q=s
 .subst e;rw[if_pos rfl];generalize a.tmps.getD q.nat undef=v at f;cases f with
  |@aG _ _ _ _ _ _ A cap r_ bV h=>
   have Ko:∀(i:Nat)(x:List O),((o.xs.drop jB).take len)[i]?=some x->i<len/\o.xs[jB+i]?=some x:=by exact NN
   have JP:∀(i:Nat)(x:List O)(j:Nat)(d:O),((o.xs.drop jB).take len)[i]?=some x->x[j]?=some d->∃c,eC[(jB+i)*sz+j]?=some c/\aJ u w d c:=by exact QY
   refine .snap (fun i j=>(eC[(jB+i)*sz+j]?).getD undef) fa r_ bV (fun x aP=>?_) (fun ab=>?_) (fun ad i x j d b5 aP bf=>?_) (fun i x j d aP bf=>?_)
   .exact Wm
   .rcases h with h|⟨dm,b5,ue⟩
    .omega
    refine⟨_,b5,rfl,?_,?_⟩
    .show K.aD n<_;rw[<-fc];exact aI.lt _ bp
    rintro⟨_,h2⟩;exact h2 (by rw[fc])
   .exact aae
   exact QE
 rw[if_neg e];exact(b.tm q).mono bg
theorem h7{α:Type}(f:α->List O):∀(l:List α)(i:Nat)(x:α),l[i]?=some x->cf (l.map f) i=f x
 |[],i,x,h=>fE
 |y::r,0,x,h=>by simp at h;subst h;rfl
 |y::r,i+1,x,h=>by simpa[cf]using h7 f r i x hc
theorem e1{l:List (List O)}{n:Nat}(h:n=l.length):cp (cC l 0) n=l:=by rw[hh,h];cases l<;>simp[cC]
theorem eS{α:Type}{f:α->List O}{g:Nat}:∀ {l:List α},(∀x,eV g (f x))->c1 g (l.map f)
 |[],h=>trivial
 |x::r,h=>⟨h x,eS (l:=r) h⟩
theorem IT:(!false)=true:=rfl
theorem Lx:(!true)=false:=rfl
theorem JI(k c:IntKind)(a b:Int):qZ 0 (.v (.int k a)) (.v (.int c b))=(match jk k c with|true=>some (decide (a=b))|false=>none):=rfl
theorem K1(a b:Bool):qZ 1 (.v (.bool a)) (.v (.bool b))=some (a==b):=rfl
theorem M3(a b:ByteArray):qZ 2 (.v (.string a)) (.v (.string b))=some (decide (a=b)):=rfl
theorem I2:qZ 3 (.v (.pointer none)) (.v (.pointer none))=some true:=rfl
theorem Mj(x:List O):qZ 3 (.bY x) (.v (.pointer none))=some false:=rfl
theorem MQ(k n sz i j:Nat):qZ 3 (.ptr k n sz i j) (.v (.pointer none))=some false:=rfl
section
variable {Γ:bw} {P:Program} {N:Nat} {R:bb->Prop} {k:List jR} {st:bb}
theorem dv{x:dI}{b:bb}(f:lh Γ st b)(h:Go Γ P N R x k b):Go Γ P N R x k st:=by
 intro c g K a w j;obtain⟨m,q⟩:=f N K a w j;exact h c g m a w q
end
theorem hn{Γ:bw}{st:bb}(an:∀g,¬Γ.W0 g)(s:bK){k n sz i j:Nat}{o:aR}(aj:st.tm.get s=.ptr k n sz i j)(bX:aB st.H k=some o)(hid:o.n=n/\o.sz=sz/\i<o.xs.length):
 lh Γ st ⟨st.tm.set s (.bY (fT (cf o.xs i) j)),cl st.H k none,st.gen⟩:=by
 intro N K a w e2;obtain⟨fc,ic,yA⟩:=hid;have aI:=e2.inv;have eX:=e2.tm s;rw[aj]at eX;have Ad:Inv Γ K (aB (cl st.H k none)) w:=wP aI (fun j p a6=>by
  exact G_)
 have b:¬rb K w o:=fun bg=>by exact VL
 rcases(aI.obj k o bX).two b with⟨bp,f⟩|⟨bp,eC,u6,oD,m,e8,u,x,oQ⟩
 .rw[f]at yA;simp at yA
 let cH:aO:=⟨K.bG,K.real,K.aD,fun g=>K.M g/\g≠K.aD o.n⟩
 have bg:dH K w cH w:=⟨cN.refl _ _,fun z h=>⟨h,rfl⟩,fun g _ h=>h.1⟩;have C:Γ.w0.heap.size<=K.aD o.n:=((aI.own k o bX bp).2).resolve_right (an _);exact Pl
end Go.Proofs.YtdiobdlinjgakaaGreatDoor
