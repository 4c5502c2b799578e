import Derived.Test.YtdiobdlinjgakaaGreatDoorDh42
import Derived.Test.YtdiobdlinjgakaaGreatDoorRows
import Derived.JoinedCond
import Derived.Test.YtdiobdlinjgakaaGreatDoorTie
import Derived.Test.YtdiobdlinjgakaaGreatDoorCards
import Derived.SevenTiedAt
import Derived.LaidHandle
import Derived.LaidMore
import Derived.Lay
import Derived.MakeChecks
import Derived.Deep.DeepHandedRow
import Derived.Shelf.Vars
set_option linter.unusedVariables false
set_option linter.unusedSimpArgs false
set_option maxHeartbeats 8000000
set_option maxRecDepth 100000
open Go.Proofs.Tryz
open Option.some renaming inj->_a
open List renaming mem_of_getElem?->_b,mem_append->_c,getElem?_map->_e,range->_f,mem_range->_g,mem_flatMap->_k,length_cons->_l,getElem?_eq_getElem->_n,mem_map->_p,all_eq_true->_u,mem_filter->_v,foldl_cons->_w,mem_cons->_x,map_cons->_y
open Prod.mk renaming injEq->_d
open Go.Proofs.Tryz renaming f3->_h,checked->_q,underlying52->_t
open Go.DataW renaming TrodAll->_i,trod->_j,trod_string->_s
open Bool renaming and_eq_true->_m
open Go.Input renaming okWide_of_okWideB->_o,okWide->_z
open Nat renaming zero_le->_r,le_trans->_A
namespace Go.Proofs.YtdiobdlinjgakaaGreatDoor.R
attribute [local irreducible] bc Go
def zT(x:bj×ak):List ak->bj×ak
 |[]=>x
 |c::r=>((de x.1 c r).1,x.2++(kv (de x.1 c r).2++[10]))
theorem N_:∀(L:List ak)(x:bj×ak),L.foldl pe x=(gi L).foldl zT x
 |[],x=>rfl
 |a::L,x=>by
  have e:gi (a::L)=(if tN (dj a)=true then[dj a]else[])++gi L:=by
   unfold gi;rw[_y,List.filter_cons];split<;>simp_all
  rw[_w,N_ L,e,List.foldl_append];congr 1
  unfold pe;cases dj a with
  |nil=>rfl
  |cons c r=>
   by_cases h:c.head?=some 35
   .simp[tN,h]
   simp[tN,h,zT]
def aiy(b:List ak):Prop:=∃c r,b=c::r/\r.length<=1048576/\hH r/\(cm r).length<=1048576
theorem aen(s:ak):∀l∈iK s,l.length<=s.length:=fun l hl=>by
 unfold iK at hl;split at hl
 .exact nP 10 s l (List.mem_of_mem_take (List.dropLast_eq_take▸hl))
 exact nP 10 s l hl
theorem abE(s:ak)(aj:s.length<=65536):∀f∈gi (iK s),aiy f:=fun f b=>by
 unfold gi at b;obtain⟨h1,h2⟩:=_v.1 b;obtain⟨l,hl,rfl⟩:=_p.1 h1;have u:=aen s l hl;have g:=ZD l;have j:∀w∈dj l,w.length<=l.length:=fun w b=>by
  unfold dj at b;exact nP 32 l w (_v.1 b).1
 have m:(dj l).length<=l.length+1:=by
  unfold dj;exact _A (List.length_filter_le _ _) (rK 32 l)
 cases q:dj l with
 |nil=>rw[q]at h2;cases h2
 |cons c r=>
  rw[q]at g j m;have v:=mg r;simp only[_y,List.sum_cons,_l]at g m;refine⟨c,r,rfl,G,fun w b=>?_,G⟩;have:=j w (List.mem_cons_of_mem _ b);omega
theorem aeA:Spec prog 12 [.agg [.v (.int .u32 3325256705),.v (.int .i64 1024),.v (.int .i64 2048),.v (.int .i64 300),.v (.int .i64 1000),.v (.int .i64 100000),.v (.slice none 0 0),.v (.bool true)]] (.aS [fZ (iH pg),.v (.int .i64 0)]):=by
 have h:=XU pg HC (Al z6);exact SM
theorem agB(s:ak)(Z:s.length<=1048576):Spec prog 5 [.v (.string (I s))] (.v (.string (I (AI s)))):=by
 have O:=ajw s Z;have ac:=aeA;have aj:fJ (iH pg):=fJ.new HC z6;have C:=abE s;unfold AI;rw[N_];have aA:(gi (iK s)).length<=(iK s).length:=by exact Pu
 generalize gi (iK s)=f at *;generalize (iK s).length=n at *;generalize iH pg=Q at *;have U:(ByteArray.mk #[]:ByteArray)=I []:=rfl;have am:(ByteArray.mk #[10]:ByteArray)=I [10]:=rfl;by_cases X:65536<s.length\/300<n
 .rw[if_pos X];refine az {} 0 func5 fun Γ an=>ar ?_
  repeat' first|refine af ?_|simp only[aU]|refine J O ?_|refine ag ?_|refine ab ?_ ?_<;>intro h<;>try exact aa|exact al|fail
  all_goals exact Kb
 rw[if_neg X];have ah:decide ((65536:Int)<(s.length:Nat))=false:=decide_eq_false G;have ai:decide ((300:Int)<(n:Nat))=false:=decide_eq_false G;have C:=C G;have m:=Ju f;refine az {} 0 func5 fun Γ an=>ar ?_
 repeat' first|refine af ?_|simp only[aU,ah,ai,U,m]|refine J O ?_|refine J ac ?_|refine ag ?_|refine ab ?_ ?_<;>intro h<;>try exact aa|exact al|fail
 refine bS (α:=Nat×bj×ak) (fun x=>[(⟨.d0,.d3,.d6⟩,.v (.int .i64 (x.1:Nat))),(⟨.d0,.d0,.d7⟩,.v (.string (I x.2.2)))]) (fun x=>[(0,some (dR Γ.g0 x.2.1))]) (fun _=>Γ.g0+1) (fun x=>f.length-x.1) (fun x=>x.1<=f.length/\fJ x.2.1/\x.2.2.length<=x.1*100010/\f.foldl zT (Q,[])=(f.drop x.1).foldl zT (x.2.1,x.2.2)) (0,Q,[]) ⟨_r _,aj,_r _,rfl⟩ ?_ ?_
 .exact bs
 rintro⟨i,g,out⟩ ⟨ao,u,ap,Y⟩;dsimp only at ao u ap Y⊢;rw[Y];refine bz ?_;by_cases j:i<f.length
 .obtain⟨z,M⟩:∃z,f[i]?=some z:=⟨_,_n j⟩;have aq:cf (qR f) i=[.snap 1 (b9 z) false]:=by rw[lZ,_e,M];rfl
  obtain⟨c,r,rfl,h1,h2,au⟩:=C z (_b M);rw[List.drop_eq_getElem_cons j,show f[i]=c::r from _a ((_n j).symm.trans M),_w];have hl:=alE g u c r false h1 h2 au;have o4:=Zy g u c r;have av:=U8 u c r;have aC:(kv (de g c r).2).length<=100000:=by
   generalize (de g c r).2=A at o4;exact Rv
  unfold iN at hl;have aw:zT (g,out) (c::r)=((de g c r).1,out++(kv (de g c r).2++[10])):=rfl;rw[aw];generalize (de g c r).1=v at *;generalize kv (de g c r).2=A at *;have aD:(i+1)*100010<=300*100010:=Nat.mul_le_mul_right _ G;have ax:(out++(A++[10])).length<=(i+1)*100010:=by exact WJ
  repeat' first|refine af ?_|simp only[aU,m,am,dt,U]|refine J hl ?_|refine ag ?_|refine ab ?_ ?_<;>intro h<;>try exact aa|simp only[Int.toNat_natCast,aq,m]|refine aK (by simp only[aU,List.length_append,_l,List.length_nil]at *;omega) ?_|exact al|fail
  refine br ⟨(i+1,v,out++(A++[10])),⟨j,av,ax,rfl⟩,Nat.sub_lt_sub_left j (Nat.lt_succ_self i),?_⟩;exact jJ
 obtain rfl:i=f.length:=G;rw[List.drop_length];repeat' first|refine af ?_|simp only[m]|refine ag ?_|refine ab ?_ ?_<;>intro h<;>try exact aa|exact al|fail
 all_goals exact b0
theorem alw(s:ak)(aj:s.length<=1048576):Spec prog 3 [.v (.string (I s))] (.v (.bool true)):=by
 have h1:=aii s aj;have h2:=agB s aj;generalize AI s=D at *;refine az {} 0 func3 fun Γ an=>ar ?_
 repeat' first|refine af ?_|simp only[eq_self,decide_true]|refine J h1 ?_|refine J h2 ?_|refine ag ?_|refine ab ?_ ?_<;>intro h<;>try exact aa|exact al|fail
 all_goals(refine cI ?_;first|exact cc|try simp only[cE]at *)
 all_goals first|rfl|exact fA aF
end Go.Proofs.YtdiobdlinjgakaaGreatDoor.R
namespace Go.Proofs.YtdiobdlinjgakaaGreatDoor
open Go.ChangeShapes Go.WideShapes Go.ChangeAt Go.RowKit
def cu.wide:cu->cu
 |.cons s r=>.cons s.wide r.wide
 |.slice _ n e=>.slice 100000000 n e.wide
 |s=>s
theorem KA:∀s:cu,s.wide.size=s.size
 |.int _=>rfl
 |.bool=>rfl
 |.str=>rfl
 |.nil=>rfl
 |.cons s r=>by simp[cu.wide,cu.size,KA s,KA r]
 |.slice _ _ _=>rfl
theorem ajC(s:cu)(b:List Value):s.wide.val b=s.val b:=by cases s<;>rfl
theorem akE{H:Type}(d:DataW H):1<=Rows.uptoBulk d:=by
 cases d with
 |lit l=>cases l<;>simp[Rows.uptoBulk]
 |nil=>simp[Rows.uptoBulk]
 |ptr d=>simp[Rows.uptoBulk]
 |slice b c=>simp[Rows.uptoBulk]
 |agg parts=>simp[Rows.uptoBulk]
 |iface t d=>simp[Rows.uptoBulk]
 |map f=>simp[Rows.uptoBulk]
 |held h=>simp[Rows.uptoBulk]
theorem I5{H:Type}:∀ {l:List (DataW H)} {d:DataW H},d∈l->Rows.uptoBulk d<=Rows.uptoBulkAll l
 |[],_,h=>ha
 |x::r,d,h=>by
  simp only[Rows.uptoBulkAll];rcases _x.1 h with e|e
  .subst e;omega
  have:=I5 e;omega
theorem IP{H:Type}:∀l:List (DataW H),l.length<=Rows.uptoBulkAll l
 |[]=>aF
 |x::r=>by
  have:=akE x;have:=IP r;simp only[Rows.uptoBulkAll,_l];omega
section
variable {H:Type} {enc:TypeId×Value->H} {P:Program} {w:World} {B:Nat}
theorem aiP{base:Nat}{J:Nat->Bool}{O:Bool}{t:TypeId}{m:List (Nat×TypeId)}(c:Fe P t=some m){U:Nat}{q:List Value}{d:DataW H}{ps:List MemPlace}
 (h:_j enc P w base J O U t q=some (d,ps)) {M:Nat} (aha:Rows.uptoBulk d<=M) (Q:∀p∈ps,p.block<B) :
 ∃(xs:List (DataW H×List MemPlace))(n:Nat),q.length=P.cellsOf t/\xs.length=m.length/\
  (∀(i:Nat)(g:Nat×TypeId),m[i]?=some g->_j enc P w base J O n g.2 ((q.drop g.1).take (P.cellsOf g.2))=xs[i]?)/\
  (∀x∈xs,Rows.uptoBulk x.1<=M)/\∀x∈xs,∀p∈x.2,p.block<B:=by
 unfold Fe at c;split at c
 .rename_i j u;injection c with c;subst c;obtain⟨xs,n,_,aP,hl,v,z⟩:=DataW.trod_struct u h;simp only[_d]at aP;obtain⟨rfl,rfl⟩:=aP;refine⟨xs,n,hl,by simpa using v,fun i g b=>?_,fun x aP=>?_,fun x aP p C=>Q p (_k.2 ⟨x,aP,C⟩)⟩
  .rw[_e]at b;cases G:j[i]? with
   |none=>rw[show j.toList[i]?=j[i]? from aF,G]at b;simp at b
   |some f=>rw[show j.toList[i]?=j[i]? from aF,G]at b;simp at b;subst b;exact z i f G
  exact aac
 .rename_i k e u;injection c with c;subst c;obtain⟨xs,n,_,aP,hl,v,z⟩:=DataW.trod_array u h;simp only[_d]at aP;obtain⟨rfl,rfl⟩:=aP;refine⟨xs,n,hl,by simpa using v,fun i g b=>?_,fun x aP=>?_,fun x aP p C=>Q p (_k.2 ⟨x,aP,C⟩)⟩
  .by_cases I:i<k
   .simp[_e,List.getElem?_range I]at b;subst b;exact z i I
   simp[_e,List.getElem?_eq_none (show(_f k).length<=i by simpa using I)]at b
  exact aac
 cases c
theorem akN(z:cu):(∀ {t:TypeId} {f:Nat} {c:List Value} {d:DataW H} {ps:List MemPlace},z.fit P none t=true->_j enc P w 0 (fun _=>true) true f t c=some (d,ps)->
 Rows.uptoBulk d<=1048576->(∀p∈ps,p.block<B)->qN w B z.wide c/\c.length=z.size)/\
 (∀ {o:Nat} {g:List (Nat×TypeId)} {t:TypeId} {f:Nat} {c:List Value} {xs:List (DataW H×List MemPlace)},z.fit P (some (o,g)) t=true->xs.length=g.length->
   (∀(i:Nat)(m:Nat×TypeId),g[i]?=some m->_j enc P w 0 (fun _=>true) true f m.2 ((c.drop m.1).take (P.cellsOf m.2))=xs[i]?)->
   (∀x∈xs,Rows.uptoBulk x.1<=1048576)->(∀x∈xs,∀p∈x.2,p.block<B)->c.length=o+z.size->qN w B z.wide (c.drop o)):=by
 induction z with
 |int k=>
  refine⟨fun{t f c d ps} bV h cy C=>?_,fun{o g t f c xs} bV=>Ci⟩;simp only[cu.fit]at bV;split at bV
  .rename_i aC I;obtain rfl:=of_decide_eq_true bV;obtain⟨n,rfl,_,aa⟩:=DataW.trod_int I h;exact⟨⟨n,rfl,aa⟩,rfl⟩
  cases bV
 |bool=>
  refine⟨fun{t f c d ps} bV h cy C=>?_,fun{o g t f c xs} bV=>Ci⟩;simp only[cu.fit]at bV;split at bV
  .rename_i I;obtain⟨b,rfl,_⟩:=DataW.trod_bool I h;exact⟨⟨b,rfl⟩,rfl⟩
  cases bV
 |str=>
  refine⟨fun{t f c d ps} bV h cy C=>?_,fun{o g t f c xs} bV=>Ci⟩;simp only[cu.fit]at bV;split at bV
  .rename_i I;obtain⟨s,rfl,aP,aa⟩:=_s I h;simp only[_d]at aP;obtain⟨rfl,rfl⟩:=aP;refine⟨⟨s,rfl,?_⟩,rfl⟩;exact OH
  cases bV
 |nil=>
  refine⟨fun{t f c d ps} bV=>Ci,fun{o g t f c xs} bV q h1 h2 J hl=>?_⟩;show c.drop o=[];exact List.drop_eq_nil_of_le (by rw[hl];simp[cu.size])
 |cons s r ai ak=>
  have ab:∀ {o u:Nat} {v:TypeId} {g:List (Nat×TypeId)} {t:TypeId} {f:Nat} {c:List Value} {xs:List (DataW H×List MemPlace)},u=o->P.cellsOf v=s.size->s.fit P none v=true->r.fit P (some (o+s.size,g)) t=true->
   xs.length=((u,v)::g).length->(∀(i:Nat)(m:Nat×TypeId),((u,v)::g)[i]?=some m->_j enc P w 0 (fun _=>true) true f m.2 ((c.drop m.1).take (P.cellsOf m.2))=xs[i]?)->
   (∀x∈xs,Rows.uptoBulk x.1<=1048576)->(∀x∈xs,∀p∈x.2,p.block<B)->c.length=o+(s.size+r.size)->qN w B (.cons s.wide r.wide) (c.drop o):=by
   intro o u v g t f c xs al X aj am q h1 h2 J hl;subst al;match xs,q with
   |ac::aD,q=>
    have ae:=h1 0 (u,v) rfl;simp only[X]at ae;have an:=h2 ac aF;obtain⟨ao,ap⟩:=ai.1 aj ae an (fun p Y=>J ac aF p Y);refine⟨(c.drop u).take s.size,c.drop (u+s.size),?_,by rw[KA];exact ap,ao,?_⟩
    .rw[<-List.drop_drop];exact(List.take_append_drop _ _).symm
    exact ak.2 am (by simpa using q) (fun i m Z=>h1 (i+1) m (by simpa using Z)) (fun x aP=>h2 x oT) (fun x aP=>J x oT) G
  refine⟨fun{t f c d ps} bV h cy C=>?_,fun{o g t f c xs} bV q h1 h2 J hl=>?_⟩
  .simp only[cu.fit]at bV;split at bV
   .rename_i o v g bg;simp only[_m,decide_eq_true_eq]at bV;obtain⟨⟨⟨⟨M,U⟩,O⟩,Q⟩,af⟩:=bV;obtain⟨xs,n,hl,q,h1,h2,J⟩:=aiP bg h cy C;have aq:=ab M U O (by simpa using Q) q h1 h2 J (by rw[hl,af];omega);exact⟨by show qN w B (.cons s.wide r.wide) c;simpa using aq,by rw[hl,af];rfl⟩
   cases bV
  match g,bV,q,h1,h2 with
  |[],bV,_,_,_=>simp[cu.fit]at bV
  |(u,v)::g,bV,q,h1,h2=>
   simp only[cu.fit,_m,decide_eq_true_eq]at bV;obtain⟨⟨⟨M,U⟩,O⟩,Q⟩:=bV;exact ab M U O Q q h1 h2 J hl
 |slice b n e ar=>
  refine⟨fun{t f c d ps} bV h cy C=>?_,fun{o g t f c xs} bV=>Ci⟩;simp only[cu.fit]at bV;split at bV
  .rename_i aE I;simp only[_m,decide_eq_true_eq]at bV;obtain⟨⟨⟨M,U⟩,O⟩,Q⟩:=bV;rcases Go.Deep.open_slice I h with⟨rfl,_⟩|⟨a,len,cap,m,k,D,b6,rfl,_,au,av,bg,aP,Z⟩
   .exact⟨⟨none,0,0,rfl,Nat.le_refl _,by rw[Nat.zero_mul];exact pf,_r _,fun _=>rfl,fun ad h=>ha⟩,rfl⟩
   have aw:m=cap:=Gl;subst aw;simp only[_d]at aP;obtain⟨rfl,rfl⟩:=aP;simp only[Rows.uptoBulk]at cy;have bl:=IP ((_f len).map D);have eO:=IP ((_f (m-len)).map fun j=>D (len+j));simp only[List.length_map,List.length_range]at bl eO;refine⟨⟨some a,len,m,rfl,au,G,av,(fun h=>ha),fun ad ax=>?_⟩,rfl⟩;obtain rfl:=_a ax;refine⟨fun aG=>?_,fun i ay=>?_⟩
   .exact C (.cell a.block (a.off+0)) (_c.2 (.inl (_p.2 ⟨0,_g.2 (by rw[M];exact Nat.mul_pos G O),rfl⟩)))
   obtain⟨az,X,aA⟩:=Z i G;obtain⟨_,ag,ah⟩:=World.cells?_some X;rw[M]at ag ah;refine⟨az,ag,fun j aB=>?_,?_⟩
   .rw[<-Go.Deep.add_add];exact ah j aB
   have:=I5 (_p.2 ⟨i,_g.2 ay,rfl⟩:D i∈(_f len).map D);exact(ar.1 Q aA G (fun p Y=>C p (_c.2 (.inr (_k.2 ⟨i,_g.2 G,Y⟩))))).1
  cases bV
end
theorem OV{H:Type}{enc:TypeId×Value->H}{P:Program}{w:World}{B:Nat}:∀ {shs:List cu} {c:List TypeId} {f:List Value} {u:List (DataW H)} {ps:List MemPlace} {r:Reach} {b:Nat},
 shs.length=c.length->(∀(i:Nat)(s:cu)(t:TypeId),shs[i]?=some s->c[i]?=some t->s.fit P none t=true)->(∀(j:Nat) t v,c[j]?=some t->f[j]?=some v->Value.okWide P w r b t v)->_i enc P w 0 (fun _=>true) true c f u ps->
  Rows.uptoBulkAll u<=1048576->(∀p∈ps,p.block<B)->vv w B (shs.map cu.wide) f
 |[],[],_,_,_,_,_,_,_,_,h,_,_=>by
  obtain⟨rfl,_,_⟩:=trodAll_nil h;rfl
 |[],_::_,_,_,_,_,_,hl,_,_,_,_,_=>qC
 |_::_,[],_,_,_,_,_,hl,_,_,_,_,_=>qC
 |s::Y,t::c,_,_,_,_,_,hl,g,x,h,C,z=>by
  obtain⟨v,I,d,Z,a,b,rfl,rfl,rfl,h1,h2⟩:=trodAll_cons h;obtain⟨aa,h1⟩:=h1;simp only[Rows.uptoBulkAll]at C;have J:=afz s (g 0 s t rfl rfl) (x 0 t v rfl rfl);refine⟨v.cells.toList,I,by rw[ajC,<-J],((akN s).1 (g 0 s t rfl rfl) h1 G (fun p m=>z p (_c.2 (.inl m)))).1,?_⟩;exact OV yn (fun i M q O Q=>g (i+1) M q (by simpa using O) (by simpa using Q)) (fun j q U cB X=>x (j+1) q U zF (by simpa using X)) h2 G (fun p m=>z p (_c.2 (.inr m)))
def M7(b:List cu)(c:List Value):Prop:=∀(j:Nat)(s:ByteArray),b[j]?=some .str->c[j]?=some (.string s)->s.size<=1048576
theorem OL{H:Type}{enc:TypeId×Value->H}{P:Program}{w:World}:∀ {f:List cu} {c:List TypeId} {m:List Value} {q:List (DataW H)} {ps:List MemPlace},
 f.length=c.length->(∀(i:Nat)(s:cu)(t:TypeId),f[i]?=some s->c[i]?=some t->s.fit P none t=true)->_i enc P w 0 (fun _=>true) true c m q ps->
  Rows.uptoBulkAll q<=1048576->M7 f m
 |[],[],_,_,_,_,_,h,_=>fun j s h1 _=>by simp at h1
 |[],_::_,_,_,_,hl,_,_,_=>qC
 |_::_,[],_,_,_,hl,_,_,_=>qC
 |s::Y,t::c,_,_,_,hl,u,h,cy=>by
  obtain⟨v,Z,d,aa,a,b,rfl,rfl,rfl,h1,h2⟩:=trodAll_cons h;obtain⟨ab,h1⟩:=h1;simp only[Rows.uptoBulkAll]at cy;have C:=OL yn (fun i I J M O=>u (i+1) I J (by simpa using M) (by simpa using O)) h2 G;intro j x cB eX;match j,cB,eX with
  |j+1,cB,eX=>exact C j x zF xJ
  |0,cB,eX=>
   obtain rfl:=_a cB;obtain rfl:=_a eX;have g:=u 0 .str t rfl rfl;simp only[cu.fit]at g;split at g
   .rename_i Q;obtain⟨y,U,z,-⟩:=_s Q h1;simp only[_d]at z;obtain⟨rfl,rfl⟩:=z;have e:x=y:=by
     have X:[Value.string x]=[Value.string y]:=U;simpa using X
    subst e;exact OH
   cases g
theorem al0{H:Type}{enc:TypeId×Value->H}{C:Checked}{os:Os}{f:FuncId}{fn:Func}{s:OpenSpec}{b:List (String×DataW Unit)}(w0:World)(args:Array Value)(g:w0.os=os)
 (j:(w0.forCall (fun _ _=>0) ⟨#[],args,[]⟩).Shaped C.prog)
 (c:Input.okWideB C.prog (w0.forCall (fun _ _=>0) ⟨#[],args,[]⟩) f ⟨#[],args,[]⟩=true)
 (m:s.preRow enc C.prog fn [] false b (w0.forCall (fun _ _=>0) ⟨#[],args,[]⟩).memory args) :
 ∃(w:World)(tape:Tape)(i:Input),w.os=os/\(w.forCall tape i).Shaped C.prog/\i.vars=[]/\_z C.prog (w.forCall tape i) .any w.heap.size f i/\
  s.preRow enc C.prog fn [] false b (w.forCall tape i).memory i.args/\({}:Assume).holds C.prog (lone (Frame.enter C.prog f i.args .normal) [] (w.forCall tape i)):=
 ⟨w0,fun _ _=>0,⟨#[],args,[]⟩,g,j,(_o (base:=0) c).1,(_o c).2,m,by
  simp only[Assume.holds];exact⟨aF,aF,fun h=>fE,aF,aF⟩⟩
theorem abz{P:Program}{f:FuncId}{b:List cu}{W:World}{args:Array Value}(u:b.all cu.okB=true)(h:vv W W.heap.size b args.toList)(z:∀x:CZ b,HN b x->dS K0 W (pz b x) args->Spec P f (pz b x) (.v (.bool true)))(C:Wx W:=by exact amz _):
 Calls P f args W fun e G=>e=.returned (.bool true)/\Below W.heap.size W G:=by
 obtain⟨x,I,m⟩:=ZB b args.toList u h;have m:dS K0 W (pz b x) args:=by simpa using m
 have J:dS (K0.cut W) W (pz b x) args:=s_ m;have M:Inv (cz K0 W 0 []) (K0.cut W) (aB []) W:=⟨cN.refl _ _,⟨fun n h=>h.elim,fun n h=>h.elim,fun n h=>h.elim,fun g _=>Iff.rfl⟩,fun k o h=>mT,fun k Y o Z h=>mT,fun n h=>h,fun n h=>h.elim,fun k o h=>mT,fun k o h=>mT,fun g O Q=>⟨fun⟨_,_,q,_⟩=>by simp[aB]at q,fun q=>q.1,C g O Q⟩⟩;refine((z x I m).2 K0 W args 0 M (fun n h=>h.elim) J).mono ?_;rintro e aa ⟨v,d,ab,rfl,⟨rfl,rfl⟩,c,U⟩;refine⟨by rw[cQ U],c.ext.os,c.ext.tape,c.ext.output,c.ext.size,fun k X=>c.ext.keep k X ?_⟩;rintro⟨j,o,h,_⟩;simp[cz,aB]at h
theorem afk{C:Checked}{os:Os}{f:FuncId}{fn:Func}{s:ChangeSpec}{H:Type}{enc:TypeId×Value->H}{F:Stop.Interp}{m:List (String×DataW Unit)}(own:ownKnob C.prog.godebug=none)(ab:os.Started)(ac:C.prog.inits.idxOf? f=none)(ae:C.prog.funcs[f]?=some fn)
 (af:∃(w:World)(tape:Tape)(i:Input),w.os=os/\(w.forCall tape i).Shaped C.prog/\i.vars=[]/\_z C.prog (w.forCall tape i) .any w.heap.size f i/\
   (Rows.OpenSpec.upto s).preRow enc C.prog fn [] false m (w.forCall tape i).memory i.args/\({}:Assume).holds C.prog (lone (Frame.enter C.prog f i.args .normal) [] (w.forCall tape i)))
 (c:List cu) (u:c.length=fn.params.toList.length) (ag:(_f c.length).all (fun i=>match c[i]?,fn.params.toList[i]? with|some s,some t=>s.fit C.prog none t|_,_=>false)=true)
 (J:s.vars=[]) (ah:∀b:List (DataW H),b.length=c.length->(s.fn H (b++[])).results=[.lit (.bool true)]/\(s.fn H (b++[])).args=b/\(s.fn H (b++[])).vars=[]) (M:TypeId) (ai:fn.resultTypes = #[M]) (aj:C.prog.underlying M=some .bool)
 (hl:laidOutB C.prog=true) (ak:fn.params.toList.all (fun t=>C.prog.readableRec t&&decide (t<C.prog.types.size))=true)
 (al:∀(W:World)(args:Array Value),laidMetH C.prog m W->W.ShapedOpen C.prog->M7 c args.toList->vv W W.heap.size (c.map cu.wide) args.toList->Calls C.prog f args W fun e O=>e=.returned (.bool true)/\Below W.heap.size W O) :
 ReturnsInHanded {} C os f .any ((Rows.OpenSpec.upto s).preRow enc C.prog fn [] false m) (((Rows.OpenSpec.upto s).at F).post enc C.prog fn false true false false):=by
 refine returnsInHanded_of_row own ab ac ae af ?_;intro W base args b aH am ao an aI ap _ aq ar _;have Q:∀p∈am,p.block<W.heap.size:=fun p au=>an.lt p au
 have av:=an;obtain⟨p,q,g,U,rfl,aJ,aK⟩:=an;have aw:(Rows.OpenSpec.upto s).vars=[]:=J;rw[aw]at U;obtain⟨rfl,rfl⟩:=trodVars_none U;have ax:=Zx g;obtain⟨ay,az,aA⟩:=ah b (by rw[ax,u]);have X:Rows.uptoBulkAll b<=1048576:=by
  have h:=of_decide_eq_true (ap Rows.uptoSmall rfl);rw[List.append_nil]at h;exact h
 have Y:∀(i:Nat)(z:cu)(G:TypeId),c[i]?=some z->fn.params.toList[i]?=some G->z.fit C.prog none G=true:=fun i z G Z aB=>by
  have h:=_u.1 ag i (_g.2 (List.getElem?_eq_some_iff.1 Z).1);simp only[Z,aB]at h;exact h
 have aC:=OV (B:=W.heap.size) (shs:=c) u Y (fun j t v cB eX=>ao j t v zF xJ) g X (fun x I=>Q x (_c.2 (.inl I)));have aD:=OL u Y g X;refine(al W args aq ar aD aC).mono fun e O ⟨aE,aa⟩=>?_
 subst aE;refine⟨_,rfl,b,[],_,[],p,[],av,?_,?_,?_,aa.frame _,fun h=>ha⟩
 .rw[ai];show _i _ _ _ _ _ _ _ _ (s.fn H (b++[])).results _;rw[ay];exact trodAll_cons_mk (shut_bool aj _) trodAll_mk0
 .show _i _ _ _ _ _ _ _ _ (s.fn H (b++[])).args _;rw[az];exact Zt hl aa ak g (fun x I=>Q x (_c.2 (.inl I)))
 have aF:(((Rows.OpenSpec.upto s).at F).fn H (b++[])).vars=[]:=aA;have aG:((Rows.OpenSpec.upto s).at F).vars=[]:=J;rw[aF,aG];rfl
theorem aiA{P:Program}{W:World}{g:Nat}{t:TypeId}(h:W.ShapedOpen P)(f:g<P.globals.size)(j:((begin P (fun _ _=>0) default).world.heap[g]?).bind Obj.row?=some (#[.int .i64 0],t))
 (q:P.buildable t=true) (u:P.cellTypes P.depth t=some [t]) (v:P.underlying t=some (.int .i64)):g<W.heap.size/\se W g [.tuple #[.nilIface]]:=by
 have x:Bf (W.cell? ⟨g,0,none⟩):=cell_of_shapedOpen_int h f j rfl q u v;obtain⟨z,m,aj,-⟩:=h.1 g _ t f j;have C:z.size=1:=aj;refine⟨(Array.getElem?_eq_some_iff.1 m).1,fun i c b=>?_,?_⟩
 .match i,b with
  |0,b=>
   obtain rfl:=_a b;exact .inr ⟨rfl,x⟩
  |i+1,b=>simp at b
 show W.cell? ⟨g,1,none⟩=none;simp[World.cell?,m,C]
end Go.Proofs.YtdiobdlinjgakaaGreatDoor
