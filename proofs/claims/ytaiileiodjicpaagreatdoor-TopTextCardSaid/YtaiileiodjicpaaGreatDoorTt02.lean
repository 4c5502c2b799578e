import Derived.Test.YtaiileiodjicpaaGreatDoorTt01
import Derived.DeepKeys3
set_option linter.unusedVariables false
set_option linter.unusedSimpArgs false
namespace Go.Proofs.YtaiileiodjicpaaGreatDoor
section
variable {P:Program} {o:Oper} {tm:Env} {H:HL} {gen:Nat}
theorem vF (sz:Nat):∀(n:Nat) (l:List DV),(qv sz n l).length=n
 |0,l=>rfl
 |n+1,l=>by simp [qv,vF sz n]
theorem pS (sz:Nat):∀(n:Nat) (l:List DV) (i:Nat),i<n→(qv sz n l)[i]?=some ((l.drop (i*sz)).take sz)
 |0,l,i,h=>by omega
 |n+1,l,0,h=>by simp [qv,tD]
 |n+1,l,i+1,h=>by
  simp only [qv,List.getElem?_cons_succ]
  rw [pS sz n _ i (by omega),xd,List.drop_drop,Nat.succ_mul,Nat.add_comm]
theorem fJ {sz n:Nat} {x:XA} {p:Operand} {t e:TypeId} (hop:o.op=.slice t p none none none) (h1:okA p x=true) (hu:P.underlying t=some (.array n e)) (hsz:xS P e sz=true) :
  (nc sz n (evT tm x)).all (fun d t wr g=>Stp P o x.reads tm H gen d t wr g) (fun _ _=>False):=by
 obtain ⟨inf,hinf,hn⟩:=yr hsz
 unfold nc
 split
 ·rename_i cs hx
  rintro ⟨h0,hn0,hl⟩
  refine Stp.pure fun K a w hr=>?_
  have r1:=zb hr h1
  rw [hx] at r1
  generalize hy:a.eval p=yv at r1
  cases r1 with
  |@rptr _ ad f hs hlt hM hc hh=>
   refine ⟨.slice (some ad) n n,?_,?_⟩
   ·have hn1:¬n=0:=by omega
    have had:(if n=0 then ad else ad.add 0)=ad:=by simp [hn1,Addr.add]
    simp [execOp,hop,hy,Instr.sliceAt,Instr.sureAddr,run_underlying hu,Instr.sliceBounds,zG hinf,Addr.add]
   ·have hsome:∀(i:Nat) (y:List DV) (j:Nat) (d:DV),(qv sz n cs)[i]?=some y→y[j]?=some d→cs[i*sz+j]?=some d:=by
     intro i y j d hi hj
     have hin:i<n:=by have:=(List.getElem?_eq_some_iff.1 hi).1;rwa [vF] at this
     rw [pS sz n cs i hin] at hi
     obtain rfl:=Option.some.inj hi
     have hj2:j<sz:=by have:=(List.getElem?_eq_some_iff.1 hj).1;simp at this;omega
     rw [List.getElem?_take_of_lt hj2,List.getElem?_drop] at hj
     exact hj
    refine .snap (fun i j=>f (i*sz+j)) (vF sz n cs) (Nat.le_refl _) (fun _=>rfl) (fun y hy'=>?_) (fun _=>⟨ad,rfl,hs,hlt,hM⟩) (fun ad' i y j d hA hi hj=>?_) (fun i y j d hi hj=>?_)
    ·obtain ⟨i,hi⟩:=List.mem_iff_getElem?.1 hy'
     have hin:i<n:=by have:=(List.getElem?_eq_some_iff.1 hi).1;rwa [vF] at this
     rw [pS sz n cs i hin] at hi
     obtain rfl:=Option.some.inj hi
     have h2:(i+1)*sz≤n*sz:=Nat.mul_le_mul_right _ hin
     rw [Nat.succ_mul] at h2
     simp;omega
    ·obtain rfl:=Option.some.inj hA
     exact hc _ d (hsome i y j d hi hj)
    ·exact hh _ d (hsome i y j d hi hj)
 ·exact trivial
def Kr.now (K:Kr) (w:World):Kr:=⟨K.dom,K.real,K.μ,fun g=>K.M g∧g<w.heap.size⟩
theorem iW {K:Kr} {w w':World} (h:Ext (fun _=>False) w w'):yF K w (K.now w) w':=⟨h.weaken (fun _ _ hf=>hf.elim),fun n hn=>⟨hn,rfl⟩,fun g _ hm=>hm.1⟩
theorem XG {Γ:Gm} {K:Kr} {H':Nat→Option zj} {w w':World} (hI:Inv Γ K H' w) (h:Ext (fun _=>False) w w'):Inv Γ (K.now w) H' w':=
 ⟨uV hI h,⟨hI.base.dom,hI.base.old,hI.base.keep,fun g hg=>⟨fun q=>(hI.base.M g hg).1 q.1,fun q=>⟨(hI.base.M g hg).2 q,Nat.lt_of_lt_of_le hg hI.ext.size⟩⟩⟩,fun k o ho=>(hI.obj k o ho).mono (iW h) (fun hn=>hn) (fun hr=>h.keep _ (hI.lt _ hr) (fun hf=>hf)),hI.inj,hI.dr,fun n hn=>Nat.lt_of_lt_of_le (hI.lt n hn) h.size,hI.dobj,fun k o ho hr=>⟨⟨(hI.own k o ho hr).1,hI.lt _ hr⟩,(hI.own k o ho hr).2⟩,hI.gl⟩
theorem um (w:World) (e:TypeId) (s:ByteArray):Ext (fun _=>False) w (Lib.bytesWorld w e s) where
 os:=rfl
 tape:=rfl
 output:=rfl
 size:=by rw [Lib.bytesWorld_size];omega
 keep:=fun g hg _=>Lib.bytesWorld_at_old w e s g hg
 shape:=fun g cs t fr hh=>⟨cs,fr,by rw [Lib.bytesWorld_at_old w e s g (v7 hh)];exact hh,rfl⟩
 maps:=.of_eq fun g es ck hh=>Lib.bytesWorld_at_old w e s g (v7 hh)
theorem WL {x:XA} {s d el:TypeId} {p:Operand} (hop:o.op=.convert s d p) (h1:okA p x=true) (hs:P.underlying s=some .string) (hd:P.underlying d=some (.slice el)) (he:P.underlying el=some (.int .u8)) :
  (WG (evT tm x)).all (fun d t wr g=>Stp P o x.reads tm H gen d t wr g) (fun _ _=>False):=by
 unfold WG
 split
 ·rename_i b hx
  intro Γ K H' a w Q next hI ht hr hf hg0 hn
  have r1:=zb hr h1
  rw [hx] at r1
  have e1:=zq r1
  have hrun:=Lib.run_convert_string_bytes (P:=P) w s d el b hs hd he
  have hext:=um w el b
  have hsz:b.data.toList.length=b.size:=rfl
  refine yi (v:=.slice (some ⟨w.heap.size,0,none⟩) b.size (grownCap w b.size 0 el)) (w':=Lib.bytesWorld w el b) (by simp [execOp,hop,e1,hrun]) (hn (K.now w) _ _ (iW hext) (XG hI hext) ?_ (fun n h=>.inl h))
  have hM:¬(K.now w).M w.heap.size:=fun q=>Nat.lt_irrefl _ q.2
  have hget:∀(i:Nat) (y:List DV) (j:Nat) (dd:DV),(yp b)[i]?=some y→y[j]?=some dd→i<b.size∧j=0∧dd=.v (.int .u8 ((b.data.toList.getD i 0).toNat:Int)):=by
   intro i y j dd hi hj
   unfold yp at hi
   rw [List.getElem?_map] at hi
   cases hq:b.data.toList[i]? with
   |none=>rw [hq] at hi;cases hi
   |some c=>
    rw [hq] at hi
    obtain rfl:=Option.some.inj hi
    have hlt:=(List.getElem?_eq_some_iff.1 hq).1
    cases j with
    |succ j=>simp at hj
    |zero=>
     simp at hj
     refine ⟨hlt,rfl,?_⟩
     rw [←hj,List.getD_eq_getElem?_getD,hq]
     rfl
  refine .snap (fun i j=>.int .u8 ((b.data.toList.getD i 0).toNat:Int)) (by simp [yp]) (uM _ _ _ _) (fun h=>by cases h) (fun y hy=>?_) (fun _=>⟨_,rfl,rfl,by rw [Lib.bytesWorld_size];exact Nat.lt_succ_self _,hM⟩) (fun ad i y j dd hA hi hj=>?_) (fun i y j dd hi hj=>?_)
  ·unfold yp at hy
   obtain ⟨c,_,rfl⟩:=List.mem_map.1 hy
   rfl
  ·obtain rfl:=Option.some.inj hA
   obtain ⟨q1,rfl,q3⟩:=hget i y j dd hi hj
   have:=Lib.bytesWorld_cell w el b i q1
   simpa [ya] using this
  ·obtain ⟨q1,rfl,rfl⟩:=hget i y j dd hi hj
   exact .v _
 ·exact trivial
theorem ku:∀(xs:List (List DV)) (i:Nat) (d:DV),(∀x∈xs,x.length=1)→(oH xs)[i]?=some d→∃x,xs[i]?=some x∧x[0]?=some d
 |[],i,d,_,h=>by simp [oH] at h
 |x::r,0,d,hs,h=>by
  have:=hs x (by simp)
  obtain ⟨y,rfl⟩:=List.length_eq_one_iff.1 this
  simp [oH,sN] at h
  exact ⟨[y],rfl,by simp [h]⟩
 |x::r,i+1,d,hs,h=>by
  simp only [oH,List.getElem?_cons_succ] at h
  obtain ⟨y,h1,h2⟩:=ku r i d (fun z hz=>hs z (List.mem_cons_of_mem _ hz)) h
  exact ⟨y,by simpa using h1,h2⟩
theorem Y_ {n:Nat} {x:XA} {p:Operand} {t e:TypeId} (hop:o.op=.sliceToArrayPointer t p) (h1:okA p x=true) (hu:P.underlying t=some (.array n e)) :
  (c7 n (evT tm x)).all (fun d t wr g=>Stp P o x.reads tm H gen d t wr g) (fun _ _=>False):=by
 unfold c7
 split
 ·rename_i sz xs clip hx
  rintro ⟨rfl,hn0,hl⟩
  refine Stp.pure fun K a w hr=>?_
  have r1:=zb hr h1
  rw [hx] at r1
  generalize hy:a.eval p=yv at r1
  cases r1 with
  |@snap _ _ _ A len cap f hlen hlc hcl hs ha hcell hh=>
   obtain ⟨ad,rfl,hsp,hlt,hM⟩:=ha (by omega)
   refine ⟨.pointer (some ad),?_,?_⟩
   ·have:¬len<n:=by omega
    simp [execOp,hop,hy,Instr.arrayAt,run_underlying hu,this]
   ·have key:∀(i:Nat) (d:DV),(oH (zN xs n))[i]?=some d→∃x,xs[i]?=some x∧x[0]?=some d:=by
     intro i d hd
     rw [zB] at hd
     obtain ⟨y,q1,q2⟩:=ku _ i d (fun z hz=>hs z (List.mem_of_mem_take hz)) hd
     refine ⟨y,?_,q2⟩
     rw [List.getElem?_take] at q1
     split at q1
     ·exact q1
     ·cases q1
    refine .rptr (fun i=>f i 0) hsp hlt hM (fun i d hd=>?_) (fun i d hd=>?_)
    ·obtain ⟨y,q1,q2⟩:=key i d hd
     have:=hcell ad i y 0 d rfl q1 q2
     simpa using this
    ·obtain ⟨y,q1,q2⟩:=key i d hd
     exact hh i y 0 d q1 q2
 ·exact trivial
theorem bt (fn:Func) (h:fn.name = "internal/bytealg.IndexByteString") (ho:fn.origin = ""):Extern.findNext fn=none∧Extern.find fn=some Extern.BytealgIndexByte.indexByte:=by
 obtain ⟨⟩:=fn
 dsimp only at h ho
 subst h ho
 exact ⟨by kernel_rfl,by kernel_rfl⟩
theorem bc (fn:Func) (h:fn.name = "internal/bytealg.CountString") (ho:fn.origin = ""):Extern.findNext fn=none∧Extern.find fn=some Extern.BytealgCount.count:=by
 obtain ⟨⟩:=fn
 dsimp only at h ho
 subst h ho
 exact ⟨by kernel_rfl,by kernel_rfl⟩
theorem Yg {k:Nat} {as:List XA} {c:Call} {g:FuncId} (hop:o.op=.call c) (hc:c.callee=.value (.func g)) (hg:YS P k g=true) (ha:wg c.args.toList as=true) :
  (WT k (evs tm as)).all (fun d t wr g=>Stp P o (as.flatMap XA.reads) tm H gen d t wr g) (fun _ _=>False):=by
 unfold YS at hg
 split at hg
 ·rename_i fn hfn
  simp only [Bool.and_eq_true,decide_eq_true_eq,beq_iff_eq] at hg
  obtain ⟨⟨⟨hb,hname⟩,horg⟩,hk⟩:=hg
  have hrun:∀(e:Array Value→Sem Value) (v:Value),(fn.name == "runtime.NumGoroutine")=false→Extern.findNext fn=none→Extern.find fn=some e→∀(a:Act) (w:World),(e (c.args.toList.map a.eval).toArray).run P w=.ok v w→(execOp a.eval o).run P w=.ok (.value v) w:=by
   intro e v h1 h2 h3 a w h4
   have:=run_callFunc_extern (P:=P) hfn h1 hb h2 h3 (c.args.toList.map a.eval).toArray w
   rw [h4] at this
   simp only [Result.andThen] at this
   simp [execOp,hop,resolve,hc,Act.eval,Deferred.ofValue,invoke,nn,this]
  unfold WT
  split
  ·rename_i s cc hx
   have hvs:∀(K:Kr) (a:Act) (w:World),(∀s∈as.flatMap XA.reads,ze K w (tm.get s) (a.tmps.getD s.nat undef))→(c.args.toList.map a.eval).toArray = #[.string s,.int .u8 cc]:=by
    intro K a w hr
    obtain ⟨q1,q2⟩:=tg ha hr
    rw [hx] at q1 q2
    have l2:(c.args.toList.map a.eval).length=2:=by simpa using q1
    match hl:c.args.toList.map a.eval,l2 with
    |[v0,v1],_=>
     rw [hl] at q2
     have r0:=zq (q2 0 _ v0 rfl rfl)
     have r1:=zq (q2 1 _ v1 rfl rfl)
     rw [r0,r1]
   split
   ·have hx0:=bt fn hname horg
    refine Stp.pure fun K a w hr=>⟨_,hrun _ _ (by rw [hname];decide) hx0.1 hx0.2 a w ?_,.v _⟩
    rw [hvs K a w hr]
    exact Lib.run_indexByteString s cc w
   ·have hx0:=bc fn hname horg
    refine Stp.pure fun K a w hr=>⟨_,hrun _ _ (by rw [hname];decide) hx0.1 hx0.2 a w ?_,.v _⟩
    rw [hvs K a w hr]
    exact Lib.run_countString s cc w
   ·exact trivial
  ·exact trivial
 ·cases hg
end
section
variable {P:Program} {o:Oper} {tm:Env} {H:HL} {gen:Nat}
theorem iz {k:Nat} {t:TypeId} {r:Option Operand} (hop:o.op=.makeMap t r) (hr0:r=none) :
  Stp P o [] tm H gen (.mp k gen) [k] [(k,some ⟨gen,0,[]⟩)] 1:=by
 intro Γ K H' a w Q next hI ht hr hf hg0 hnext
 have hg:¬K.dom gen:=hf gen (Nat.le_refl _) (by omega)
 subst hr0
 refine yi (v:=.map (some w.heap.size)) (w':=w.alloc (.map #[] 0)) ?_ (hnext (K.add gen w.heap.size) _ _ (x6 _ (fun h=>hg (hI.dr _ h))) ?_ ?_ ?_)
 ·simp [execOp,hop,Instr.makeMap]
 ·rw [yI]
  exact lF hI hg hg0 (.inr (.inr ⟨.inr rfl,rfl,#[],0,by simp only [Kr.add,if_true];exact xD w _,.inl rfl⟩))
 ·have:ze (K.add gen w.heap.size) (w.alloc (.map #[] 0)) (.mp k gen) (.map (some ((K.add gen w.heap.size).μ gen))):=.mp (.inr rfl)
  simpa [Kr.add] using this
 ·intro m hm
  rcases hm with h|h
  ·exact .inl h
  ·exact .inr (by omega)
theorem gU {K:Kr} {w:World}:∀(ds:List DV) (cs l:List Value),ap ds=some l→cs.length=ds.length→(∀(i:Nat) (d:DV) (c:Value),ds[i]?=some d→cs[i]?=some c→ze K w d c)→cs=l
 |[],[],l,h,_,_=>by simpa [ap] using h
 |[],c::cs,l,h,hl,_=>by simp at hl
 |d::ds,[],l,h,hl,_=>by simp at hl
 |d::ds,c::cs,l,h,hl,hr=>by
  unfold ap at h
  split at h
  ·rename_i hq;cases hq
  ·rename_i x r hq
   injection hq with q1 q2
   subst q1 q2
   split at h
   ·rename_i m hm
    obtain rfl:=Option.some.inj h
    rw [gU ds cs m hm (by simpa using hl) (fun i d c hd hc=>hr (i+1) d c (by simpa using hd) (by simpa using hc)),zq (hr 0 _ c rfl rfl)]
   ·cases h
  ·cases h
theorem qy {K:Kr} {w:World} {d:DV} {x y:Value} (h:ze K w d x) (hk:fX d=some y):x=y:=by
 unfold fX at hk
 split at hk
 ·rw [zq h];exact Option.some.inj hk
 ·split at hk
  ·rename_i l hl
   cases h with
   |@agg ds cs hs hv=>
    obtain rfl:=Option.some.inj hk
    have:=gU (K:=K) (w:=w) _ cs.toList l hl (by simpa using hs) (fun i d c hd hc=>hv i d c hd (by simpa using hc))
    rw [←this]
  ·cases hk
 ·cases hk
theorem xO:∀ {ks:List IntKind} {cs:List Value},yU ks cs=true→cs.length=ks.length∧∀(i:Nat) (k:IntKind),ks[i]?=some k→∃a,cs[i]?=some (.int k a)
 |[],[],_=>⟨rfl,fun i k h=>by simp at h⟩
 |[],_::_,h=>by simp [yU] at h
 |_::_,[],h=>by simp [yU] at h
 |k::ks,c::cs,h=>by
  unfold yU at h
  split at h
  ·rename_i q _;cases q
  ·rename_i k0 ks0 k' a r q1 q2
   injection q1 with e1 e2
   injection q2 with e3 e4
   subst e1 e2 e3 e4
   rw [xC] at h
   obtain ⟨h1,h2⟩:=xO h.2
   refine ⟨by simp [h1],fun i q hq=>?_⟩
   cases i with
   |zero=>simp at hq;rw [←hq,yG h.1];exact ⟨a,rfl⟩
   |succ i=>obtain ⟨b,hb⟩:=h2 i q (by simpa using hq);exact ⟨b,by simpa using hb⟩
  ·cases h
theorem wX {w:World} {t:TypeId} {k:IntKind} {em:Bool} {n:Nat} {v:Value} (hu:P.underlying t=some (.int k)):(Instr.checkKey em (n+1) t v).run P w=.ok () w:=by
 simp [Instr.checkKey,run_underlying hu]
theorem nN {t:TypeId} {k:IntKind} (h:c_ P t k=true):P.underlying t=some (.int k):=by
 unfold c_ at h
 split at h
 ·rename_i k' hu;rw [hu,yG h]
 ·cases h
theorem so {w:World} {em:Bool} {n:Nat} {cs:Array Value}:∀(ks:List IntKind) (fs:List Field) (off:Nat),pp P ks fs off=true→(∀(i:Nat) (k:IntKind),ks[i]?=some k→∃a,cs[off+i]?=some (.int k a))→
  (forIn fs PUnit.unit (fun f _=>
   if f.name ≠ "_" then do
    let x ←part f.type cs f.offset
    Instr.checkKey em (n+1) f.type x
    pure (ForInStep.yield PUnit.unit)
   else pure (ForInStep.yield PUnit.unit)):Sem PUnit).run P w=.ok PUnit.unit w
 |[],[],off,_,_=>by simp
 |[],_::_,off,h,_=>by simp [pp] at h
 |_::_,[],off,h,_=>by simp [pp] at h
 |k::ks,f::fs,off,h,hc=>by
  simp only [pp,Bool.and_eq_true,decide_eq_true_eq,Bool.not_eq_true',beq_eq_false_iff_ne,ne_eq] at h
  obtain ⟨⟨⟨h1,h2⟩,h3⟩,h4⟩:=h
  have hu:=nN h3
  obtain ⟨a,ha⟩:=hc 0 k rfl
  have hp:(part f.type cs f.offset).run P w=.ok (.int k a) w:=yD (vq hu) (by rw [h1];simpa using ha)
  have ih:=so (w:=w) (em:=em) (n:=n) (cs:=cs) ks fs (off+1) h4 (fun i q hq=>by
   obtain ⟨b,hb⟩:=hc (i+1) q (by simpa using hq)
   exact ⟨b,by rw [←hb];congr 1;omega⟩)
  simp only [List.forIn_cons,Sem.run_bind,h2,ne_eq,not_false_eq_true,if_true,Result.andThen_ok,hp,wX (P:=P) (w:=w) (em:=em) (n:=n) (v:=.int k a) hu,Sem.run_pure]
  exact ih
theorem iT {k:IntKind}:∀ {ks:List IntKind},W7 k ks=true→∀(i:Nat) (q:IntKind),ks[i]?=some q→q=k
 |[],_,i,q,h=>by simp at h
 |k'::r,h,i,q,hq=>by
  simp only [W7,Bool.and_eq_true] at h
  cases i with
  |zero=>simp at hq;rw [←hq,yG h.1]
  |succ i=>exact iT h.2 i q (by simpa using hq)
theorem yl {w:World} {t:TypeId} {kt:KT} {key:Value} {em:Bool} (ht:qk P t kt=true) (hk:zC kt key=true):(Instr.checkKey em 10000 t key).run P w=.ok () w:=by
 cases kt with
 |one k=>exact wX (n:=9999) (nN ht)
 |cells ks=>
  cases key<;>simp only [zC,Bool.false_eq_true] at hk
  rename_i cs
  obtain ⟨hl,hg⟩:=xO hk
  simp only [qk,Bool.and_eq_true,decide_eq_true_eq] at ht
  obtain ⟨⟨ht1,ht2⟩,ht3⟩:=ht
  split at ht3
  ·rename_i n e hu
   simp only [Bool.and_eq_true,decide_eq_true_eq] at ht3
   obtain ⟨⟨rfl,h2⟩,h3⟩:=ht3
   split at h3
   ·rename_i k hue
    obtain ⟨inf,hinf,hsz⟩:=yr h2
    rw [show (10000:Nat)=9999+1 from rfl,Instr.checkKey]
    simp only [Sem.run_bind,run_underlying hu,Result.andThen_ok]
    simp only [Std.Legacy.Range.forIn_eq_forIn_range',Std.Legacy.Range.size,Nat.sub_zero,Nat.add_one_sub_one,Nat.div_one]
    have each:∀j∈List.range' 0 ks.length,∃a,cs[j]?=some (.int k a):=fun j hj=>by
     have hj':j<ks.length:=by simpa using List.mem_range'_1.1 hj
     have e1:=iT h3 j _ (List.getElem?_eq_getElem hj')
     obtain ⟨a,ha⟩:=hg j _ (List.getElem?_eq_getElem hj')
     rw [e1] at ha
     exact ⟨a,by simpa using ha⟩
    generalize List.range' 0 ks.length=is at each
    induction is with
    |nil=>simp
    |cons j is ih=>
     obtain ⟨a,ha⟩:=each j (by simp)
     have hp:(part e cs (j*inf.size)).run P w=.ok (.int k a) w:=yD (vq hue) (by rw [hsz,Nat.mul_one];exact ha)
     simp only [List.forIn_cons,Sem.run_bind,zG hinf,Result.andThen_ok,hp,wX (P:=P) (w:=w) (em:=em) (n:=9998) (v:=.int k a) hue,Sem.run_pure]
     exact ih (fun y hy=>each y (by simp [hy]))
   ·cases h3
  ·rename_i fs hu
   rw [show (10000:Nat)=9999+1 from rfl,Instr.checkKey]
   simp only [Sem.run_bind,run_underlying hu,Result.andThen_ok]
   rw [←Array.forIn_toList]
   have hfs:=so (P:=P) (w:=w) (em:=em) (cs:=cs) (n:=9998) ks fs.toList 0 ht3 (fun i k hi=>by
    obtain ⟨a,ha⟩:=hg i k hi
    exact ⟨a,by rw [Nat.zero_add];simpa using ha⟩)
   erw [hfs]
   rfl
  ·cases ht3
theorem rp:∀ {ks:List IntKind} {xs ys:List Value},yU ks xs=true→yU ks ys=true→(o_ xs ys=true↔∀(i:Nat) (k:IntKind) (a b:Int),ks[i]?=some k→xs[i]?=some (.int k a)→ys[i]?=some (.int k b)→a=b)∧(o_ xs ys=true→xs=ys)
 |[],[],[],_,_=>⟨⟨fun _ i k a b h=>by simp at h,fun _=>rfl⟩,fun _=>rfl⟩
 |[],_::_,_,h,_=>by simp [yU] at h
 |[],[],_::_,_,h=>by simp [yU] at h
 |_::_,[],_,h,_=>by simp [yU] at h
 |_::_,_::_,[],_,h=>by simp [yU] at h
 |k::ks,x::xs,y::ys,h1,h2=>by
  obtain ⟨a,ha⟩:=(xO h1).2 0 k rfl
  obtain ⟨b,hb⟩:=(xO h2).2 0 k rfl
  simp at ha hb
  subst ha hb
  simp only [yU,xC] at h1 h2
  obtain ⟨i1,i2⟩:=rp h1.2 h2.2
  simp only [o_,Bool.and_eq_true,decide_eq_true_eq]
  refine ⟨⟨fun h i q c d hq hc hd=>?_,fun h=>⟨h 0 k a b rfl rfl rfl,i1.2 fun i q c d hq hc hd=>h (i+1) q c d (by simpa using hq) (by simpa using hc) (by simpa using hd)⟩⟩,fun h=>by rw [h.1,i2 h.2]⟩
  cases i with
  |zero=>simp at hc hd;obtain ⟨_,rfl⟩:=hc;obtain ⟨_,rfl⟩:=hd;exact h.1
  |succ i=>exact i1.1 h.2 i q c d (by simpa using hq) (by simpa using hc) (by simpa using hd)
theorem uv {kt:KT} {a b:Value} (ha:zC kt a=true) (hb:zC kt b=true) (h:xM a b=true):a=b:=by
 cases kt with
 |one k=>
  cases a<;>simp only [zC,Bool.false_eq_true] at ha
  cases b<;>simp only [zC,Bool.false_eq_true] at hb
  simp only [xM,decide_eq_true_eq] at h
  rw [←yG ha,←yG hb,h]
 |cells ks=>
  cases a<;>simp only [zC,Bool.false_eq_true] at ha
  cases b<;>simp only [zC,Bool.false_eq_true] at hb
  simp only [xM] at h
  have:=(rp ha hb).2 h
  congr 1
  exact Array.ext' this
theorem jF {w:World} {t:TypeId} {ks:List IntKind} {xs ys:Array Value} (ht:qk P t (.cells ks)=true) (ha:yU ks xs.toList=true) (hb:yU ks ys.toList=true):(Op.equal t (.agg xs) (.agg ys)).run P w=.ok (o_ xs.toList ys.toList) w:=by
 simp only [qk,Bool.and_eq_true,decide_eq_true_eq] at ht
 obtain ⟨⟨ht1,ht2⟩,_⟩:=ht
 obtain ⟨la,ga⟩:=xO ha
 obtain ⟨lb,gb⟩:=xO hb
 have hk:∀(i q:Nat),(List.replicate ks.length 0)[i]?=some q→q=0∧∃k,ks[i]?=some k:=fun i q h=>by
  rw [List.getElem?_replicate] at h
  split at h
  ·rename_i hi
   exact ⟨(Option.some.inj h).symm,_,List.getElem?_eq_getElem hi⟩
  ·cases h
 have hc:Cmp (List.replicate ks.length 0) xs ys 0:=fun i q hq=>by
  obtain ⟨rfl,k,hk⟩:=hk i q hq
  obtain ⟨a,h1⟩:=ga i k hk
  obtain ⟨b,h2⟩:=gb i k hk
  refine ⟨.int k a,.int k b,decide (a=b),by rw [Nat.zero_add];simpa using h1,by rw [Nat.zero_add];simpa using h2,?_⟩
  cases k<;>rfl
 obtain ⟨r,h1,h2⟩:=X4 (w:=w) 19 9999 (by omega) ht1 ht2 hc
 have e:r=o_ xs.toList ys.toList:=by
  rw [Bool.eq_iff_iff,h2,(rp ha hb).1]
  constructor
  ·intro h i k a b q1 q2 q3
   have hi:i<ks.length:=(List.getElem?_eq_some_iff.1 q1).1
   have:=h i 0 (.int k a) (.int k b) (by rw [List.getElem?_replicate,if_pos hi]) (by rw [Nat.zero_add];simpa using q2) (by rw [Nat.zero_add];simpa using q3)
   have e2:eqc 0 (.int k a) (.int k b)=some (decide (a=b)):=by cases k<;>rfl
   rw [e2] at this
   simpa using this
  ·intro h i q c c' q1 q2 q3
   obtain ⟨rfl,k,hk⟩:=hk i q q1
   obtain ⟨a,g1⟩:=ga i k hk
   obtain ⟨b,g2⟩:=gb i k hk
   rw [Nat.zero_add] at q2 q3
   have e1:c=.int k a:=by
    have:xs[i]?=some (.int k a):=by simpa using g1
    rw [this] at q2;exact (Option.some.inj q2).symm
   have e2:c'=.int k b:=by
    have:ys[i]?=some (.int k b):=by simpa using g2
    rw [this] at q3;exact (Option.some.inj q3).symm
   rw [e1,e2,h i k a b hk g1 g2]
   cases k<;>simp [eqc,xy]
 rw [←e]
 exact h1
theorem uD {w:World} {t:TypeId} {ks:List IntKind} {key:Value} (ht:qk P t (.cells ks)=true) (hk:zC (.cells ks) key=true):∀(es:List MapEntry) (i:Nat),(∀e∈es,zC (.cells ks) e.key=true)→(Instr.findAsking t key es i).run P w=.ok (vz es key i) w
 |[],i,_=>by simp [Instr.findAsking,vz]
 |e::es,i,h=>by
  have he:=h e (by simp)
  cases key<;>simp only [zC,Bool.false_eq_true] at hk
  rename_i xs
  have hek:∃ys,e.key=.agg ys:=by cases hq:e.key<;>simp_all [zC]
  obtain ⟨ys,hy⟩:=hek
  rw [hy] at he
  have hr:=jF (w:=w) ht hk (ys:=ys) he
  have ih:=uD (w:=w) (key:=.agg xs) ht hk es (i+1) (fun e he=>h e (by simp [he]))
  simp only [Instr.findAsking,Sem.run_bind,hy,hr,Result.andThen_ok,vz,xM]
  by_cases hs:o_ xs.toList ys.toList=true
  ·simp [hs]
  ·simp [hs,ih]
theorem mD {k:IntKind} {key:Value} (hk:zC (.one k) key=true):∀(es:List MapEntry) (i:Nat),(∀e∈es,zC (.one k) e.key=true)→Instr.findNow (.int k) key es i=some (vz es key i)
 |[],i,_=>rfl
 |e::es,i,h=>by
  have he:=h e (by simp)
  cases key<;>simp only [zC,Bool.false_eq_true] at hk
  rename_i k1 a
  have hek:∃k2 b,e.key=.int k2 b:=by cases hq:e.key<;>simp_all [zC]
  obtain ⟨k2,b,hy⟩:=hek
  rw [hy] at he
  have e1:=yG hk
  have e2:=yG he
  subst e1 e2
  have ih:=mD (key:=.int k a) (k:=k) hk es (i+1) (fun e he=>h e (by simp [he]))
  simp only [Instr.findNow,hy,Instr.sameNow,if_true,vz,xM]
  by_cases hab:a=b
  ·simp [hab]
  ·have:(a == b)=false:=by simp [hab]
   simp [hab,ih,this]
theorem wC {w:World} {t:TypeId} {kt:KT} {key:Value} (ht:qk P t kt=true) (hk:zC kt key=true) (es:List MapEntry) (h:∀e∈es,zC kt e.key=true):(Instr.findKey t key es).run P w=.ok (vz es key 0) w:=by
 cases kt with
 |one k=>exact MapKept.run_findKey (nN ht) (mD hk es 0 h)
 |cells ks=>
  have hask:=uD (w:=w) ht hk es 0 h
  have hu:∃d,P.underlying t=some d∧lN d=true:=by
   simp only [qk,Bool.and_eq_true] at ht
   have h2:=ht.1.2
   unfold se at h2
   split at h2
   ·rename_i d hd;exact ⟨d,hd,by simpa using h2⟩
   ·cases h2
  obtain ⟨d,hd,hda⟩:=hu
  cases es with
  |nil=>exact MapKept.run_findKey hd (by simp [Instr.findNow,vz])
  |cons e es=>
   have hn:Instr.findNow d key (e::es) 0=none:=by
    unfold Instr.findNow
    have:Instr.sameNow d key e.key=none:=by
     cases d<;>first|rfl|(simp [lN] at hda)
    rw [this]
   simp only [Instr.findKey,Sem.run_bind,run_underlying hd,Result.andThen_ok,hn]
   exact hask
theorem s8 {kt:KT}:∀ {es:List MapEntry},uu kt (es.map uk)=true→∀e∈es,zC kt e.key=true
 |[],_,e,h=>by simp at h
 |x::es,h,e,he=>by
  simp only [List.map_cons,uk,uu,xC] at h
  rcases List.mem_cons.1 he with rfl|he
  ·exact h.1
  ·exact s8 h.2 e he
theorem kw {key:Value}:∀(es:List MapEntry) (i:Nat),vE (es.map uk) key=(vz es key i).map (·.2)
 |[],i=>by simp [vE,vz]
 |e::es,i=>by
  simp only [List.map_cons,uk,vE,vz]
  by_cases h:xM key e.key=true
  ·simp [h]
  ·simp [h]
   exact kw es (i+1)
theorem kV {key v:Value}:∀(es:List MapEntry) (i:Nat),vz es key i=none→su (es.map uk) key v=es.map uk++[[.v key,.v v]]
 |[],i,_=>rfl
 |e::es,i,h=>by
  simp only [vz] at h
  by_cases hk:xM key e.key=true
  ·simp [hk] at h
  ·simp [hk] at h
   simp only [List.map_cons,uk,su,hk,List.cons_append]
   have:=kV (v:=v) es (i+1) h
   simpa using this
theorem kG {key v:Value}:∀(es:List MapEntry) (i j:Nat) (u:Value),vz es key i=some (j,u)→∃ (m:Nat) (e:MapEntry),j=i+m∧es[m]?=some e∧xM key e.key=true∧(e.key=key→su (es.map uk) key v=(es.modify m (fun e=>{ e with key:=key,val:=v })).map uk)
 |[],i,j,u,h=>by simp [vz] at h
 |e::es,i,j,u,h=>by
  simp only [vz] at h
  by_cases hk:xM key e.key=true
  ·simp [hk] at h
   refine ⟨0,e,by omega,rfl,hk,fun he=>?_⟩
   have hk':=hk
   rw [he] at hk'
   simp only [List.map_cons,uk,su,List.modify_zero_cons,he,hk',if_true]
  ·simp [hk] at h
   obtain ⟨m,e',h1,h2,h3,h4⟩:=kG (v:=v) es (i+1) j u h
   refine ⟨m+1,e',by omega,by simpa using h2,h3,fun he=>?_⟩
   simp only [List.map_cons,uk,su,hk,List.modify_succ_cons]
   have:=h4 he
   simpa using this
theorem od {kt:KT} {v:Value} (h:zC kt v=true):Instr.sameBits 10000 v v=true:=by
 cases kt with
 |one k=>
  cases v<;>simp only [zC,Bool.false_eq_true] at h
  simp [Instr.sameBits]
 |cells ks=>
  cases v<;>simp only [zC,Bool.false_eq_true] at h
  rename_i cs
  have key:∀(ks:List IntKind) (l:List Value),yU ks l=true→((l.zip l).all fun (x,y)=>Instr.sameBits 9999 x y)=true:=by
   intro ks
   induction ks with
   |nil=>intro l hl;cases l with
    |nil=>rfl
    |cons _ _=>simp [yU] at hl
   |cons k ks ih=>
    intro l hl
    cases l with
    |nil=>simp [yU] at hl
    |cons x l=>
     obtain ⟨a,ha⟩:=(xO hl).2 0 k rfl
     simp at ha
     subst ha
     simp only [yU,xC] at hl
     have:=ih l hl.2
     simp only [List.zip_cons_cons,List.all_cons,this,Bool.and_true]
     simp [Instr.sameBits]
  rw [show (10000:Nat)=9999+1 from rfl,Instr.sameBits]
  simp only [beq_self_eq_true,Bool.true_and]
  exact key ks cs.toList h
theorem sD {t:TypeId} {z:Value} (h:uy P t z=true) (w:World):(zeroValue t).run P w=.ok z w:=by
 unfold uy at h
 split at h
 ·rename_i i hi
  split at h
  ·rename_i y hy
   rw [wF hi hy,jm h]
  ·cases h
 ·cases h
theorem YX {kt:KT} {z:Value} {m x:XA} {p q:Operand} {t kk e:TypeId} (hop:o.op=.lookup t p q false) (h1:okA p m=true) (h2:okA q x=true) (hu:P.underlying t=some (.map kk e)) (hkt:qk P kk kt=true) (hz:uy P e z=true) :
  (cC kt z H (evT tm m) (evT tm x)).all (fun d t wr g=>Stp P o (m.reads++x.reads) tm H gen d t wr g) (fun _ _=>False):=by
 unfold cC
 split
 ·rename_i k n hm
  unfold Yw
  split
  ·rename_i key hkey
   unfold YI
   split
   ·rename_i ob hob
    rintro ⟨i1,i2⟩ ⟨c1,c2⟩
    refine Stp.read fun Γ K H' a w hI ht hr=>?_
    have r1:=zb (zm hr) h1
    have r2:=zb (zh hr) h2
    rw [hm] at r1
    have e2:=qy r2 hkey
    have hH:=ht k (by simp)
    rw [hob] at hH
    generalize hy:a.eval p=yv at r1
    cases r1 with
    |mp hreal=>
     rcases hI.obj k ob hH with ⟨q1,_⟩|⟨q1,cs,tt,frz,nfz,q3,_⟩|⟨q1,q2,es,ck,q3,q4⟩
     ·exact absurd (i1▸hreal) q1
     ·have:=nfz.2
      omega
     ·have q4:ob.xs=es.toList.map uk:=q4.resolve_right (by rintro ⟨z',s',r',e',_⟩;rw [e'] at c1;simp [uu] at c1)
      rw [q4] at c1 ⊢
      have hf:=wC (w:=w) hkt c2 es.toList (s8 c1)
      have hb:w.heap[K.μ n]?=some (.map es ck):=by rw [←i1];exact q3
      refine ⟨(vE (es.toList.map uk) key).getD z,?_,.v _⟩
      rw [kw es.toList 0]
      cases hfi:vz es.toList key 0 with
      |none=>
       rw [hfi] at hf
       simp [execOp,hop,hy,e2,Instr.lookup,run_underlying hu,MapKept.run_getObj_map hb,yl hkt c2,hf,sD hz]
      |some jv=>
       rw [hfi] at hf
       simp [execOp,hop,hy,e2,Instr.lookup,run_underlying hu,MapKept.run_getObj_map hb,yl hkt c2,hf]
   ·exact trivial
  ·exact trivial
 ·exact trivial
theorem ik {es:Array MapEntry} {x:MapEntry} {i:Nat} {e:MapEntry} (h:es[i]?=some e):(es.push x)[i]?=some e:=by
 have:=(Array.getElem?_eq_some_iff.1 h).1
 rw [Array.getElem?_push,if_neg (by omega)]
 exact h
theorem vV {es:Array MapEntry} {m i:Nat} {f:MapEntry→MapEntry} {e:MapEntry} (h:es[i]?=some e):(es.modify m f)[i]?=some (if i=m then f e else e):=by
 rw [Array.getElem?_modify]
 by_cases q:m=i
 ·rw [if_pos q,h,if_pos q.symm];rfl
 ·rw [if_neg q,h,if_neg (fun e=>q e.symm)]
theorem eV {es:Array MapEntry} {m i:Nat} {key val:Value} {e:MapEntry} (h:es[i]?=some e) (hk:i=m→key=e.key):∃e':MapEntry,(es.modify m (fun e=>{ e with key:=key,val:=val }))[i]?=some e'∧e'.key=e.key:=by
 refine ⟨_,vV h,?_⟩
 by_cases q:i=m
 ·rw [if_pos q];exact hk q
 ·rw [if_neg q]
theorem kY {w:World} {b:Nat} {es es':Array MapEntry} {ck ck':Nat} (hb:w.heap[b]?=some (.map es ck)) (hlt:b<w.heap.size) (hk:∀(i:Nat) (e:MapEntry),es[i]?=some e→∃e':MapEntry,es'[i]?=some e'∧e'.key=e.key):pX w { w with heap:=w.heap.setIfInBounds b (.map es' ck') }:=by
 intro g fs c hg
 by_cases e:g=b
 ·subst e
  rw [hb] at hg
  obtain ⟨rfl,rfl⟩:=hg
  exact ⟨es',ck',by simp [hlt],hk⟩
 ·exact ⟨fs,c,by simp only [Array.getElem?_setIfInBounds_ne (Ne.symm e)];exact hg,fun i e he=>⟨e,he,rfl⟩⟩
theorem YZ {kt:KT} {m x v:XA} {p q u:Operand} {t kk e:TypeId} (hop:o.op=.mapUpdate t p q u) (h1:okA p m=true) (h2:okA q x=true) (h3:okA u v=true) (hu:P.underlying t=some (.map kk e)) (hkt:qk P kk kt=true) :
  (cy kt H (evT tm m) (evT tm x) (evT tm v)).all (fun d t wr g=>Stp P o (m.reads++(x.reads++v.reads)) tm H gen d t wr g) (fun _ _=>False):=by
 unfold cy
 split
 ·rename_i k n hm
  unfold Yv
  split
  ·rename_i key val hkey hval
   unfold Yc
   split
   ·rename_i ob hob
    rintro ⟨i1,i2⟩ ⟨c1,c2⟩
    intro Γ K H' a w Q next hI ht hr hf hg0 hnext
    have r1:=zb (zm hr) h1
    have r2:=zb (zm (zh hr)) h2
    have r3:=zb (zh (zh hr)) h3
    rw [hm] at r1
    rw [hval] at r3
    have e2:=qy r2 hkey
    have e3:=zq r3
    have hH:=ht k (by simp)
    rw [hob] at hH
    generalize hy:a.eval p=yv at r1
    cases r1 with
    |mp hreal=>
     rcases hI.obj k ob hH with ⟨q1,_⟩|⟨q1,cs,tt,frz,nfz,q3,_⟩|⟨q1,q2,es,ck,q3,q4⟩
     ·exact absurd (i1▸hreal) q1
     ·have:=nfz.2
      omega
     ·have q4:ob.xs=es.toList.map uk:=q4.resolve_right (by rintro ⟨z',s',r',e',_⟩;rw [e'] at c1;simp [uu] at c1)
      rw [q4] at c1
      have hf:=wC (w:=w) hkt c2 es.toList (s8 c1)
      have hb:w.heap[K.μ n]?=some (.map es ck):=by rw [←i1];exact q3
      have hres:∃es' ck',(execOp a.eval o).run P w=.ok .skip { w with heap:=w.heap.setIfInBounds (K.μ n) (.map es' ck') }∧es'.toList.map uk=su (es.toList.map uk) key val∧(∀(i:Nat) (e:MapEntry),es[i]?=some e→∃e':MapEntry,es'[i]?=some e'∧e'.key=e.key):=by
       cases hfi:vz es.toList key 0 with
       |none=>
        rw [hfi] at hf
        refine ⟨es.push ⟨key,val,ck⟩,ck+1,?_,?_,fun i e he=>⟨e,ik he,rfl⟩⟩
        ·simp [execOp,hop,hy,e2,e3,Instr.mapUpdate,run_underlying hu,MapKept.run_getObj_map hb,yl hkt c2,hf,MapKept.run_setObj_map _ hb]
        ·rw [kV _ 0 hfi]
         simp [uk]
       |some jv=>
        obtain ⟨j,v0⟩:=jv
        rw [hfi] at hf
        obtain ⟨mm,e0,g1,g2,g3,g4⟩:=kG (v:=val) es.toList 0 j v0 hfi
        have g1':mm=j:=by omega
        subst g1'
        have hke:e0.key=key:=(uv c2 (s8 c1 e0 (List.mem_of_getElem? g2)) g3).symm
        have hg:es[mm]?=some e0:=by simpa using g2
        refine ⟨es.modify mm (fun e=>{ e with key:=key,val:=val }),ck,?_,?_,fun i e he=>eV he (fun q=>by subst q;rw [hg] at he;rw [←Option.some.inj he];exact hke.symm)⟩
        ·simp [execOp,hop,hy,e2,e3,Instr.mapUpdate,run_underlying hu,MapKept.run_getObj_map hb,yl hkt c2,hf,hg,hke,Instr.keyThatStays,od c2,MapKept.run_setObj_map _ hb]
        ·rw [g4 hke,Array.toList_modify]
      obtain ⟨es',ck',hrun,hes,hkeys⟩:=hres
      have hlt:=hI.lt _ hreal
      have hoth:∀g,g≠K.μ n→({ w with heap:=w.heap.setIfInBounds (K.μ n) (.map es' ck') }:World).heap[g]?=w.heap[g]?:=fun g hg=>by simp [Ne.symm hg]
      have hM:yF K w K { w with heap:=w.heap.setIfInBounds (K.μ n) (.map es' ck') }:=by
       refine ⟨⟨rfl,rfl,rfl,by simp,fun g hg hW=>hoth g (fun e=>hW ?_),fun g cs t fr hh=>?_,?_⟩,fun n h=>⟨h,rfl⟩,fun g _ h=>h⟩
       ·rw [e,←i1]
        exact (hI.own k ob hH q1).1
       ·by_cases e:g=K.μ n
        ·rw [e,hb] at hh;cases hh
        ·exact ⟨cs,fr,by rw [hoth g e];exact hh,rfl⟩
       ·exact kY hb hlt hkeys
      have hw:=sc hI hH q1 hM (by rw [i1];exact hoth) (xs:=su ob.xs key val) (.inr (.inr ⟨q1,i2,es',ck',by
       show (w.heap.setIfInBounds (K.μ n) (.map es' ck'))[K.μ ob.n]?=_
       rw [i1]
       simp [hlt],.inl (by rw [hes,q4])⟩))
      refine mF hrun (hnext K _ undef hM ?_ (.v undef) (fun n h=>.inl h))
      rw [yI]
      rw [i2] at hw
      exact hw
   ·exact trivial
  ·exact trivial
 ·exact trivial
theorem ZY {kt:KT} {x:XA} {p:Operand} {t kk e:TypeId} {c:Call} (hop:o.op=.call c) (hc:c.callee=.builtin .len) (ha:c.args = #[p]) (hat:c.argTypes = #[t]) (h1:okA p x=true) (hu:P.underlying t=some (.map kk e)) :
  (dF kt H (evT tm x)).all (fun d t wr g=>Stp P o x.reads tm H gen d t wr g) (fun _ _=>False):=by
 unfold dF
 split
 ·rename_i k n hm
  unfold Yo
  split
  ·rename_i ob hob
   rintro ⟨i1,i2,c1⟩
   refine Stp.read fun Γ K H' a w hI ht hr=>?_
   have r1:=zb hr h1
   rw [hm] at r1
   have hH:=ht k (by simp)
   rw [hob] at hH
   generalize hy:a.eval p=yv at r1
   cases r1 with
   |mp hreal=>
    rcases hI.obj k ob hH with ⟨q1,_⟩|⟨q1,cs,tt,frz,nfz,q3,_⟩|⟨q1,q2,es,ck,q3,q4⟩
    ·exact absurd (i1▸hreal) q1
    ·have:=nfz.2
     omega
    ·have hb:w.heap[K.μ n]?=some (.map es ck):=by rw [←i1];exact q3
     have q4:ob.xs=es.toList.map uk:=q4.resolve_right (by rintro ⟨z',s',r',e',_⟩;rw [e'] at c1;simp [uu] at c1)
     refine ⟨.int .i64 (ob.xs.length:Nat),?_,.v _⟩
     rw [q4]
     simp [execOp,hop,resolve,hc,ha,hat,hy,invoke,builtin,Builtin.len_,run_underlying hu,MapKept.run_getObj_map hb,goInt]
  ·exact trivial
 ·exact trivial
theorem nz:∀ {ks ks':List IntKind} {xs ys:List Value},yU ks xs=true→yU ks ys=true→yU ks' xs=true→yU ks' ys=true
 |[],ks',[],[],_,_,h=>h
 |[],_,_::_,_,h,_,_=>by simp [yU] at h
 |[],_,[],_::_,_,h,_=>by simp [yU] at h
 |_::_,_,[],_,h,_,_=>by simp [yU] at h
 |_::_,_,_::_,[],_,h,_=>by simp [yU] at h
 |_::_,[],x::_,_::_,_,_,h=>by simp [yU] at h
 |k::ks,k'::ks',x::xs,y::ys,h1,h2,h3=>by
  obtain ⟨a,ha⟩:=(xO h1).2 0 k rfl
  obtain ⟨b,hb⟩:=(xO h2).2 0 k rfl
  simp at ha hb
  subst ha hb
  simp only [yU,xC] at h1 h2 h3 ⊢
  exact ⟨h3.1,nz h1.2 h2.2 h3.2⟩
theorem ur {kt kt':KT} {s key:Value} (h1:zC kt s=true) (h2:zC kt key=true) (h3:zC kt' s=true):zC kt' key=true:=by
 cases kt with
 |one k=>
  cases s<;>simp only [zC,Bool.false_eq_true] at h1
  cases key<;>simp only [zC,Bool.false_eq_true] at h2
  cases kt' with
  |one k'=>
   simp only [zC] at h3 ⊢
   rw [←yG h2,yG h1];exact h3
  |cells ks'=>simp [zC] at h3
 |cells ks=>
  cases s<;>simp only [zC,Bool.false_eq_true] at h1
  cases key<;>simp only [zC,Bool.false_eq_true] at h2
  cases kt' with
  |one k'=>simp [zC] at h3
  |cells ks'=>
   simp only [zC] at h3 ⊢
   exact nz h1 h2 h3
theorem rU {kt:KT} {a:Value} (h:zC kt a=true):xM a a=true:=by
 cases kt with
 |one k=>cases a<;>simp_all [zC,xM]
 |cells ks=>
  cases a<;>simp only [zC,Bool.false_eq_true] at h
  simp only [xM]
  exact (rp h h).1.2 (fun i k a b q1 q2 q3=>by rw [q2] at q3;injection q3 with q3;injection q3)
theorem wW {kt:KT} {k:Value} (hk:zC kt k=true):∀(l:List MapEntry) (i:Nat),(∀e∈l,zC kt e.key=true)→
  (∃m e,vz l k i=some (i+m,e.val)∧l[m]?=some e∧e.key=k)∨(vz l k i=none∧∀e∈l,e.key≠k)
 |[],i,_=>.inr ⟨rfl,fun e he=>by simp at he⟩
 |e::l,i,h=>by
  by_cases hq:xM k e.key=true
  ·exact .inl ⟨0,e,by simp [vz,hq],rfl,(uv hk (h e (by simp)) hq).symm⟩
  ·have hne:e.key≠k:=fun q=>hq (by rw [q];exact rU hk)
   rcases wW hk l (i+1) (fun e he=>h e (by simp [he])) with ⟨m,e',h1,h2,h3⟩|⟨h1,h2⟩
   ·exact .inl ⟨m+1,e',by simp [vz,hq,h1];omega,by simpa using h2,h3⟩
   ·refine .inr ⟨by simp [vz,hq,h1],fun x hx=>?_⟩
    rcases List.mem_cons.1 hx with rfl|hx
    ·exact hne
    ·exact h2 x hx
theorem mw {kt:KT} {key key' v:Value} (hk:zC kt key=true) (hk':zC kt key'=true):∀(r:List (List DV)),(∀x∈r,∃a b,x=[.v a,.v b]∧zC kt a=true)→vE (su r key v) key'=if xM key' key then some v else vE r key'
 |[],_=>by simp [su,vE]
 |x::r,h=>by
  obtain ⟨a,b,rfl,ha⟩:=h x (by simp)
  have ih:=mw (v:=v) hk hk' r (fun x hx=>h x (by simp [hx]))
  simp only [su]
  by_cases h1:xM key a=true
  ·have e1:=uv hk ha h1
   subst e1
   simp only [h1,if_true,vE]
   by_cases h2:xM key' key=true
   ·simp [h2]
   ·simp [h2]
  ·simp only [h1,vE]
   by_cases h2:xM key' a=true
   ·have e2:=uv hk' ha h2
    subst e2
    have h3:¬xM key' key=true:=fun q=>h1 (by rw [uv hk' hk q];exact rU hk)
    simp [vE,h2,h3]
   ·simp [vE,h2,ih]
theorem ki {p:Value→Prop} {key v:Value} (hk:p key):∀(r:List (List DV)),(∀x∈r,∃a b,x=[.v a,.v b]∧p a)→∀x∈su r key v,∃a b,x=[.v a,.v b]∧p a
 |[],_,x,hx=>by
  simp [su] at hx
  exact ⟨key,v,hx,hk⟩
 |y::r,h,x,hx=>by
  obtain ⟨a,b,rfl,ha⟩:=h y (by simp)
  simp only [su] at hx
  split at hx
  ·rcases List.mem_cons.1 hx with rfl|hx
   ·exact ⟨a,v,rfl,ha⟩
   ·exact h x (by simp [hx])
  ·rcases List.mem_cons.1 hx with rfl|hx
   ·exact ⟨a,b,rfl,ha⟩
   ·exact ki hk r (fun x hx=>h x (by simp [hx])) x hx
theorem ja {k:Nat} {t:TypeId} {r:Option Operand} {z s:Value} (hop:o.op=.makeMap t r) (hr0:r=none) :
  Stp P o [] tm H gen (.mp k gen) [k] [(k,some ⟨gen,0,[[.bl,.v z,.v s]]⟩)] 1:=by
 intro Γ K H' a w Q next hI ht hr hf hg0 hnext
 have hg:¬K.dom gen:=hf gen (Nat.le_refl _) (by omega)
 subst hr0
 refine yi (v:=.map (some w.heap.size)) (w':=w.alloc (.map #[] 0)) ?_ (hnext (K.add gen w.heap.size) _ _ (x6 _ (fun h=>hg (hI.dr _ h))) ?_ ?_ ?_)
 ·simp [execOp,hop,Instr.makeMap]
 ·rw [yI]
  exact lF hI hg hg0 (.inr (.inr ⟨.inr rfl,rfl,#[],0,by simp only [Kr.add,if_true];exact xD w _,.inr ⟨z,s,[],rfl,⟨fun e he=>by simp at he,fun x hx=>by simp at hx,fun _ _ _ _=>rfl,fun i e he=>by simp at he,rfl,fun i j e e' he=>by simp at he⟩⟩⟩))
 ·have:ze (K.add gen w.heap.size) (w.alloc (.map #[] 0)) (.mp k gen) (.map (some ((K.add gen w.heap.size).μ gen))):=.mp (.inr rfl)
  simpa [Kr.add] using this
 ·intro m hm
  rcases hm with h|h
  ·exact .inl h
  ·exact .inr (by omega)
theorem mZ {Γ:Gm} {K:Kr} {H':Nat→Option zj} {w:World} (hI:Inv Γ K H' w) {k:Nat} {ob:zj} (hH:H' k=some ob) (hreal:K.real ob.n) (hsz:ob.sz=0) {z s:Value} {r:List (List DV)} (hx:ob.xs=[.bl,.v z,.v s]::r) :
  ∃es ck,w.heap[K.μ ob.n]?=some (.map es ck)∧YR z s r es ck:=by
 rcases hI.obj k ob hH with ⟨q1,_⟩|⟨q1,cs,tt,frz,nfz,q3,_⟩|⟨q1,q2,es,ck,q3,q4⟩
 ·exact absurd hreal q1
 ·have:=nfz.2
  omega
 ·refine ⟨es,ck,q3,?_⟩
  rcases q4 with q4|⟨z',s',r',e',hl⟩
  ·exfalso
   rw [hx] at q4
   cases hes:es.toList with
   |nil=>rw [hes] at q4;simp at q4
   |cons e l=>rw [hes] at q4;simp [uk] at q4
  ·rw [hx] at e'
   simp only [List.cons.injEq,DV.v.injEq,and_true,true_and] at e'
   obtain ⟨⟨rfl,rfl⟩,rfl⟩:=e'
   exact hl
theorem aN {kt:KT} {z:Value} {m x:XA} {p q:Operand} {t kk e:TypeId} (hop:o.op=.lookup t p q false) (h1:okA p m=true) (h2:okA q x=true) (hu:P.underlying t=some (.map kk e)) (hkt:qk P kk kt=true) (hz:uy P e z=true) :
  (jW kt z H (evT tm m) (evT tm x)).all (fun d t wr g=>Stp P o (m.reads++x.reads) tm H gen d t wr g) (fun _ _=>False):=by
 unfold jW
 split
 ·rename_i k n hm
  unfold di
  split
  ·rename_i key hkey
   unfold dj
   split
   ·rename_i ob hob
    rintro ⟨i1,i2⟩
    unfold fY
    split
    ·rename_i z' s' r' hxs
     rintro ⟨c0,c1,c2⟩
     refine Stp.read fun Γ K H' a w hI ht hr=>?_
     have r1:=zb (zm hr) h1
     have r2:=zb (zh hr) h2
     rw [hm] at r1
     have e2:=qy r2 hkey
     have hH:=ht k (by simp)
     rw [hob] at hH
     generalize hy:a.eval p=yv at r1
     cases r1 with
     |mp hreal=>
      obtain ⟨es,ck,hb,hl⟩:=mZ hI hH (by rw [i1];exact hreal) i2 hxs
      rw [i1] at hb
      have hf:=wC (w:=w) hkt c2 es.toList (fun e he=>hl.like e he kt c1)
      refine ⟨(vE r' key).getD z,?_,.v _⟩
      rw [c0] at hl
      rw [hl.val kt key c1 c2]
      cases hfi:vz es.toList key 0 with
      |none=>
       rw [hfi] at hf
       simp [execOp,hop,hy,e2,Instr.lookup,run_underlying hu,MapKept.run_getObj_map hb,yl hkt c2,hf,sD hz]
      |some jv=>
       rw [hfi] at hf
       simp [execOp,hop,hy,e2,Instr.lookup,run_underlying hu,MapKept.run_getObj_map hb,yl hkt c2,hf]
    ·exact trivial
   ·exact trivial
  ·exact trivial
 ·exact trivial
theorem mB {Γ:Gm} {K:Kr} {H':Nat→Option zj} {w:World} (hI:Inv Γ K H' w) {k:Nat} {ob:zj} (hH:H' k=some ob) (hreal:K.real ob.n) (hsz:ob.sz=0) {es es':Array MapEntry} {ck ck':Nat} (hb:w.heap[K.μ ob.n]?=some (.map es ck))
  (hk:∀(i:Nat) (e:MapEntry),es[i]?=some e→∃e':MapEntry,es'[i]?=some e'∧e'.key=e.key) {xs:List (List DV)} (hx:xs=es'.toList.map uk∨∃z s r,xs=[.bl,.v z,.v s]::r∧YR z s r es' ck') :
  yF K w K { w with heap:=w.heap.setIfInBounds (K.μ ob.n) (.map es' ck') }∧Inv Γ K (fun j=>if j=k then some ⟨ob.n,ob.sz,xs⟩ else H' j) { w with heap:=w.heap.setIfInBounds (K.μ ob.n) (.map es' ck') }∧({ w with heap:=w.heap.setIfInBounds (K.μ ob.n) (.map es' ck') }:World).heap[K.μ ob.n]?=some (.map es' ck'):=by
 have hlt:=hI.lt _ hreal
 have hnew:({ w with heap:=w.heap.setIfInBounds (K.μ ob.n) (.map es' ck') }:World).heap[K.μ ob.n]?=some (.map es' ck'):=by simp [hlt]
 have hoth:∀g,g≠K.μ ob.n→({ w with heap:=w.heap.setIfInBounds (K.μ ob.n) (.map es' ck') }:World).heap[g]?=w.heap[g]?:=fun g hg=>by simp [Ne.symm hg]
 have hM:yF K w K { w with heap:=w.heap.setIfInBounds (K.μ ob.n) (.map es' ck') }:=by
  refine ⟨⟨rfl,rfl,rfl,by simp,fun g hg hW=>hoth g (fun e=>hW ?_),fun g cs t fr hh=>?_,kY hb hlt hk⟩,fun n h=>⟨h,rfl⟩,fun g _ h=>h⟩
  ·rw [e]
   exact (hI.own k ob hH hreal).1
  ·by_cases e:g=K.μ ob.n
   ·rw [e,hb] at hh;cases hh
   ·exact ⟨cs,fr,by rw [hoth g e];exact hh,rfl⟩
 exact ⟨hM,sc hI hH hreal hM hoth (.inr (.inr ⟨hreal,hsz,es',ck',hnew,hx⟩)),hnew⟩
theorem eK {kt:KT} {z:Value} {m x:XA} {p q:Operand} {t kk e:TypeId} (hop:o.op=.mapEntry t p q) (h1:okA p m=true) (h2:okA q x=true) (hu:P.underlying t=some (.map kk e)) (hkt:qk P kk kt=true) (hz:uy P e z=true) :
  (j7 kt z H (evT tm m) (evT tm x)).all (fun d t wr g=>Stp P o (m.reads++x.reads) tm H gen d t wr g) (fun _ _=>False):=by
 unfold j7
 split
 ·rename_i k n hm
  unfold eg
  split
  ·rename_i key hkey
   unfold du
   split
   ·rename_i ob hob
    rintro ⟨i1,i2⟩
    unfold dq
    split
    ·rename_i z' s' r' hxs
     rintro ⟨c0,c1,c2⟩
     subst c0
     intro Γ K H' a w Q next hI ht hr hf hg0 hnext
     have r1:=zb (zm hr) h1
     have r2:=zb (zh hr) h2
     rw [hm] at r1
     have e2:=qy r2 hkey
     have hH:=ht k (by simp)
     rw [hob] at hH
     generalize hy:a.eval p=yv at r1
     cases r1 with
     |mp hreal=>
      subst i1
      obtain ⟨es,ck,hb,hl⟩:=mZ hI hH hreal i2 hxs
      have hlk:∀e∈es.toList,zC kt e.key=true:=fun e he=>hl.like e he kt c1
      have hf:=wC (w:=w) hkt c2 es.toList hlk
      have hself:∀(f:Nat→Option zj),f k=some ob→(fun j=>if j=k then some (⟨ob.n,ob.sz,ob.xs⟩:zj) else f j)=f:=fun f hf=>by
       funext j
       by_cases e:j=k
       ·rw [if_pos e,e,hf]
       ·rw [if_neg e]
      rcases wW c2 es.toList 0 hlk with ⟨mm,e0,g1,g2,g3⟩|⟨g1,g2⟩
      ·rw [g1,Nat.zero_add] at hf
       have hg:es[mm]?=some e0:=by simpa using g2
       have hsame:es.modify mm (fun e=>{ e with key:=key })=es:=by
        apply Array.ext_getElem?
        intro i
        cases hi:es[i]? with
        |none=>simpa using hi
        |some e1=>
         rw [vV hi]
         by_cases q:i=mm
         ·subst q
          rw [hg] at hi
          obtain rfl:=Option.some.inj hi
          rw [if_pos rfl,←g3]
         ·rw [if_neg q]
       have hb0:((es[mm]?).map (·.born)).getD 0=mm:=by rw [hg];exact hl.born mm e0 hg
       have hk0:((es[mm]?).map (·.key)).getD key=key:=by rw [hg];exact g3
       have hrun:(execOp a.eval o).run P w=.ok (.value (.tuple #[e0.val,goInt mm])) { w with heap:=w.heap.setIfInBounds (K.μ ob.n) (.map es ck) }:=by
        simp [execOp,hop,hy,e2,Instr.mapEntry,run_underlying hu,MapKept.run_getObj_map hb,yl hkt c2,hf,hg,g3,hl.born mm e0 hg,Instr.keyThatStays,od c2,MapKept.run_setObj_map _ hb,hsame]
       obtain ⟨hM,hIn,hnew⟩:=mB hI hH hreal i2 hb (es':=es) (ck':=ck) (fun i e he=>⟨e,he,rfl⟩) (xs:=ob.xs) (.inr ⟨_,_,_,hxs,hl⟩)
       rw [hself H' hH] at hIn
       refine yi hrun (hnext K _ _ hM hIn ?_ (fun n h=>.inl h))
       refine .tup rfl fun i d c hd hc=>?_
       match i,hd,hc with
       |0,hd,hc=>simp at hd;rw [←hd];exact .any c
       |1,hd,hc=>simp at hd hc;rw [←hd,←hc];exact .stamp hreal ⟨es,ck,e0,hnew,hg,g3⟩
       |i+2,hd,hc=>simp at hd
      ·rw [g1] at hf
       have hrun:(execOp a.eval o).run P w=.ok (.value (.tuple #[z',goInt ck])) { w with heap:=w.heap.setIfInBounds (K.μ ob.n) (.map (es.push ⟨key,z',ck⟩) (ck+1)) }:=by
        simp [execOp,hop,hy,e2,Instr.mapEntry,run_underlying hu,MapKept.run_getObj_map hb,yl hkt c2,hf,sD hz,MapKept.run_setObj_map _ hb]
       have hat:∀(i:Nat) (e:MapEntry),(es.push ⟨key,z',ck⟩)[i]?=some e→es[i]?=some e∨(i=es.size∧e=⟨key,z',ck⟩):=fun i e he=>by
        rw [Array.getElem?_push] at he
        by_cases q:i=es.size
        ·rw [if_pos q] at he;exact .inr ⟨q,(Option.some.inj he).symm⟩
        ·rw [if_neg q] at he;exact .inl he
       have hlast:(es.push ⟨key,z',ck⟩)[es.size]?=some ⟨key,z',ck⟩:=by rw [Array.getElem?_push,if_pos rfl]
       have hlike:∀e∈(es.push ⟨key,z',ck⟩).toList,∀kt,zC kt s'=true→zC kt e.key=true:=fun e he kt' hkt'=>by
        rw [Array.toList_push] at he
        rcases List.mem_append.1 he with he|he
        ·exact hl.like e he kt' hkt'
        ·simp at he
         rw [he]
         exact ur c1 c2 hkt'
       have hl':YR z' s' r' (es.push ⟨key,z',ck⟩) (ck+1):=by
        refine ⟨hlike,hl.rows,fun kt' key' k1 k2=>?_,fun i e he=>?_,by rw [hl.clock];simp,fun i j e e' h1 h2 h3=>?_⟩
        ·rw [hl.val kt' key' k1 k2]
         rcases wW k2 es.toList 0 (fun e he=>hl.like e he kt' k1) with ⟨m1,e1,f1,f2,f3⟩|⟨f1,f2⟩<;>rcases wW k2 (es.push ⟨key,z',ck⟩).toList 0 (fun e he=>hlike e he kt' k1) with ⟨m2,e2,f4,f5,f6⟩|⟨f4,f5⟩
         ·rw [f1,f4]
          have f5':(es.push ⟨key,z',ck⟩)[m2]?=some e2:=by rw [Array.getElem?_toList] at f5;exact f5
          have f2':es[m1]?=some e1:=by simpa using f2
          rcases hat m2 e2 f5' with h|⟨_,rfl⟩
          ·have:=hl.apart m1 m2 e1 e2 f2' h (f3.trans f6.symm)
           subst this
           rw [f2'] at h
           rw [Option.some.inj h]
          ·exact absurd (f3.trans f6.symm) (g2 e1 (List.mem_of_getElem? f2))
         ·exact absurd f3 (f5 e1 (by rw [Array.toList_push];exact List.mem_append.2 (.inl (List.mem_of_getElem? f2))))
         ·rw [f1,f4]
          have f5':(es.push ⟨key,z',ck⟩)[m2]?=some e2:=by rw [Array.getElem?_toList] at f5;exact f5
          rcases hat m2 e2 f5' with h|⟨_,rfl⟩
          ·exact absurd f6 (f2 e2 (by simpa using Array.mem_of_getElem? h))
          ·rfl
         ·rw [f1,f4]
        ·rcases hat i e he with h|⟨h,rfl⟩
         ·exact hl.born i e h
         ·rw [h];exact hl.clock
        ·rcases hat i e h1 with a1|⟨a1,rfl⟩<;>rcases hat j e' h2 with a2|⟨a2,rfl⟩
         ·exact hl.apart i j e e' a1 a2 h3
         ·exact absurd h3 (g2 e (by simpa using Array.mem_of_getElem? a1))
         ·exact absurd h3.symm (g2 e' (by simpa using Array.mem_of_getElem? a2))
         ·rw [a1,a2]
       obtain ⟨hM,hIn,hnew⟩:=mB hI hH hreal i2 hb (fun i e he=>⟨e,ik he,rfl⟩) (xs:=ob.xs) (.inr ⟨_,_,_,hxs,hl'⟩)
       rw [hself H' hH] at hIn
       refine yi hrun (hnext K _ _ hM hIn ?_ (fun n h=>.inl h))
       refine .tup rfl fun i d c hd hc=>?_
       match i,hd,hc with
       |0,hd,hc=>simp at hd;rw [←hd];exact .any c
       |1,hd,hc=>simp at hd hc;rw [←hd,←hc,hl.clock];exact .stamp hreal ⟨_,_,_,by rw [hl.clock] at hnew;exact hnew,by rw [hl.clock] at hlast;exact hlast,rfl⟩
       |i+2,hd,hc=>simp at hd
    ·exact trivial
   ·exact trivial
  ·exact trivial
 ·exact trivial
theorem jH {es:Array MapEntry} {i:Nat} {e:MapEntry} (hb:∀(i:Nat) (e:MapEntry),es[i]?=some e→e.born=i) (h:es[i]?=some e):es.findIdx? (fun e=>(e.born:Int) == (i:Int))=some i:=by
 obtain ⟨hi,he⟩:=Array.getElem?_eq_some_iff.1 h
 refine Array.findIdx?_eq_some_iff_getElem.2 ⟨hi,?_,fun j hj=>?_⟩
 ·simp [hb i _ (Array.getElem?_eq_getElem hi)]
 ·have:=hb j _ (Array.getElem?_eq_getElem (by omega:j<es.size))
  simp only [this]
  simp
  omega
theorem fm {kt:KT} {m x v:XA} {p q u:Operand} {t:TypeId} (hop:o.op=.entryStore t p q u) (h1:okA p m=true) (h2:okA q x=true) (h3:okA u v=true) :
  (cV kt H (evT tm m) (evT tm x) (evT tm v)).all (fun d t wr g=>Stp P o (m.reads++(x.reads++v.reads)) tm H gen d t wr g) (fun _ _=>False):=by
 unfold cV
 split
 ·rename_i k n n' key val hm hx hv
  rintro rfl
  unfold Y7
  split
  ·rename_i ob hob
   rintro ⟨i1,i2⟩
   unfold ZO
   split
   ·rename_i z' s' r' hxs
    rintro ⟨c1,c2⟩
    intro Γ K H' a w Q next hI ht hr hf hg0 hnext
    have r1:=zb (zm hr) h1
    have r2:=zb (zm (zh hr)) h2
    have r3:=zb (zh (zh hr)) h3
    rw [hm] at r1
    rw [hx] at r2
    rw [hv] at r3
    have e3:=zq r3
    have hH:=ht k (by simp)
    rw [hob] at hH
    subst i1
    generalize hy:a.eval p=yv at r1
    generalize hy2:a.eval q=yv2 at r2
    cases r1 with
    |mp hreal=>
     cases r2 with
     |@stamp _ i _ _ hst=>
      obtain ⟨es,ck,hb,hl⟩:=mZ hI hH hreal i2 hxs
      obtain ⟨es0,ck0,e0,hb0,hg,hk0⟩:=hst
      rw [hb] at hb0
      obtain ⟨rfl,rfl⟩:=hb0
      have hidx:=jH hl.born hg
      have hrun:(execOp a.eval o).run P w=.ok .skip { w with heap:=w.heap.setIfInBounds (K.μ ob.n) (.map (es.modify i (fun e=>{ e with val:=val })) ck) }:=by
       simp [execOp,hop,hy,hy2,e3,Instr.entryStore,MapKept.run_getObj_map hb,asInt,asIntOf,hidx,MapKept.run_setObj_map _ hb]
      have hat:∀(j:Nat) (e:MapEntry),(es.modify i (fun e=>{ e with val:=val }))[j]?=some e→∃e',es[j]?=some e'∧e.key=e'.key∧e.born=e'.born∧e.val=(if j=i then val else e'.val):=fun j e he=>by
       cases hj:es[j]? with
       |none=>
        have:(es.modify i (fun e=>{ e with val:=val }))[j]?=none:=by simpa using hj
        rw [this] at he;cases he
       |some e'=>
        rw [vV hj] at he
        obtain rfl:=Option.some.inj he
        refine ⟨e',rfl,?_⟩
        by_cases q:j=i
        ·rw [if_pos q,if_pos q];exact ⟨rfl,rfl,rfl⟩
        ·rw [if_neg q,if_neg q];exact ⟨rfl,rfl,rfl⟩
      have hlike:∀e∈(es.modify i (fun e=>{ e with val:=val })).toList,∀kt,zC kt s'=true→zC kt e.key=true:=fun e he kt' hkt'=>by
       obtain ⟨j,hj⟩:=List.mem_iff_getElem?.1 he
       obtain ⟨e',q1,q2,_⟩:=hat j e (by rw [Array.getElem?_toList] at hj;exact hj)
       rw [q2]
       exact hl.like e' (by simpa using Array.mem_of_getElem? q1) kt' hkt'
      have hl':YR z' s' (su r' key val) (es.modify i (fun e=>{ e with val:=val })) ck:=by
       refine ⟨hlike,ki (p:=fun a=>∀kt,zC kt s'=true→zC kt a=true) (fun kt' hkt'=>ur c1 c2 hkt') r' hl.rows,fun kt' key' k1 k2=>?_,fun j e he=>?_,by rw [hl.clock];simp,fun j1 j2 e1 e2 h1 h2 h3=>?_⟩
       ·rw [mw (ur c1 c2 k1) k2 r' (fun x hx=>by
         obtain ⟨a,b,q1,q2⟩:=hl.rows x hx
         exact ⟨a,b,q1,q2 kt' k1⟩)]
        have hnew:(es.modify i (fun e=>{ e with val:=val }))[i]?=some { e0 with val:=val }:=by rw [vV hg,if_pos rfl]
        rcases wW k2 (es.modify i (fun e=>{ e with val:=val })).toList 0 (fun e he=>hlike e he kt' k1) with ⟨m2,e2,f4,f5,f6⟩|⟨f4,f5⟩
        ·rw [f4]
         obtain ⟨e',q1,q2,q3,q4⟩:=hat m2 e2 (by rw [Array.getElem?_toList] at f5;exact f5)
         by_cases hq:m2=i
         ·subst hq
          rw [hg] at q1
          obtain rfl:=Option.some.inj q1
          have:key'=key:=by rw [←f6,q2,hk0]
          rw [this,if_pos (rU c2),if_pos rfl] at *
          simp [q4]
         ·have hne:¬xM key' key=true:=fun q=>hq (hl.apart m2 i e' e0 q1 hg (by rw [←q2,f6,hk0];exact uv k2 (ur c1 c2 k1) q))
          rw [if_neg hne,hl.val kt' key' k1 k2]
          rw [if_neg hq] at q4
          rcases wW k2 es.toList 0 (fun e he=>hl.like e he kt' k1) with ⟨m1,e1,f1,f2,f3⟩|⟨f1,f2⟩
          ·have f2':es[m1]?=some e1:=by simpa using f2
           have:=hl.apart m1 m2 e1 e' f2' q1 (by rw [f3,←q2,f6])
           subst this
           rw [f2'] at q1
           obtain rfl:=Option.some.inj q1
           rw [f1]
           simp [q4]
          ·exact absurd (q2.symm.trans f6) (f2 e' (by simpa using Array.mem_of_getElem? q1))
        ·rw [f4]
         have hne:¬xM key' key=true:=fun q=>f5 { e0 with val:=val } (Array.mem_toList_iff.2 (Array.mem_of_getElem? hnew)) (by
          show e0.key=key'
          rw [hk0];exact (uv k2 (ur c1 c2 k1) q).symm)
         rw [if_neg hne,hl.val kt' key' k1 k2]
         rcases wW k2 es.toList 0 (fun e he=>hl.like e he kt' k1) with ⟨m1,e1,f1,f2,f3⟩|⟨f1,f2⟩
         ·exfalso
          have f2':es[m1]?=some e1:=by simpa using f2
          have:=f5 _ (Array.mem_toList_iff.2 (Array.mem_of_getElem? (vV (m:=i) (f:=fun e=>{ e with val:=val }) f2')))
          apply this
          by_cases q:m1=i
          ·rw [if_pos q];exact f3
          ·rw [if_neg q];exact f3
         ·rw [f1]
       ·obtain ⟨e',q1,q2,q3,q4⟩:=hat j e he
        rw [q3]
        exact hl.born j e' q1
       ·obtain ⟨a1,q1,q2,_⟩:=hat j1 e1 h1
        obtain ⟨a2,q3,q4,_⟩:=hat j2 e2 h2
        exact hl.apart j1 j2 a1 a2 q1 q3 (by rw [←q2,←q4];exact h3)
      obtain ⟨hM,hIn,_⟩:=mB hI hH hreal i2 hb (es':=es.modify i (fun e=>{ e with val:=val })) (ck':=ck) (fun j e he=>⟨_,vV he,by
       by_cases q:j=i
       ·rw [if_pos q]
       ·rw [if_neg q]⟩) (xs:=[.bl,.v z',.v s']::su r' key val) (.inr ⟨_,_,_,rfl,hl'⟩)
      refine mF hrun (hnext K _ undef hM ?_ (.v undef) (fun n h=>.inl h))
      rw [yI]
      rw [i2] at hIn
      exact hIn
   ·exact trivial
  ·exact trivial
 ·exact trivial
theorem pR (w:World) (e:TypeId) (s:ByteArray):Lib.bytesWorld w e s=w.drew.alloc (.cells (Lib.bytesCells w e s) e ((Lib.bytesCells w e s).size,(Lib.bytesCells w e s).size+1)):=by
 have hh:(Lib.bytesWorld w e s).heap=(w.drew.alloc (.cells (Lib.bytesCells w e s) e ((Lib.bytesCells w e s).size,(Lib.bytesCells w e s).size+1))).heap:=by
  apply Array.ext_getElem?
  intro j
  rcases Nat.lt_trichotomy j w.heap.size with h|h|h
  ·rw [Lib.bytesWorld_at_old w e s j h]
   exact (RowKit.Below.heap_alloc w.drew _ j h).symm
  ·subst h
   rw [Lib.bytesWorld_at_new]
   exact (xD w.drew _).symm
  ·rw [Array.getElem?_eq_none (by rw [Lib.bytesWorld_size];omega),Array.getElem?_eq_none]
   have:(w.drew.alloc (.cells (Lib.bytesCells w e s) e ((Lib.bytesCells w e s).size,(Lib.bytesCells w e s).size+1))).heap.size=w.heap.size+1:=by
    show (w.heap.push _).size=_
    simp
   omega
 have e1:Lib.bytesWorld w e s={ w.drew with heap:=(Lib.bytesWorld w e s).heap }:=by
  unfold Lib.bytesWorld World.freeze
  rfl
 rw [e1,hh]
 rfl
theorem Yh {k:Nat} {x:XA} {s d el:TypeId} {p:Operand} (hop:o.op=.convert s d p) (h1:okA p x=true) (hs:P.underlying s=some .string) (hd:P.underlying d=some (.slice el)) (he:P.underlying el=some (.int .u8)) :
  (dU k gen (evT tm x)).all (fun d t wr g=>Stp P o x.reads tm H gen d t wr g) (fun _ _=>False):=by
 unfold dU
 split
 ·rename_i b hx
  intro Γ K H' a w Q next hI ht hr hf hg0 hnext
  have hg:¬K.dom gen:=hf gen (Nat.le_refl _) (by omega)
  have r1:=zb hr h1
  rw [hx] at r1
  have e1:=zq r1
  have hrun:=Lib.run_convert_string_bytes (P:=P) w s d el b hs hd he
  rw [pR] at hrun
  have hd:yF K w K w.drew:=⟨Ext.heap_eq rfl rfl rfl rfl,fun n h=>⟨h,rfl⟩,fun g _ h=>h⟩
  have hId:Inv Γ K H' w.drew:=⟨hI.ext.trans (Ext.heap_eq rfl rfl rfl rfl),hI.base,fun k o h=>(hI.obj k o h).mono hd id (fun _=>rfl),hI.inj,hI.dr,hI.lt,hI.dobj,hI.own,hI.gl⟩
  have hcap:=uM w b.size 0 el
  have hsz:(Lib.bytesCells w el b).size=grownCap w b.size 0 el:=by
   have:b.data.size=b.size:=rfl
   simp [Lib.bytesCells]
   omega
  refine yi (v:=.slice (some ⟨w.heap.size,0,none⟩) b.size (grownCap w b.size 0 el)) (w':=w.drew.alloc (.cells (Lib.bytesCells w el b) el ((Lib.bytesCells w el b).size,(Lib.bytesCells w el b).size+1))) (by simp only [execOp,hop,e1,Sem.run_bind,hrun,Result.andThen_ok,Sem.run_pure]) (hnext (K.add gen w.heap.size) _ _ (hd.trans (x6 _ (fun h=>hg (hI.dr _ h)))) ?_ ?_ ?_)
  ·rw [yI]
   refine gH (w:=w.drew) hId (.inr (Nat.le_refl _)) hg hg0 (by omega) (fun h=>absurd rfl h) ?_ (fun y hy=>?_) (fun i y j dd hi hj=>?_)
   ·rw [hsz,Nat.mul_one]
    have:(yp b).length=b.size:=by simp [yp]
    omega
   ·unfold yp at hy
    obtain ⟨c,_,rfl⟩:=List.mem_map.1 hy
    rfl
   ·unfold yp at hi
    rw [List.getElem?_map] at hi
    cases hq:b.data.toList[i]? with
    |none=>rw [hq] at hi;cases hi
    |some c=>
     rw [hq] at hi
     obtain rfl:=Option.some.inj hi
     cases j with
     |succ j=>simp at hj
     |zero=>
      simp at hj
      refine ⟨.int .u8 c.toNat,?_,by rw [←hj];exact .v _⟩
      have hlt:i<b.data.size:=by have:=(List.getElem?_eq_some_iff.1 hq).1;simpa using this
      rw [Nat.mul_one,Nat.add_zero]
      unfold Lib.bytesCells
      rw [Array.getElem?_append_left (by simpa using hlt),Array.getElem?_map]
      have:b.data[i]?=some c:=by simpa using hq
      rw [this]
      rfl
  ·refine .sl hcap (fun h=>by cases h) (.inr ⟨.inr rfl,?_,Lib.bytesCells w el b,el,((Lib.bytesCells w el b).size,(Lib.bytesCells w el b).size+1),?_,?_,fun _=>?_⟩)
   ·simp [Kr.add]
   ·simp only [Kr.add,if_true]
    exact xD w.drew _
   ·rw [hsz];simp
   ·rw [hsz];simp
  ·intro m hm
   rcases hm with h|h
   ·exact .inl h
   ·exact .inr (by omega)
 ·exact trivial
end
theorem Res.all_mono {φ φ':DV→List Nat→List (Nat×Option zj)→Nat→Prop} {ψ ψ':FuncId→List DV→Prop} (h:∀d t w g,φ d t w g→φ' d t w g) (h2:∀f a,ψ f a→ψ' f a):∀ {r:Res},r.all φ ψ→r.all φ' ψ'
 |.ok d t w g,hr=>h _ _ _ _ hr
 |.ite t x y,hr=>⟨fun ht=>Res.all_mono h h2 (hr.1 ht),fun ht=>Res.all_mono h h2 (hr.2 ht)⟩
 |.need p x,hr=>fun hp=>Res.all_mono h h2 (hr hp)
 |.alt x y,hr=>⟨Res.all_mono h h2 hr.1,Res.all_mono h h2 hr.2⟩
 |.call f a,hr=>h2 _ _ hr
 |.bad,_=>trivial
section
variable {P:Program} {o:Oper} {tm:Env} {H:HL} {gen:Nat}
theorem aK {x:XO} {st:St} (h:okO P o.op x=true):(ex1 st x).all (fun d t wr g=>Stp P o x.reads st.tm st.H st.gen d t wr g) (fun f ds=>wL P o x.reads st.tm f ds):=by
 have up:∀ {r:Res},r.all (fun d t wr g=>Stp P o x.reads st.tm st.H st.gen d t wr g) (fun _ _=>False)→r.all (fun d t wr g=>Stp P o x.reads st.tm st.H st.gen d t wr g) (fun f ds=>wL P o x.reads st.tm f ds):=
  fun hr=>Res.all_mono (fun _ _ _ _ h=>h) (fun _ _ h=>h.elim) hr
 cases x with
 |makeMap k=>
  simp only [okO] at h
  split at h
  ·rename_i t r hop;exact iz hop (by simpa using h)
  ·cases h
 |mget kt z b i=>
  simp only [okO] at h
  split at h
  ·rename_i t a q ok hop
   simp only [Bool.and_eq_true,Bool.not_eq_true'] at h
   obtain ⟨⟨⟨h1,h2⟩,rfl⟩,h3⟩:=h
   split at h3
   ·rename_i kk e hu
    simp only [Bool.and_eq_true] at h3
    exact up (YX hop h1 h2 hu h3.1 h3.2)
   ·cases h3
  ·cases h
 |mput kt b i v=>
  simp only [okO] at h
  split at h
  ·rename_i t a q u hop
   simp only [Bool.and_eq_true] at h
   obtain ⟨⟨⟨h1,h2⟩,h3⟩,h4⟩:=h
   split at h4
   ·rename_i kk e hu
    exact up (YZ hop h1 h2 h3 hu h4)
   ·cases h4
  ·cases h
 |makeMapL k kt z s=>
  simp only [okO] at h
  split at h
  ·rename_i t r hop;exact ja hop (by simpa using h)
  ·cases h
 |mgetL kt z b i=>
  simp only [okO] at h
  split at h
  ·rename_i t a q ok hop
   simp only [Bool.and_eq_true,Bool.not_eq_true'] at h
   obtain ⟨⟨⟨h1,h2⟩,rfl⟩,h3⟩:=h
   split at h3
   ·rename_i kk e hu
    simp only [Bool.and_eq_true] at h3
    exact up (aN hop h1 h2 hu h3.1 h3.2)
   ·cases h3
  ·cases h
 |mentry kt z b i=>
  simp only [okO] at h
  split at h
  ·rename_i t a q hop
   simp only [Bool.and_eq_true] at h
   obtain ⟨⟨h1,h2⟩,h3⟩:=h
   split at h3
   ·rename_i kk e hu
    simp only [Bool.and_eq_true] at h3
    exact up (eK hop h1 h2 hu h3.1 h3.2)
   ·cases h3
  ·cases h
 |estore kt b i v=>
  simp only [okO] at h
  split at h
  ·rename_i t a q u hop
   simp only [Bool.and_eq_true] at h
   exact up (fm hop h.1.1 h.1.2 h.2)
  ·cases h
 |mlen _ b=>
  simp only [okO] at h
  split at h
  ·rename_i c hop
   simp only [Bool.and_eq_true] at h
   obtain ⟨h1,h2⟩:=h
   split at h1
   ·rename_i hc
    split at h2
    ·rename_i a t ha hat
     simp only [Bool.and_eq_true] at h2
     obtain ⟨h2,h3⟩:=h2
     split at h3
     ·rename_i kk e hu
      exact up (ZY hop hc (Array.ext' ha) (Array.ext' hat) h2 hu)
     ·cases h3
    ·cases h2
   ·cases h1
  ·cases h
 |s2bO k b=>
  simp only [okO] at h
  split at h
  ·rename_i s d a hop
   simp only [Bool.and_eq_true] at h
   obtain ⟨⟨h1,h2⟩,h3⟩:=h
   split at h2
   ·rename_i hs
    split at h3
    ·rename_i el hd
     split at h3
     ·rename_i he
      exact up (Yh hop h1 hs hd he)
     ·cases h3
    ·cases h3
   ·cases h2
  ·cases h
 |move b=>
  simp only [okO] at h
  split at h
  ·rename_i a hop;exact iY (.inl hop) h
  ·rename_i a hop;exact iY (.inr hop) h
  ·cases h
 |pick c a b=>
  simp only [okO] at h
  split at h
  ·rename_i c' a' b' hop
   simp only [Bool.and_eq_true] at h
   exact up (ZC hop h.1.1 h.1.2 h.2)
  ·cases h
 |box k n b=>
  simp only [okO] at h
  split at h
  ·rename_i t a hop
   simp only [Bool.and_eq_true] at h
   exact up (V0 hop h.1 h.2)
  ·cases h
 |alloc k zs=>
  simp only [okO] at h
  split at h
  ·rename_i t hop
   simp only [Bool.and_eq_true,decide_eq_true_eq] at h
   exact bW hop h.1 h.2
  ·cases h
 |allocT k zs T=>
  simp only [okO] at h
  split at h
  ·rename_i t hop
   simp only [Bool.and_eq_true,decide_eq_true_eq] at h
   obtain ⟨rfl,h1,h2⟩:=h
   exact fZ hop h1 h2
  ·cases h
 |build zs parts=>
  simp only [okO] at h
  split at h
  ·rename_i t ps hop
   simp only [Bool.and_eq_true] at h
   obtain ⟨⟨h1,h2⟩,h3⟩:=h
   split at h2
   ·rename_i fs hfs
    exact fun hk=>aq hop h1 hfs h2 h3 hk
   ·cases h2
  ·cases h
 |buildSlice k len zs parts full=>
  simp only [okO] at h
  split at h
  ·rename_i t n ps hop
   simp only [Bool.and_eq_true,decide_eq_true_eq] at h
   obtain ⟨⟨h1,h2⟩,h3⟩:=h
   split at h2
   ·rename_i e hu
    simp only [Bool.and_eq_true,decide_eq_true_eq] at h2
    exact fun hk=>nB hop h1 hu h2.1.1 h2.1.2 h2.2 h3 hk
   ·cases h2
  ·cases h
 |load ag n p=>
  simp only [okO] at h
  split at h
  ·rename_i t a hop
   simp only [Bool.and_eq_true,Bool.or_eq_true,decide_eq_true_eq] at h
   exact up (ZM hop h.1.1.1 h.1.1.2 h.1.2 h.2)
  ·cases h
 |store n p b=>
  simp only [okO] at h
  split at h
  ·rename_i t q a hop
   simp only [Bool.and_eq_true] at h
   exact up (aE hop h.1.1 h.1.2 h.2)
  ·cases h
 |nilCheck b=>
  simp only [okO] at h
  split at h
  ·rename_i a hop;exact up (WV hop h)
  ·cases h
 |fieldAddr off p=>
  simp only [okO] at h
  split at h
  ·rename_i t a i hop
   simp only [Bool.and_eq_true] at h
   obtain ⟨h1,h2⟩:=h
   split at h2
   ·rename_i fs hu
    split at h2
    ·rename_i f hf
     simp only [Bool.and_eq_true,decide_eq_true_eq] at h2
     exact up (bv hop h1 hu hf h2.1.1 h2.1.2 h2.2)
    ·cases h2
   ·cases h2
  ·cases h
 |field ag off n b=>
  simp only [okO] at h
  split at h
  ·rename_i t a i hop
   simp only [Bool.and_eq_true] at h
   obtain ⟨h1,h2⟩:=h
   split at h2
   ·rename_i fs hu
    split at h2
    ·rename_i f hf
     simp only [Bool.and_eq_true,Bool.or_eq_true,decide_eq_true_eq] at h2
     exact up (fg hop h1 hu hf h2.1.1.1 h2.1.1.2 h2.1.2 h2.2)
    ·cases h2
   ·cases h2
  ·cases h
 |bin op b c=>
  simp only [okO] at h
  split at h
  ·rename_i o' t a d t' hop
   simp only [Bool.and_eq_true,decide_eq_true_eq] at h
   obtain ⟨⟨rfl,h1⟩,h2⟩:=h
   exact up (XY hop h1 h2)
  ·cases h
 |un op b=>
  simp only [okO] at h
  split at h
  ·rename_i o' t a hop
   simp only [Bool.and_eq_true,decide_eq_true_eq] at h
   obtain ⟨rfl,h1⟩:=h
   exact up (Vz hop h1)
  ·cases h
 |convInt k b=>
  simp only [okO] at h
  split at h
  ·rename_i s d a hop
   simp only [Bool.and_eq_true] at h
   obtain ⟨⟨h1,h2⟩,h3⟩:=h
   split at h2
   ·rename_i ds hs
    split at h3
    ·rename_i k' hd;exact up (YQ hop h1 hs hd h3)
    ·cases h3
   ·cases h2
  ·cases h
 |extract i b=>
  simp only [okO] at h
  split at h
  ·rename_i a j hop
   simp only [Bool.and_eq_true,decide_eq_true_eq] at h
   obtain ⟨h1,rfl⟩:=h
   exact up (WN hop h1)
  ·cases h
 |len b=>
  simp only [okO] at h
  split at h
  ·rename_i c hop
   simp only [Bool.and_eq_true] at h
   obtain ⟨h1,h2⟩:=h
   split at h1
   ·rename_i hc
    split at h2
    ·rename_i a t ha hat
     simp only [Bool.and_eq_true] at h2
     obtain ⟨h2,h3⟩:=h2
     split at h3
     ·rename_i e hu
      exact up (Wm hop hc (Array.ext' ha) (Array.ext' hat) h2 hu)
     ·cases h3
    ·cases h2
   ·cases h1
  ·cases h
 |indexSl sz b i=>
  simp only [okO] at h
  split at h
  ·rename_i t a q hop
   simp only [Bool.and_eq_true] at h
   obtain ⟨⟨h1,h2⟩,h3⟩:=h
   split at h3
   ·rename_i e hu;exact up (gT hop h1 h2 hu h3)
   ·cases h3
  ·cases h
 |indexArr sz n b i=>
  simp only [okO] at h
  split at h
  ·rename_i t a q hop
   simp only [Bool.and_eq_true] at h
   obtain ⟨⟨h1,h2⟩,h3⟩:=h
   split at h3
   ·rename_i m e hu
    simp only [Bool.and_eq_true,decide_eq_true_eq] at h3
    exact up (jR hop h1 h2 hu h3.1.1 h3.1.2)
   ·cases h3
  ·cases h
 |gidx sz n g i=>
  simp only [okO] at h
  split at h
  ·rename_i t a q hop
   simp only [Bool.and_eq_true] at h
   obtain ⟨⟨h1,h2⟩,h3⟩:=h
   split at h1
   ·split at h3
    ·rename_i m e hu
     simp only [Bool.and_eq_true,decide_eq_true_eq] at h3 h1
     subst h1
     exact up (Xl hop rfl h2 hu h3.1.1 h3.1.2)
    ·cases h3
   ·cases h1
  ·cases h
 |append k sz bytes b d=>
  simp only [okO] at h
  split at h
  ·rename_i c hop
   simp only [Bool.and_eq_true] at h
   obtain ⟨h1,h2⟩:=h
   split at h1
   ·rename_i hc
    split at h2
    ·rename_i a e t t' ha hat
     simp only [Bool.and_eq_true] at h2
     obtain ⟨⟨⟨k1,k2⟩,k3⟩,k4⟩:=h2
     split at k3
     ·rename_i el hu
      simp only [Bool.and_eq_true,decide_eq_true_eq] at k3
      obtain ⟨⟨m1,m2⟩,m3⟩:=k3
      obtain ⟨inf,hinf,hsz⟩:=yr m1
      rw [hinf] at m3
      simp only [Bool.and_eq_true,decide_eq_true_eq] at m3
      obtain ⟨m4,m5⟩:=m3
      split at m5
      ·rename_i z hz
       split at k4
       ·rename_i el' hu'
        exact up (nY ⟨hop,hc,Array.ext' ha,Array.ext' hat,hu,.inl ⟨_,hu'⟩,hinf,hsz,m4,hz,of_decide_eq_true m5,m2⟩ k1 k2)
       ·rename_i hu'
        exact up (nY ⟨hop,hc,Array.ext' ha,Array.ext' hat,hu,.inr hu',hinf,hsz,m4,hz,of_decide_eq_true m5,m2⟩ k1 k2)
       ·cases k4
      ·cases m5
     ·cases k3
    ·cases h2
   ·cases h1
  ·cases h
 |appT k bytes T b d=>
  simp only [okO] at h
  split at h
  ·rename_i c hop
   simp only [Bool.and_eq_true] at h
   obtain ⟨h1,h2⟩:=h
   split at h1
   ·rename_i hc
    split at h2
    ·rename_i a e t t' ha hat
     simp only [Bool.and_eq_true] at h2
     obtain ⟨⟨⟨k1,k2⟩,k3⟩,k4⟩:=h2
     split at k3
     ·rename_i el hu
      simp only [Bool.and_eq_true,decide_eq_true_eq] at k3
      obtain ⟨⟨m1,m2⟩,m3⟩:=k3
      subst m2
      obtain ⟨inf,hinf,hsz⟩:=yr m1
      rw [hinf] at m3
      simp only [Bool.and_eq_true,decide_eq_true_eq] at m3
      obtain ⟨m4,m5⟩:=m3
      split at m5
      ·rename_i z hz
       split at k4
       ·rename_i el' hu'
        exact up (gq ⟨hop,hc,Array.ext' ha,Array.ext' hat,hu,.inl ⟨_,hu'⟩,hinf,hsz,m4,hz,of_decide_eq_true m5,Nat.one_pos⟩ k1 k2)
       ·rename_i hu'
        exact up (gq ⟨hop,hc,Array.ext' ha,Array.ext' hat,hu,.inr hu',hinf,hsz,m4,hz,of_decide_eq_true m5,Nat.one_pos⟩ k1 k2)
       ·cases k4
      ·cases m5
     ·cases k3
    ·cases h2
   ·cases h1
  ·cases h
 |eqs neg ks b d=>
  simp only [okO] at h
  split at h
  ·rename_i o' t a e t' hop
   simp only [Bool.and_eq_true,decide_eq_true_eq,Bool.not_eq_true'] at h
   obtain ⟨⟨⟨⟨⟨k1,k2⟩,k3⟩,k4⟩,k5⟩,k6⟩:=h
   exact up (XI hop k1 k2 k3 k4 k5 k6)
  ·cases h
 |eqb neg b d=>
  simp only [okO] at h
  split at h
  ·rename_i o' t a e t' hop
   simp only [Bool.and_eq_true] at h
   obtain ⟨⟨⟨k1,k2⟩,k3⟩,k4⟩:=h
   split at k4
   ·rename_i hu;exact up (WZ hop k1 k2 k3 hu)
   ·cases k4
  ·cases h
 |minI b d=>
  simp only [okO] at h
  split at h
  ·rename_i c hop
   simp only [Bool.and_eq_true] at h
   obtain ⟨h1,h2⟩:=h
   split at h1
   ·rename_i hc
    split at h2
    ·rename_i a e t t' ha hat
     simp only [Bool.and_eq_true] at h2
     exact up (cn (mx:=false) hop hc (Array.ext' ha) h2.1 h2.2)
    ·cases h2
   ·cases h1
  ·cases h
 |maxI b d=>
  simp only [okO] at h
  split at h
  ·rename_i c hop
   simp only [Bool.and_eq_true] at h
   obtain ⟨h1,h2⟩:=h
   split at h1
   ·rename_i hc
    split at h2
    ·rename_i a e t t' ha hat
     simp only [Bool.and_eq_true] at h2
     exact up (cn (mx:=true) hop hc (Array.ext' ha) h2.1 h2.2)
    ·cases h2
   ·cases h1
  ·cases h
 |mkfn f first caps=>
  simp only [okO] at h
  split at h
  ·rename_i g fi ca hop
   simp only [Bool.and_eq_true] at h
   exact Zw hop (of_decide_eq_true h.1.1) h.1.2 h.2
  ·cases h
 |slice sz b lo hi mx=>
  simp only [okO] at h
  split at h
  ·rename_i t a l hh m hop
   simp only [Bool.and_eq_true] at h
   obtain ⟨⟨⟨⟨h1,h2⟩,h3⟩,h4⟩,h5⟩:=h
   split at h5
   ·rename_i e hu
    exact up (bp hop h1 h2 h3 h4 hu h5)
   ·cases h5
  ·cases h
 |isnil neg b=>
  simp only [okO] at h
  split at h
  ·rename_i op' t a e t' hop
   simp only [Bool.and_eq_true] at h
   obtain ⟨⟨⟨h1,h2⟩,h3⟩,h4⟩:=h
   split at h4
   ·rename_i e hu
    exact up (ah hop h1 h2 h3 hu)
   ·cases h4
  ·cases h
 |sbin op' b c=>
  simp only [okO] at h
  split at h
  ·rename_i o' t a d t' hop
   simp only [Bool.and_eq_true] at h
   obtain ⟨⟨⟨h1,h2⟩,h3⟩,h4⟩:=h
   have e:=of_decide_eq_true h1
   subst e
   exact up (X2 hop h2 h3)
  ·cases h
 |slen b=>
  simp only [okO] at h
  split at h
  ·rename_i c hop
   simp only [Bool.and_eq_true] at h
   obtain ⟨h1,h2⟩:=h
   split at h1
   ·rename_i hc
    split at h2
    ·rename_i a t ha hat
     simp only [Bool.and_eq_true] at h2
     obtain ⟨h2,h3⟩:=h2
     split at h3
     ·rename_i hu
      exact up (ZS hop hc (Array.ext' ha) (Array.ext' hat) h2 hu)
     ·cases h3
    ·cases h2
   ·cases h1
  ·cases h
 |strAt b i=>
  simp only [okO] at h
  split at h
  ·rename_i t a q hop
   simp only [Bool.and_eq_true] at h
   obtain ⟨⟨h1,h2⟩,h3⟩:=h
   split at h3
   ·rename_i hu
    exact up (bP hop h1 h2 hu)
   ·cases h3
  ·cases h
 |substr b lo hi=>
  simp only [okO] at h
  split at h
  ·rename_i t a l hh m hop
   simp only [Bool.and_eq_true] at h
   obtain ⟨⟨⟨⟨h1,h2⟩,h3⟩,h4⟩,h5⟩:=h
   split at h5
   ·rename_i hu
    exact up (dg hop h1 h2 h3 (Option.isNone_iff_eq_none.1 h4) hu)
   ·cases h5
  ·cases h
 |makeSlice k bytes zs b d=>
  simp only [okO] at h
  split at h
  ·rename_i t l c hop
   simp only [Bool.and_eq_true] at h
   obtain ⟨⟨h1,h2⟩,h3⟩:=h
   split at h3
   ·rename_i el hu
    simp only [Bool.and_eq_true,decide_eq_true_eq] at h3
    obtain ⟨⟨h4,h5⟩,h6⟩:=h3
    split at h6
    ·rename_i i hi
     exact up (Xb hop h1 h2 hu h4 h5 hi (of_decide_eq_true h6))
    ·cases h6
   ·cases h3
  ·cases h
 |clear zs b=>
  simp only [okO] at h
  split at h
  ·rename_i c hop
   simp only [Bool.and_eq_true] at h
   obtain ⟨h1,h2⟩:=h
   split at h1
   ·rename_i hc
    split at h2
    ·rename_i a t ha hat
     simp only [Bool.and_eq_true] at h2
     obtain ⟨h2,h3⟩:=h2
     split at h3
     ·rename_i el hu
      simp only [Bool.and_eq_true,decide_eq_true_eq] at h3
      exact up (a7 hop hc (Array.ext' ha) (Array.ext' hat) h2 hu h3.1 h3.2)
     ·cases h3
    ·cases h2
   ·cases h1
  ·cases h
 |sliceW sz b lo hi mx=>
  simp only [okO] at h
  split at h
  ·rename_i t a l hh m hop
   simp only [Bool.and_eq_true] at h
   obtain ⟨⟨⟨⟨h1,h2⟩,h3⟩,h4⟩,h5⟩:=h
   split at h5
   ·rename_i e hu
    exact up (eA hop h1 h2 h3 h4 hu h5)
   ·cases h5
  ·cases h
 |appendW sz bytes b d=>
  simp only [okO] at h
  split at h
  ·rename_i c hop
   simp only [Bool.and_eq_true] at h
   obtain ⟨h1,h2⟩:=h
   split at h1
   ·rename_i hc
    split at h2
    ·rename_i a e t t' ha hat
     simp only [Bool.and_eq_true] at h2
     obtain ⟨⟨⟨k1,k2⟩,k3⟩,k4⟩:=h2
     split at k3
     ·rename_i el hu
      simp only [Bool.and_eq_true,decide_eq_true_eq] at k3
      obtain ⟨⟨m1,m2⟩,m3⟩:=k3
      obtain ⟨inf,hinf,hsz⟩:=yr m1
      rw [hinf] at m3
      simp only [Bool.and_eq_true,decide_eq_true_eq] at m3
      obtain ⟨m4,m5⟩:=m3
      split at m5
      ·rename_i z hz
       split at k4
       ·rename_i el' hu'
        exact up (g9 ⟨hop,hc,Array.ext' ha,Array.ext' hat,hu,.inl ⟨_,hu'⟩,hinf,hsz,m4,hz,of_decide_eq_true m5,m2⟩ k1 k2)
       ·cases k4
      ·cases m5
     ·cases k3
    ·cases h2
   ·cases h1
  ·cases h
 |b2s b=>
  simp only [okO] at h
  split at h
  ·rename_i s d a hop
   simp only [Bool.and_eq_true] at h
   obtain ⟨⟨h1,h2⟩,h3⟩:=h
   split at h2
   ·rename_i el hs
    split at h2
    ·rename_i he
     split at h3
     ·rename_i hd
      exact up (XP hop h1 hs he hd)
     ·cases h3
    ·cases h2
   ·cases h2
  ·cases h
 |indexV ag sz n b i=>
  simp only [okO] at h
  split at h
  ·rename_i t a q hop
   simp only [Bool.and_eq_true] at h
   obtain ⟨⟨h1,h2⟩,h3⟩:=h
   split at h3
   ·rename_i m e hu
    simp only [Bool.and_eq_true,Bool.or_eq_true,decide_eq_true_eq] at h3
    exact up (fP hop h1 h2 hu h3.1.1.1 h3.1.1.2 h3.1.2 h3.2)
   ·cases h3
  ·cases h
 |isnilP neg b=>
  simp only [okO] at h
  split at h
  ·rename_i op' t a e t' hop
   simp only [Bool.and_eq_true] at h
   obtain ⟨⟨⟨h1,h2⟩,h3⟩,h4⟩:=h
   split at h4
   ·rename_i e hu
    exact up (eM hop h1 h2 h3 hu)
   ·cases h4
  ·cases h
 |isnilI neg b=>
  simp only [okO] at h
  split at h
  ·rename_i op' t a e t' hop
   simp only [Bool.and_eq_true] at h
   obtain ⟨⟨⟨h1,h2⟩,h3⟩,h4⟩:=h
   split at h4
   ·rename_i e hu
    exact up (dA hop h1 h2 h3 hu)
   ·cases h4
  ·cases h
 |sliceA sz n b=>
  simp only [okO] at h
  split at h
  ·rename_i t a l hh m hop
   simp only [Bool.and_eq_true,Option.isNone_iff_eq_none] at h
   obtain ⟨⟨⟨⟨h1,rfl⟩,rfl⟩,rfl⟩,h5⟩:=h
   split at h5
   ·rename_i q e hu
    simp only [Bool.and_eq_true,decide_eq_true_eq] at h5
    obtain ⟨h6,rfl⟩:=h5
    exact up (fJ hop h1 hu h6)
   ·cases h5
  ·cases h
 |s2b b=>
  simp only [okO] at h
  split at h
  ·rename_i s d a hop
   simp only [Bool.and_eq_true] at h
   obtain ⟨⟨h1,h2⟩,h3⟩:=h
   split at h2
   ·rename_i hs
    split at h3
    ·rename_i el hd
     split at h3
     ·rename_i he
      exact up (WL hop h1 hs hd he)
     ·cases h3
    ·cases h3
   ·cases h2
  ·cases h
 |arrp n b=>
  simp only [okO] at h
  split at h
  ·rename_i t a hop
   simp only [Bool.and_eq_true] at h
   obtain ⟨h1,h5⟩:=h
   split at h5
   ·rename_i q e hu
    simp only [decide_eq_true_eq] at h5
    obtain rfl:=h5
    exact up (Y_ hop h1 hu)
   ·cases h5
  ·cases h
 |ext k as=>
  simp only [okO] at h
  split at h
  ·rename_i c hop
   simp only [Bool.and_eq_true] at h
   obtain ⟨h1,h2⟩:=h
   split at h1
   ·rename_i g hc
    exact up (Yg hop hc h1 h2)
   ·cases h1
  ·cases h
 |dead=>exact trivial
 |callv b as=>
  simp only [okO] at h
  split at h
  ·rename_i c hop
   simp only [Bool.and_eq_true] at h
   obtain ⟨h1,h2⟩:=h
   split at h1
   ·rename_i y hc
    exact eZ hop hc h1 h2
   ·cases h1
  ·cases h
 |call f as=>
  simp only [okO] at h
  split at h
  ·rename_i c hop
   simp only [Bool.and_eq_true] at h
   obtain ⟨⟨h1,h2⟩,h3⟩:=h
   split at h1
   ·rename_i g hc
    exact bj hop hc (of_decide_eq_true h1) h2
   ·cases h1
  ·cases h
end
def Kr.cut (K:Kr) (w:World):Kr:=⟨K.dom,K.real,K.μ,fun g=>K.M g∧g<w.heap.size⟩
def yZ (K:Kr) (w:World) (g0:Nat) (H0:HL):Gm:=⟨w,fun g=>∃k o,zd H0 k=some o∧K.real o.n∧K.μ o.n=g,K.cut w,g0⟩
def zE (P:Program) (f:FuncId) (ds:List DV) (H0:HL) (R:DV→HL→Prop):Prop:=tM P f=true∧
 ∀(K:Kr) (w:World) (vs:Array Value) (g0:Nat),Inv (yZ K w g0 H0) (K.cut w) (zd H0) w→(∀n,K.dom n→n<g0)→zA (K.cut w) w ds vs→
  Calls P f vs w fun e w'=>∃v d H1,e=.returned v∧R d H1∧Inv (yZ K w g0 H0) (K.cut w) (zd H1) w'∧ze (K.cut w) w' d v
def zi (P:Program) (f:FuncId) (ds:List DV) (D:DV):Prop:=zE P f ds [] fun d H=>d=D∧H=[]
def uO (P:Program) (f:FuncId) (ds:List DV) (H0:HL) (R:Nat→DV→HL→Prop):Prop:=tM P f=true∧
 ∀(K:Kr) (w:World) (vs:Array Value) (g0:Nat),Inv (yZ K w g0 H0) (K.cut w) (zd H0) w→(∀n,K.dom n→n<g0)→zA (K.cut w) w ds vs→
  Calls P f vs w fun e w'=>∃v,e=.returned v∧∀n,¬K.dom n→∃ (K':Kr) (d:DV) (H1:HL),R n d H1∧(∀m,K'.dom m↔K.dom m∨m=n)∧(∀m,K'.real m→K.real m∨m=n)∧Inv (yZ K w n H0) K' (zd H1) w'∧ze K' w' d v
def xt (P:Program) (f:FuncId) (ds:List DV) (H0:HL) (c:Nat) (R:Nat→DV→HL→Prop):Prop:=tM P f=true∧
 ∀(K:Kr) (w:World) (vs:Array Value) (g0:Nat),Inv (yZ K w g0 H0) (K.cut w) (zd H0) w→(∀n,K.dom n→n<g0)→zA (K.cut w) w ds vs→
  Calls P f vs w fun e w'=>∃v,e=.returned v∧∀n,(∀m,n≤m→m<n+c→¬K.dom m)→∃ (K':Kr) (d:DV) (H1:HL),R n d H1∧(∀m,K'.dom m↔K.dom m∨(n≤m∧m<n+c))∧(∀m,K'.real m→K.real m∨(n≤m∧m<n+c))∧Inv (yZ K w n H0) K' (zd H1) w'∧ze K' w' d v
structure Rec where
 (touch wr:List Nat)
def uh (tm:Env) (d:Option Sl) (v:DV):Env:=
 match d with
 |some s=>tm.set s v
 |none=>tm
def xu:HL→List (Nat×Option zj)→HL
 |H,[]=>H
 |H,(k,o)::r=>xu (y4 H k o) r
def y9:List (Nat×Option zj)→List Nat
 |[]=>[]
 |(k,_)::r=>k::y9 r
def v8:List Nat→HL→List (Nat×Option zj)
 |k::r,o::s=>(k,o)::v8 r s
 |_,_=>[]
def yO (H:HL):List Nat→HL
 |[]=>[]
 |k::r=>zd H k::yO H r
def UW (P:Program) (F:List XOp→St→List Rec→Prop) (r:List XOp) (st:St) (dst:Option Sl) (tr:List Rec) (f:FuncId) (ds:List DV):Prop:=
 (∃ (ks:List Nat) (ds':List DV) (D:DV) (H1:HL),(∀K w vs,zA K w ds vs→zA K w ds' vs)∧ks.Nodup∧H1.length=ks.length∧zE P f ds' (yO st.H ks) (fun d H=>d=D∧H=H1)∧
  F r ⟨uh st.tm dst D,xu st.H (v8 ks H1),st.gen⟩ (⟨ks,ks⟩::tr))∨
 (∃ (ks:List Nat) (ds':List DV) (D:Nat→DV) (H1:HL) (k sz:Nat) (xs:List (List DV)),(∀K w vs,zA K w ds vs→zA K w ds' vs)∧ks.Nodup∧H1.length=ks.length∧
  uO P f ds' (yO st.H ks) (fun n d H=>d=D n∧H=H1++[some ⟨n,sz,xs⟩])∧
  F r ⟨uh st.tm dst (D st.gen),xu st.H (v8 ks H1++[(k,some ⟨st.gen,sz,xs⟩)]),st.gen+1⟩ (⟨ks++[k],ks++[k]⟩::tr))∨
 (∃ (ks ns:List Nat) (ds':List DV) (c:Nat) (D:Nat→DV) (H1:Nat→HL),(∀K w vs,zA K w ds vs→zA K w ds' vs)∧(ks++ns).Nodup∧(H1 st.gen).length=(ks++ns).length∧
  xt P f ds' (yO st.H ks) c (fun n d H=>d=D n∧H=H1 n)∧
  F r ⟨uh st.tm dst (D st.gen),xu st.H (v8 (ks++ns) (H1 st.gen)),st.gen+c⟩ (⟨ks++ns,ks++ns⟩::tr))
def zF (P:Program) (F:List XOp→St→List Rec→Prop) (r:List XOp) (st:St) (dst:Option Sl) (tr:List Rec):Res→Prop
 |.ok v t wr g=>F r ⟨uh st.tm dst v,xu st.H wr,st.gen+g⟩ (⟨t,y9 wr⟩::tr)
 |.ite t x y=>match t with
  |true=>zF P F r st dst tr x
  |false=>zF P F r st dst tr y
 |.need p x=>p∧zF P F r st dst tr x
 |.alt x y=>zF P F r st dst tr x∨zF P F r st dst tr y
 |.call f ds=>UW P F r st dst tr f ds
 |.bad=>False
def iN:Res:=.ok (.v undef) [] [] 0
def gd2 (res:Res) (b:Bool):DV→Res
 |.v (.bool t)=>match b with
  |true=>.ite t res iN
  |false=>.ite t iN res
 |.v (.tuple _)=>iN
 |_=>.bad
def gd (tm:Env) (res:Res):Option (Sl×Bool)→Res
 |none=>res
 |some (s,b)=>gd2 res b (tm.get s)
def run (P:Program) (Q:St→List Rec→Prop):Nat→List XOp→St→List Rec→Prop
 |0,_,_,_=>False
 |_+1,[],st,tr=>Q st tr
 |n+1,o::r,st,tr=>zF P (run P Q n) r st o.dst tr (gd st.tm (ex1 st o.op) o.g)
section
variable {P:Program} {F:List XOp→St→List Rec→Prop} {r:List XOp} {st:St} {dst:Option Sl} {tr:List Rec}
theorem XU (v:DV) (t:List Nat) (wr:List (Nat×Option zj)) (g:Nat):zF P F r st dst tr (.ok v t wr g)=F r ⟨uh st.tm dst v,xu st.H wr,st.gen+g⟩ (⟨t,y9 wr⟩::tr):=rfl
theorem eP (x y:Res):zF P F r st dst tr (.ite true x y)=zF P F r st dst tr x:=rfl
theorem df (x y:Res):zF P F r st dst tr (.ite false x y)=zF P F r st dst tr y:=rfl
theorem Vv {t:Bool} {x y:Res} (h1:t=true→zF P F r st dst tr x) (h2:t=false→zF P F r st dst tr y):zF P F r st dst tr (.ite t x y):=by
 cases t with
 |true=>exact h1 rfl
 |false=>exact h2 rfl
theorem zf {p:Prop} {x:Res} (h1:p) (h2:zF P F r st dst tr x):zF P F r st dst tr (.need p x):=⟨h1,h2⟩
theorem vx {x y:Res} (h:zF P F r st dst tr x):zF P F r st dst tr (.alt x y):=.inl h
theorem z6 {f:FuncId} {ds:List DV} {D:DV} (h1:zi P f ds D) (h2:F r ⟨uh st.tm dst D,st.H,st.gen⟩ (⟨[],[]⟩::tr)):zF P F r st dst tr (.call f ds):=
 .inl ⟨[],ds,D,[],fun _ _ _ h=>h,List.nodup_nil,rfl,h1,h2⟩
theorem z_ {f:FuncId} {ds:List DV} {D D':DV} {o o1:Option zj} (k:Nat) (hk:zd st.H k=o) (h1:zE P f ds [o] (fun d H=>d=D∧H=[o1])) (hD:∀K w v,ze K w D v→ze K w D' v) (h2:F r ⟨uh st.tm dst D',xu st.H [(k,o1)],st.gen⟩ (⟨[k],[k]⟩::tr)):zF P F r st dst tr (.call f ds):=by
 refine .inl ⟨[k],ds,D',[o1],fun _ _ _ h=>h,by simp,rfl,⟨h1.1,fun K w vs g0 a b c=>?_⟩,h2⟩
 have e:yO st.H [k]=[o]:=by rw [←hk];rfl
 rw [e] at a ⊢
 refine (h1.2 K w vs g0 a b c).mono ?_
 rintro e w' ⟨v,d,H1,q1,⟨rfl,rfl⟩,q3,q4⟩
 exact ⟨v,D',[o1],q1,⟨rfl,rfl⟩,q3,hD _ _ _ q4⟩
theorem yB {f:FuncId} {ds:List DV} {D:Nat→DV} {sz:Nat} {xs:List (List DV)} (k:Nat) (h1:uO P f ds [] (fun n d H=>d=D n∧H=[some ⟨n,sz,xs⟩])) (h2:F r ⟨uh st.tm dst (D st.gen),xu st.H [(k,some ⟨st.gen,sz,xs⟩)],st.gen+1⟩ (⟨[k],[k]⟩::tr)):zF P F r st dst tr (.call f ds):=
 .inr (.inl ⟨[],ds,D,[],k,sz,xs,fun _ _ _ h=>h,List.nodup_nil,rfl,h1,h2⟩)
end
def ky (N:Nat):Option Tmp→Option Sl→Bool
 |none,none=>true
 |some t,some s=>decide (t=s.nat)&&decide (t<N)
 |_,_=>false
def Vr (ops:Array Oper):Option (Nat×Bool)→Option (Sl×Bool)→Bool
 |none,none=>true
 |some (j,b),some (s,c)=>(b == c)&&decide ((ops[j]?).bind (·.dst)=some s.nat)
 |_,_=>false
def ab (P:Program) (N:Nat) (ops:Array Oper) (o:Oper) (x:XOp):Bool:=okO P o.op x.op&&ky N o.dst x.dst&&Vr ops o.guard x.g
def xT (P:Program) (N:Nat) (ops:Array Oper):List Oper→List XOp→Bool
 |[],[]=>true
 |o::r,x::s=>ab P N ops o x&&xT P N ops r s
 |_,_=>false
theorem pq:∀(wr:List (Nat×Option zj)) (H:HL),vf (zd H) wr=zd (xu H wr)
 |[],H=>rfl
 |(k,o)::r,H=>by
  have e:(fun j=>if j=k then o else zd H j)=zd (y4 H k o):=by
   funext j
   rw [zY]
  show vf (fun j=>if j=k then o else zd H j) r=_
  rw [e]
  exact pq r _
theorem lk (tmps:Array Value) (t s:Nat) (v:Value) (h:t<tmps.size):(tmps.setIfInBounds t v).getD s undef=if s=t then v else tmps.getD s undef:=by
 simp only [Array.getD_eq_getD_getElem?]
 by_cases e:s=t
 ·subst e
  rw [if_pos rfl]
  simp [h]
 ·rw [if_neg e,Array.getElem?_setIfInBounds_ne (fun q=>e q.symm)]
theorem Wj {Γ:Gm} {N:Nat} {st:St} {K K':Kr} {a:Act} {w w':World} (h:Rel Γ N st K a w) (m:yF K w K' w') {H':HL} (hI:Inv Γ K' (zd H') w') {g:Nat} (hf:∀n,K'.dom n→n<g) (hg:Γ.g0≤g) {t:Option Tmp} {s:Option Sl} (hd:ky N t s=true) {d:DV} {v:Value} (hv:ze K' w' d v) :
  Rel Γ N ⟨uh st.tm s d,H',g⟩ K' (a.put t v) w':=by
 unfold ky at hd
 split at hd
 ·exact ⟨hI,hf,hg,h.size,h.defers,fun q=>(h.tm q).mono m⟩
 ·rename_i t s
  simp only [Bool.and_eq_true,decide_eq_true_eq] at hd
  obtain ⟨rfl,hlt⟩:=hd
  refine ⟨hI,hf,hg,by simp [Act.put,h.size],h.defers,fun q=>?_⟩
  show ze K' w' ((st.tm.set s d).get q) ((a.tmps.setIfInBounds s.nat v).getD q.nat undef)
  rw [Env.get_set,lk _ _ _ _ (by rw [h.size];exact hlt)]
  by_cases e:q=s
  ·subst e
   rw [if_pos rfl,if_pos rfl]
   exact hv
  ·rw [if_neg e,if_neg (fun e2=>e (Sl.nat_inj e2))]
   exact (h.tm q).mono m
 ·cases hd
theorem lr {K:Kr} {w w':World} {W:Nat→Prop} (h:Ext W w w') (hW:∀g,g<w.heap.size→W g→K.M g):yF K w (K.cut w) w':=
 ⟨h.weaken hW,fun n hn=>⟨hn,rfl⟩,fun g _ hM=>hM.1⟩
theorem vv {K:Kr} {w:World} {ds:List DV} {vs:Array Value} (h:zA K w ds vs):zA (K.cut w) w ds vs:=
 ⟨h.1,fun i d v hd hv=>(h.2 i d v hd hv).mono (lr (Ext.refl (fun _=>False) w) (fun _ _ h=>h.elim))⟩
theorem uq (H:HL):∀(ks:List Nat) (i:Nat),zd (yO H ks) i=(ks[i]?).bind (zd H)
 |[],i=>by simp [yO,zd]
 |k::r,0=>by simp [yO,zd]
 |k::r,i+1=>by
  have:=uq H r i
  simpa [yO,zd] using this
theorem nj (k:Nat):∀(ks:List Nat) (H1:HL) (H:Nat→Option zj),ks.Nodup→H1.length=ks.length→
  vf H (v8 ks H1) k=if k∈ks then (match ks.idxOf? k with|some i=>zd H1 i|none=>none) else H k
 |[],[],H,_,_=>by simp [v8,vf]
 |[],_::_,H,_,hl=>by simp at hl
 |_::_,[],H,_,hl=>by simp at hl
 |j::r,o::s,H,hn,hl=>by
  have hn':=List.nodup_cons.1 hn
  have ih:=nj k r s (fun q=>if q=j then o else H q) hn'.2 (by simpa using hl)
  show vf (fun q=>if q=j then o else H q) (v8 r s) k=_
  rw [ih]
  by_cases hk:k=j
  ·subst hk
   rw [if_neg hn'.1,if_pos rfl,if_pos (List.mem_cons_self)]
   simp [List.idxOf?,List.findIdx?_cons,zd]
  ·by_cases hm:k∈r
   ·rw [if_pos hm,if_pos (List.mem_cons_of_mem _ hm)]
    have hjk:(j == k)=false:=by simp;exact fun e=>hk e.symm
    simp only [List.idxOf?,List.findIdx?_cons,hjk]
    cases r.findIdx? (fun x=>x == k)<;>simp [zd]
   ·rw [if_neg hm,if_neg hk,if_neg (by simp [hk,hm])]
theorem pH {ks:List Nat} {k i:Nat} (h:ks.idxOf? k=some i):ks[i]?=some k:=by
 unfold List.idxOf? at h
 obtain ⟨h1,h2,_⟩:=List.findIdx?_eq_some_iff_getElem.1 h
 rw [List.getElem?_eq_getElem h1]
 simpa using h2
theorem pC {ks:List Nat} {k:Nat} (h:k∈ks):∃i,ks.idxOf? k=some i:=by
 unfold List.idxOf?
 cases hq:ks.findIdx? (fun x=>x == k) with
 |some i=>exact ⟨i,rfl⟩
 |none=>
  have:=List.findIdx?_eq_none_iff.1 hq k h
  simp at this
theorem bi {ks:List Nat} (hn:ks.Nodup) {i j k:Nat} (h1:ks[i]?=some k) (h2:ks[j]?=some k):i=j:=by
 obtain ⟨a1,a2⟩:=List.getElem?_eq_some_iff.1 h1
 obtain ⟨b1,b2⟩:=List.getElem?_eq_some_iff.1 h2
 rcases Nat.lt_trichotomy i j with h|h|h
 ·exact absurd (a2.trans b2.symm) (List.pairwise_iff_getElem.1 hn i j a1 b1 h)
 ·exact h
 ·exact absurd (b2.trans a2.symm) (List.pairwise_iff_getElem.1 hn j i b1 a1 h)
theorem W4 {Γ:Gm} {K:Kr} {H':Nat→Option zj} {w:World} (hI:Inv Γ K H' w) {H0:HL} (h:∀k o,zd H0 k=some o→K.real o.n→K.M (K.μ o.n)) (g0:Nat):(yZ K w g0 H0).ok:=fun g cs hg=>by
 obtain ⟨a,b,c⟩:=hI.glob hg
 exact ⟨fun ⟨k,o,h1,h2,h3⟩=>a (h3▸h k o h1 h2),fun q=>a q.1,b,c⟩
theorem lu {Γ:Gm} {K:Kr} {H':Nat→Option zj} {H:HL} {w:World} (hI:Inv Γ K H' w) {ks:List Nat} (hn:ks.Nodup) (ht:∀k∈ks,H' k=zd H k) (g0:Nat) :
  Inv (yZ K w g0 (yO H ks)) (K.cut w) (zd (yO H ks)) w:=by
 have hm:yF K w (K.cut w) w:=lr (Ext.refl (fun _=>False) w) (fun _ _ h=>h.elim)
 have hg:∀i o,zd (yO H ks) i=some o→∃k,ks[i]?=some k∧H' k=some o:=by
  intro i o h
  rw [uq] at h
  cases hk:ks[i]? with
  |none=>rw [hk] at h;cases h
  |some k=>rw [hk] at h;exact ⟨k,rfl,(ht k (List.mem_of_getElem? hk)).trans h⟩
 refine ⟨Ext.refl _ _,⟨fun n h=>.inl h,fun n h _=>h,fun n h=>⟨h,rfl⟩,fun g _=>Iff.rfl⟩,fun i o h=>?_,fun i j o1 o2 h1 h2 r1 r2 he=>?_,hI.dr,hI.lt,fun i o h=>?_,fun i o h hr=>?_,W4 hI (fun i o h hr=>?_) g0⟩
 ·obtain ⟨k,_,hk⟩:=hg i o h
  exact (hI.obj k o hk).mono hm id (fun _=>rfl)
 ·obtain ⟨k1,q1,hk1⟩:=hg i o1 h1
  obtain ⟨k2,q2,hk2⟩:=hg j o2 h2
  have:=hI.inj k1 k2 o1 o2 hk1 hk2 r1 r2 he
  subst this
  exact bi hn q1 q2
 ·obtain ⟨k,_,hk⟩:=hg i o h
  exact hI.dobj k o hk
 ·obtain ⟨k,_,hk⟩:=hg i o h
  exact ⟨⟨(hI.own k o hk hr).1,hI.lt _ hr⟩,.inr ⟨i,o,h,hr,rfl⟩⟩
 ·obtain ⟨k,_,hk⟩:=hg i o h
  exact (hI.own k o hk hr).1
theorem YY {Γ:Gm} {K:Kr} {H':Nat→Option zj} {H:HL} {w w':World} (hI:Inv Γ K H' w) {ks:List Nat} (hn:ks.Nodup) (ht:∀k∈ks,H' k=zd H k) {g0:Nat} {H1:HL} (hl:H1.length=ks.length)
  (hB:Inv (yZ K w g0 (yO H ks)) (K.cut w) (zd H1) w'):yF K w (K.cut w) w'∧Inv Γ (K.cut w) (vf H' (v8 ks H1)) w':=by
 have hlent:∀g,(yZ K w g0 (yO H ks)).W0 g→∃k o,k∈ks∧H' k=some o∧K.real o.n∧K.μ o.n=g:=by
  rintro g ⟨i,o,h,hr,he⟩
  rw [uq] at h
  cases hk:ks[i]? with
  |none=>rw [hk] at h;cases h
  |some k=>rw [hk] at h;exact ⟨k,o,List.mem_of_getElem? hk,(ht k (List.mem_of_getElem? hk)).trans h,hr,he⟩
 have hm:yF K w (K.cut w) w':=lr hB.ext (fun g hg hW=>by
  obtain ⟨k,o,_,h,hr,he⟩:=hlent g hW
  rw [←he]
  exact (hI.own k o h hr).1)
 have hupd:∀k o,vf H' (v8 ks H1) k=some o→(k∈ks∧∃i,ks[i]?=some k∧zd H1 i=some o)∨(k∉ks∧H' k=some o):=by
  intro k o h
  rw [nj k ks H1 H' hn hl] at h
  by_cases hk:k∈ks
  ·rw [if_pos hk] at h
   obtain ⟨i,hi⟩:=pC hk
   rw [hi] at h
   exact .inl ⟨hk,i,pH hi,h⟩
  ·rw [if_neg hk] at h
   exact .inr ⟨hk,h⟩
 have hblk:∀i o,zd H1 i=some o→K.real o.n→∃k o',k∈ks∧H' k=some o'∧K.real o'.n∧K.μ o'.n=K.μ o.n:=by
  intro i o h hr
  rcases (hB.own i o h hr).2 with h1|h1
  ·exact absurd (hI.lt _ hr) (by
    have h1':w.heap.size≤K.μ o.n:=h1
    omega)
  ·exact hlent _ h1
 refine ⟨hm,⟨hm.ext.os.trans hI.ext.os,hm.ext.tape.trans hI.ext.tape,hm.ext.output.trans hI.ext.output,Nat.le_trans hI.ext.size hm.ext.size,fun g hg hW=>?_,fun g cs t fr hh=>?_,hI.ext.maps.trans hm.ext.maps⟩,⟨hI.base.dom,hI.base.old,hI.base.keep,fun g hg=>?_⟩,fun k o h=>?_,fun k1 k2 o1 o2 h1 h2 r1 r2 he=>?_,hI.dr,fun n h=>Nat.lt_of_lt_of_le (hI.lt n h) hm.ext.size,fun k o h=>?_,fun k o h hr=>?_,hI.gl⟩
 ·rw [←hI.ext.keep g hg hW]
  refine hB.ext.keep g (Nat.lt_of_lt_of_le hg hI.ext.size) (fun hl=>?_)
  obtain ⟨k,o,_,h,hr,he⟩:=hlent g hl
  rcases (hI.own k o h hr).2 with h1|h1
  ·omega
  ·exact hW (he▸h1)
 ·obtain ⟨c1,fr1,h1,e1⟩:=hI.ext.shape g cs t fr hh
  obtain ⟨c2,fr2,h2,e2⟩:=hm.ext.shape g c1 t fr1 h1
  exact ⟨c2,fr2,h2,e2.trans e1⟩
 ·rw [←hI.base.M g hg]
  exact ⟨fun h=>h.1,fun h=>⟨h,Nat.lt_of_lt_of_le hg hI.ext.size⟩⟩
 ·rcases hupd k o h with ⟨_,i,_,hi⟩|⟨hk,hi⟩
  ·exact hB.obj i o hi
  ·refine (hI.obj k o hi).mono hm id (fun hr=>hB.ext.keep _ (hI.lt _ hr) (fun hl=>?_))
   obtain ⟨k',o',hk',h',hr',he⟩:=hlent _ hl
   exact hk ((hI.inj k' k o' o h' hi hr' hr he)▸hk')
 ·rcases hupd k1 o1 h1 with ⟨m1,i1,q1,e1⟩|⟨m1,e1⟩<;>rcases hupd k2 o2 h2 with ⟨m2,i2,q2,e2⟩|⟨m2,e2⟩
  ·have:=hB.inj i1 i2 o1 o2 e1 e2 r1 r2 he
   subst this
   rw [q1] at q2
   exact Option.some.inj q2
  ·obtain ⟨k',o',hk',h',hr',he'⟩:=hblk i1 o1 e1 r1
   exact absurd ((hI.inj k' k2 o' o2 h' e2 hr' r2 (he'.trans he))▸hk') m2
  ·obtain ⟨k',o',hk',h',hr',he'⟩:=hblk i2 o2 e2 r2
   exact absurd ((hI.inj k' k1 o' o1 h' e1 hr' r1 (he'.trans he.symm))▸hk') m1
  ·exact hI.inj k1 k2 o1 o2 e1 e2 r1 r2 he
 ·rcases hupd k o h with ⟨_,i,_,hi⟩|⟨hk,hi⟩
  ·exact hB.dobj i o hi
  ·exact hI.dobj k o hi
 ·rcases hupd k o h with ⟨_,i,_,hi⟩|⟨hk,hi⟩
  ·obtain ⟨k',o',hk',h',hr',he'⟩:=hblk i o hi hr
   have:=hI.own k' o' h' hr'
   rw [he'] at this
   exact ⟨⟨this.1,hI.lt _ hr⟩,this.2⟩
  ·exact ⟨⟨(hI.own k o hi hr).1,hI.lt _ hr⟩,(hI.own k o hi hr).2⟩
theorem b7 {Γ:Gm} {K:Kr} {H':Nat→Option zj} {H:HL} {w w':World} (hI:Inv Γ K H' w) {ks:List Nat} (hn:ks.Nodup) (ht:∀k∈ks,H' k=zd H k) {n:Nat} (hfr:¬K.dom n) (hg0:Γ.g0≤n) {H1:HL} (hl:H1.length=ks.length) {o1:zj} (ho1:o1.n=n) (k:Nat) {K':Kr}
  (hd:∀m,K'.dom m↔K.dom m∨m=n) (hre:∀m,K'.real m→K.real m∨m=n) (hB:Inv (yZ K w n (yO H ks)) K' (zd (H1++[some o1])) w'):yF K w K' w'∧Inv Γ K' (fun j=>if j=k then some o1 else vf H' (v8 ks H1) j) w':=by
 have hkeep:∀m,K.real m→K'.real m∧K'.μ m=K.μ m:=fun m h=>hB.base.keep m h
 have hnr:¬K.real n:=fun h=>hfr (hI.dr n h)
 have hlent:∀g,(yZ K w n (yO H ks)).W0 g→∃k o,k∈ks∧H' k=some o∧K.real o.n∧K.μ o.n=g:=by
  rintro g ⟨i,o,h,hr,he⟩
  rw [uq] at h
  cases hk:ks[i]? with
  |none=>rw [hk] at h;cases h
  |some k=>rw [hk] at h;exact ⟨k,o,List.mem_of_getElem? hk,(ht k (List.mem_of_getElem? hk)).trans h,hr,he⟩
 have hMM:∀g,g<w.heap.size→(K'.M g↔K.M g):=fun g hg=>by
  have:=hB.base.M g hg
  exact ⟨fun h=>(this.1 h).1,fun h=>this.2 ⟨h,hg⟩⟩
 have hm:yF K w K' w':=⟨hB.ext.weaken (fun g hg hW=>by
  obtain ⟨k,o,_,h,hr,he⟩:=hlent g hW
  rw [←he]
  exact (hI.own k o h hr).1),hkeep,fun g hg h=>(hMM g hg).1 h⟩
 have hget:∀i o,zd H1 i=some o→zd (H1++[some o1]) i=some o:=by
  intro i o h
  have e:∀(l:HL) (i:Nat) (q:zj),zd l i=some q→zd (l++[some o1]) i=some q:=by
   intro l
   induction l with
   |nil=>intro i q h;cases h
   |cons x r ih=>
    intro i q h
    cases i with
    |zero=>exact h
    |succ i=>exact ih i q h
  exact e H1 i o h
 have hlast:zd (H1++[some o1]) H1.length=some o1:=by
  have e:∀(l:HL),zd (l++[some o1]) l.length=some o1:=by
   intro l
   induction l with
   |nil=>rfl
   |cons x r ih=>exact ih
  exact e H1
 have hlt1:∀i o,zd H1 i=some o→i<H1.length:=by
  have e:∀(l:HL) (i:Nat) (q:zj),zd l i=some q→i<l.length:=by
   intro l
   induction l with
   |nil=>intro i q h;cases h
   |cons x r ih=>
    intro i q h
    cases i with
    |zero=>simp
    |succ i=>have:=ih i q h;simp;omega
  exact e H1
 have hupd:∀j o,vf H' (v8 ks H1) j=some o→(j∈ks∧∃i,ks[i]?=some j∧zd H1 i=some o)∨(j∉ks∧H' j=some o):=by
  intro j o h
  rw [nj j ks H1 H' hn hl] at h
  by_cases hk:j∈ks
  ·rw [if_pos hk] at h
   obtain ⟨i,hi⟩:=pC hk
   rw [hi] at h
   exact .inl ⟨hk,i,pH hi,h⟩
  ·rw [if_neg hk] at h
   exact .inr ⟨hk,h⟩
 have hobj:∀j o,(if j=k then some o1 else vf H' (v8 ks H1) j)=some o→(∃i,zd (H1++[some o1]) i=some o∧(i=H1.length∧j=k∨i<H1.length∧ks[i]?=some j∧j≠k))∨(j∉ks∧j≠k∧H' j=some o):=by
  intro j o h
  by_cases e:j=k
  ·rw [if_pos e] at h
   obtain rfl:=Option.some.inj h
   exact .inl ⟨_,hlast,.inl ⟨rfl,e⟩⟩
  ·rw [if_neg e] at h
   rcases hupd j o h with ⟨_,i,h1,h2⟩|⟨h1,h2⟩
   ·exact .inl ⟨i,hget i o h2,.inr ⟨hlt1 i o h2,h1,e⟩⟩
   ·exact .inr ⟨h1,e,h2⟩
 have holdn:∀j o,H' j=some o→o.n≠n:=fun j o h e=>hfr (e▸hI.dobj j o h)
 have holdr:∀j o,H' j=some o→K'.real o.n→K.real o.n:=fun j o h hr=>(hre _ hr).resolve_right (holdn j o h)
 have hblk:∀i o,zd (H1++[some o1]) i=some o→K'.real o.n→w.heap.size≤K'.μ o.n∨∃k o',k∈ks∧H' k=some o'∧K.real o'.n∧K.μ o'.n=K'.μ o.n:=by
  intro i o h hr
  rcases (hB.own i o h hr).2 with h1|h1
  ·exact .inl h1
  ·exact .inr (hlent _ h1)
 have hsep:∀i o j o2,zd (H1++[some o1]) i=some o→K'.real o.n→j∉ks→H' j=some o2→K'.real o2.n→K'.μ o.n≠K'.μ o2.n:=by
  intro i o j o2 h1 r1 h2 h3 r2 he
  have r2':=holdr j o2 h3 r2
  rw [(hkeep _ r2').2] at he
  rcases hblk i o h1 r1 with h|⟨k',o',hk',h',hr',he'⟩
  ·have:=hI.lt _ r2'
   omega
  ·exact h2 ((hI.inj k' j o' o2 h' h3 hr' r2' (he'.trans he))▸hk')
 refine ⟨hm,⟨hm.ext.os.trans hI.ext.os,hm.ext.tape.trans hI.ext.tape,hm.ext.output.trans hI.ext.output,Nat.le_trans hI.ext.size hm.ext.size,fun g hg hW=>?_,fun g cs t fr hh=>?_,hI.ext.maps.trans hm.ext.maps⟩,⟨fun m h=>?_,fun m h hlt=>?_,fun m h=>?_,fun g hg=>?_⟩,fun j o h=>?_,fun k1 k2 p1 p2 h1 h2 r1 r2 he=>?_,hB.dr,hB.lt,fun j o h=>?_,fun j o h hr=>?_,hI.gl⟩
 ·rw [←hI.ext.keep g hg hW]
  refine hB.ext.keep g (Nat.lt_of_lt_of_le hg hI.ext.size) (fun hl=>?_)
  obtain ⟨k,o,_,h,hr,he⟩:=hlent g hl
  rcases (hI.own k o h hr).2 with h1|h1
  ·omega
  ·exact hW (he▸h1)
 ·obtain ⟨c1,fr1,h1,e1⟩:=hI.ext.shape g cs t fr hh
  obtain ⟨c2,fr2,h2,e2⟩:=hm.ext.shape g c1 t fr1 h1
  exact ⟨c2,fr2,h2,e2.trans e1⟩
 ·rcases (hd m).1 h with h|h
  ·exact hI.base.dom m h
  ·exact .inr (by omega)
 ·rcases hre m h with h|h
  ·exact hI.base.old m h hlt
  ·omega
 ·have h1:=hI.base.keep m h
  have h2:=hkeep m h1.1
  exact ⟨h2.1,h2.2.trans h1.2⟩
 ·rw [←hI.base.M g hg]
  exact hMM g (Nat.lt_of_lt_of_le hg hI.ext.size)
 ·rcases hobj j o h with ⟨i,hi,_⟩|⟨hk,_,hi⟩
  ·exact hB.obj i o hi
  ·refine (hI.obj j o hi).mono hm (fun h1 h2=>h1 (holdr j o hi h2)) (fun hr=>hB.ext.keep _ (hI.lt _ hr) (fun hl=>?_))
   obtain ⟨k',o',hk',h',hr',he⟩:=hlent _ hl
   exact hk ((hI.inj k' j o' o h' hi hr' hr he)▸hk')
 ·rcases hobj k1 p1 h1 with ⟨i1,e1,c1⟩|⟨m1,_,e1⟩<;>rcases hobj k2 p2 h2 with ⟨i2,e2,c2⟩|⟨m2,_,e2⟩
  ·have:=hB.inj i1 i2 p1 p2 e1 e2 r1 r2 he
   subst this
   rcases c1 with ⟨c1,c1'⟩|⟨c1,c1',_⟩<;>rcases c2 with ⟨c2,c2'⟩|⟨c2,c2',_⟩
   ·rw [c1',c2']
   ·omega
   ·omega
   ·rw [c1'] at c2';exact Option.some.inj c2'
  ·exact absurd he (hsep i1 p1 k2 p2 e1 r1 m2 e2 r2)
  ·exact absurd he.symm (hsep i2 p2 k1 p1 e2 r2 m1 e1 r1)
  ·have q1:=holdr k1 p1 e1 r1
   have q2:=holdr k2 p2 e2 r2
   exact hI.inj k1 k2 p1 p2 e1 e2 q1 q2 ((hkeep _ q1).2.symm.trans (he.trans (hkeep _ q2).2))
 ·rcases hobj j o h with ⟨i,hi,_⟩|⟨hk,_,hi⟩
  ·exact hB.dobj i o hi
  ·exact (hd _).2 (.inl (hI.dobj j o hi))
 ·rcases hobj j o h with ⟨i,hi,_⟩|⟨hk,_,hi⟩
  ·refine ⟨(hB.own i o hi hr).1,?_⟩
   rcases hblk i o hi hr with h1|⟨k',o',hk',h',hr',he'⟩
   ·exact .inl (Nat.le_trans hI.ext.size h1)
   ·have:=(hI.own k' o' h' hr').2
    rw [he'] at this
    exact this
  ·have q:=holdr j o hi hr
   rw [(hkeep _ q).2]
   exact ⟨(hMM _ (hI.lt _ q)).2 (hI.own j o hi q).1,(hI.own j o hi q).2⟩
theorem aT {Γ:Gm} {K:Kr} {H':Nat→Option zj} {H:HL} {w w':World} (hI:Inv Γ K H' w) {ks ns:List Nat} (hn:(ks++ns).Nodup) (ht:∀k∈ks,H' k=zd H k) {n c:Nat} (hfr:∀m,n≤m→m<n+c→¬K.dom m) (hg0:Γ.g0≤n) {H1:HL} (hl:H1.length=(ks++ns).length) {K':Kr}
  (hd:∀m,K'.dom m↔K.dom m∨(n≤m∧m<n+c)) (hre:∀m,K'.real m→K.real m∨(n≤m∧m<n+c)) (hB:Inv (yZ K w n (yO H ks)) K' (zd H1) w'):yF K w K' w'∧Inv Γ K' (vf H' (v8 (ks++ns) H1)) w':=by
 have hkeep:∀m,K.real m→K'.real m∧K'.μ m=K.μ m:=fun m h=>hB.base.keep m h
 have hlent:∀g,(yZ K w n (yO H ks)).W0 g→∃k o,k∈ks∧H' k=some o∧K.real o.n∧K.μ o.n=g:=by
  rintro g ⟨i,o,h,hr,he⟩
  rw [uq] at h
  cases hk:ks[i]? with
  |none=>rw [hk] at h;cases h
  |some k=>rw [hk] at h;exact ⟨k,o,List.mem_of_getElem? hk,(ht k (List.mem_of_getElem? hk)).trans h,hr,he⟩
 have hMM:∀g,g<w.heap.size→(K'.M g↔K.M g):=fun g hg=>by
  have:=hB.base.M g hg
  exact ⟨fun h=>(this.1 h).1,fun h=>this.2 ⟨h,hg⟩⟩
 have hm:yF K w K' w':=⟨hB.ext.weaken (fun g hg hW=>by
  obtain ⟨k,o,_,h,hr,he⟩:=hlent g hW
  rw [←he]
  exact (hI.own k o h hr).1),hkeep,fun g hg h=>(hMM g hg).1 h⟩
 have hobj:∀j o,vf H' (v8 (ks++ns) H1) j=some o→(∃i,zd H1 i=some o∧(ks++ns)[i]?=some j)∨(j∉ks∧H' j=some o):=by
  intro j o h
  rw [nj j (ks++ns) H1 H' hn hl] at h
  by_cases hk:j∈ks++ns
  ·rw [if_pos hk] at h
   obtain ⟨i,hi⟩:=pC hk
   rw [hi] at h
   exact .inl ⟨i,h,pH hi⟩
  ·rw [if_neg hk] at h
   exact .inr ⟨fun q=>hk (List.mem_append.2 (.inl q)),h⟩
 have holdn:∀j o,H' j=some o→¬(n≤o.n∧o.n<n+c):=fun j o h e=>hfr o.n e.1 e.2 (hI.dobj j o h)
 have holdr:∀j o,H' j=some o→K'.real o.n→K.real o.n:=fun j o h hr=>(hre _ hr).resolve_right (holdn j o h)
 have hblk:∀i o,zd H1 i=some o→K'.real o.n→w.heap.size≤K'.μ o.n∨∃k o',k∈ks∧H' k=some o'∧K.real o'.n∧K.μ o'.n=K'.μ o.n:=by
  intro i o h hr
  rcases (hB.own i o h hr).2 with h1|h1
  ·exact .inl h1
  ·exact .inr (hlent _ h1)
 have hsep:∀i o j o2,zd H1 i=some o→K'.real o.n→j∉ks→H' j=some o2→K'.real o2.n→K'.μ o.n≠K'.μ o2.n:=by
  intro i o j o2 h1 r1 h2 h3 r2 he
  have r2':=holdr j o2 h3 r2
  rw [(hkeep _ r2').2] at he
  rcases hblk i o h1 r1 with h|⟨k',o',hk',h',hr',he'⟩
  ·have:=hI.lt _ r2'
   omega
  ·exact h2 ((hI.inj k' j o' o2 h' h3 hr' r2' (he'.trans he))▸hk')
 refine ⟨hm,⟨hm.ext.os.trans hI.ext.os,hm.ext.tape.trans hI.ext.tape,hm.ext.output.trans hI.ext.output,Nat.le_trans hI.ext.size hm.ext.size,fun g hg hW=>?_,fun g cs t fr hh=>?_,hI.ext.maps.trans hm.ext.maps⟩,⟨fun m h=>?_,fun m h hlt=>?_,fun m h=>?_,fun g hg=>?_⟩,fun j o h=>?_,fun k1 k2 p1 p2 h1 h2 r1 r2 he=>?_,hB.dr,hB.lt,fun j o h=>?_,fun j o h hr=>?_,hI.gl⟩
 ·rw [←hI.ext.keep g hg hW]
  refine hB.ext.keep g (Nat.lt_of_lt_of_le hg hI.ext.size) (fun hl=>?_)
  obtain ⟨k,o,_,h,hr,he⟩:=hlent g hl
  rcases (hI.own k o h hr).2 with h1|h1
  ·omega
  ·exact hW (he▸h1)
 ·obtain ⟨c1,fr1,h1,e1⟩:=hI.ext.shape g cs t fr hh
  obtain ⟨c2,fr2,h2,e2⟩:=hm.ext.shape g c1 t fr1 h1
  exact ⟨c2,fr2,h2,e2.trans e1⟩
 ·rcases (hd m).1 h with h|h
  ·exact hI.base.dom m h
  ·exact .inr (by have:=h.1;omega)
 ·rcases hre m h with h|h
  ·exact hI.base.old m h hlt
  ·exact absurd h.1 (by omega)
 ·have h1:=hI.base.keep m h
  have h2:=hkeep m h1.1
  exact ⟨h2.1,h2.2.trans h1.2⟩
 ·rw [←hI.base.M g hg]
  exact hMM g (Nat.lt_of_lt_of_le hg hI.ext.size)
 ·rcases hobj j o h with ⟨i,hi,_⟩|⟨hk,hi⟩
  ·exact hB.obj i o hi
  ·refine (hI.obj j o hi).mono hm (fun h1 h2=>h1 (holdr j o hi h2)) (fun hr=>hB.ext.keep _ (hI.lt _ hr) (fun hl=>?_))
   obtain ⟨k',o',hk',h',hr',he⟩:=hlent _ hl
   exact hk ((hI.inj k' j o' o h' hi hr' hr he)▸hk')
 ·rcases hobj k1 p1 h1 with ⟨i1,e1,c1⟩|⟨m1,e1⟩<;>rcases hobj k2 p2 h2 with ⟨i2,e2,c2⟩|⟨m2,e2⟩
  ·have:=hB.inj i1 i2 p1 p2 e1 e2 r1 r2 he
   subst this
   rw [c1] at c2
   exact Option.some.inj c2
  ·exact absurd he (hsep i1 p1 k2 p2 e1 r1 m2 e2 r2)
  ·exact absurd he.symm (hsep i2 p2 k1 p1 e2 r2 m1 e1 r1)
  ·have q1:=holdr k1 p1 e1 r1
   have q2:=holdr k2 p2 e2 r2
   exact hI.inj k1 k2 p1 p2 e1 e2 q1 q2 ((hkeep _ q1).2.symm.trans (he.trans (hkeep _ q2).2))
 ·rcases hobj j o h with ⟨i,hi,_⟩|⟨hk,hi⟩
  ·exact hB.dobj i o hi
  ·exact (hd _).2 (.inl (hI.dobj j o hi))
 ·rcases hobj j o h with ⟨i,hi,_⟩|⟨hk,hi⟩
  ·refine ⟨(hB.own i o hi hr).1,?_⟩
   rcases hblk i o hi hr with h1|⟨k',o',hk',h',hr',he'⟩
   ·exact .inl (Nat.le_trans hI.ext.size h1)
   ·have:=(hI.own k' o' h' hr').2
    rw [he'] at this
    exact this
  ·have q:=holdr j o hi hr
   rw [(hkeep _ q).2]
   exact ⟨(hMM _ (hI.lt _ q)).2 (hI.own j o hi q).1,(hI.own j o hi q).2⟩
theorem qh {P:Program} {N:Nat} {ops:Array Oper}:∀ {l:List Oper} {xs:List XOp},xT P N ops l xs=true→l.length=xs.length∧∀(i:Nat) (o:Oper) (x:XOp),l[i]?=some o→xs[i]?=some x→ab P N ops o x=true
 |[],[],_=>⟨rfl,fun i o x h=>by simp at h⟩
 |[],_::_,h=>by simp [xT] at h
 |_::_,[],h=>by simp [xT] at h
 |o::l,x::xs,h=>by
  simp only [xT,Bool.and_eq_true] at h
  obtain ⟨h1,h2⟩:=qh h.2
  refine ⟨by simp [h1],fun i o' x' ho hx=>?_⟩
  cases i with
  |zero=>simp at ho hx;rw [←ho,←hx];exact h.1
  |succ i=>exact h2 i o' x' (by simpa using ho) (by simpa using hx)
def Zb (P:Program) (o:Oper) (rs:List Sl) (tm:Env) (H:HL) (gen:Nat) (d:DV) (touch:List Nat) (wr:List (Nat×Option zj)) (g:Nat):Prop:=
 ∀(Γ:Gm) (K:Kr) (H':Nat→Option zj) (a:Act) (w:World) (Q:Exit→Act→World→Prop) (next:Act→World→Prop),
  Inv Γ K H' w→(∀k∈touch,H' k=zd H k)→(∀s∈rs,ze K w (tm.get s) (a.tmps.getD s.nat undef))→(∀n,gen≤n→n<gen+g→¬K.dom n)→Γ.g0≤gen→(∃G,∀n,K.dom n→n<G)→
  (∀(K':Kr) (w':World) (v:Value),yF K w K' w'→Inv Γ K' (vf H' wr) w'→ze K' w' d v→(∀n,K'.dom n→K.dom n∨(gen≤n∧n<gen+g))→next (a.put o.dst v) w')→
  o.wp P a w next Q
def dB (P:Program) (ops:Array Oper) (o:Oper) (rs:List Sl) (tm:Env) (H:HL) (gen:Nat) (d:DV) (touch:List Nat) (wr:List (Nat×Option zj)) (g:Nat):Prop:=
 ∀(Γ:Gm) (K:Kr) (H':Nat→Option zj) (a:Act) (w:World) (Q:Exit→Act→World→Prop) (next:Act→World→Prop),
  Inv Γ K H' w→(∀k∈touch,H' k=zd H k)→(∀s∈rs,ze K w (tm.get s) (a.tmps.getD s.nat undef))→(∀n,gen≤n→n<gen+g→¬K.dom n)→Γ.g0≤gen→(∃G,∀n,K.dom n→n<G)→
  (∀(K':Kr) (w':World) (v:Value),yF K w K' w'→Inv Γ K' (vf H' wr) w'→ze K' w' d v→(∀n,K'.dom n→K.dom n∨(gen≤n∧n<gen+g))→next (a.put o.dst v) w')→
  if Region.wanted o (yielded ops a.tmps) then o.wp P a w next Q else next (a.put o.dst undef) w
def ep:Option (Sl×Bool)→List Sl
 |some (s,_)=>[s]
 |none=>[]
def XOp.reads (x:XOp):List Sl:=x.op.reads++ep x.g
theorem qd:∀(ks:List Nat) (H1:HL),H1.length=ks.length→y9 (v8 ks H1)=ks
 |[],[],_=>rfl
 |[],_::_,h=>by simp at h
 |_::_,[],h=>by simp at h
 |k::r,o::s,h=>by simp [v8,y9,qd r s (by simpa using h)]
section
variable {P:Program} {ops:Array Oper} {o:Oper} {rs:List Sl} {F:List XOp→St→List Rec→Prop} {r:List XOp} {st:St} {dst:Option Sl} {tr:List Rec}
theorem Z7 {f:FuncId} {ds ds':List DV} {D:DV} {H1:HL} {ks:List Nat} {tm:Env} {H:HL} {gen:Nat} (hleaf:wL P o rs tm f ds) (hds:∀K w vs,zA K w ds vs→zA K w ds' vs) (hn:ks.Nodup) (hl:H1.length=ks.length)
  (hspec:zE P f ds' (yO H ks) (fun d H=>d=D∧H=H1)):Zb P o rs tm H gen D ks (v8 ks H1) 0:=by
 intro Γ K H' a w Q next hI ht hr hf hg0 hG hnext
 obtain ⟨G,hG⟩:=hG
 obtain ⟨vs,e1,e2⟩:=hleaf hspec.1 K a w hr
 have hc:=hspec.2 K w vs G (lu hI hn ht G) hG (vv (hds K w vs e2))
 unfold Oper.wp
 rw [e1]
 refine hc.mono fun e w' h=>?_
 obtain ⟨v,d,H1',rfl,⟨rfl,rfl⟩,hB,hv⟩:=h
 obtain ⟨m1,m2⟩:=YY hI hn ht hl hB
 exact hnext (K.cut w) w' v m1 m2 hv (fun n h=>.inl h)
theorem nP:∀(ks:List Nat) (H1:HL) (k:Nat) (o:Option zj),H1.length=ks.length→y9 (v8 ks H1++[(k,o)])=ks++[k]
 |[],[],k,o,_=>rfl
 |[],_::_,_,_,h=>by simp at h
 |_::_,[],_,_,h=>by simp at h
 |j::r,p::s,k,o,h=>by
  have:=nP r s k o (by simpa using h)
  simp [v8,y9,this]
theorem iF:∀(l:List (Nat×Option zj)) (H:Nat→Option zj) (k:Nat) (o:Option zj),vf H (l++[(k,o)])=fun j=>if j=k then o else vf H l j
 |[],H,k,o=>rfl
 |(j,p)::r,H,k,o=>iF r (fun q=>if q=j then p else H q) k o
theorem br {f:FuncId} {ds ds':List DV} {D:Nat→DV} {H1:HL} {ks:List Nat} {k sz:Nat} {xs:List (List DV)} {tm:Env} {H:HL} {gen:Nat} (hleaf:wL P o rs tm f ds) (hds:∀K w vs,zA K w ds vs→zA K w ds' vs) (hn:ks.Nodup) (hl:H1.length=ks.length)
  (hspec:uO P f ds' (yO H ks) (fun n d H=>d=D n∧H=H1++[some ⟨n,sz,xs⟩])):Zb P o rs tm H gen (D gen) (ks++[k]) (v8 ks H1++[(k,some ⟨gen,sz,xs⟩)]) 1:=by
 intro Γ K H' a w Q next hI ht hr hf hg0 hG hnext
 obtain ⟨G,hG⟩:=hG
 obtain ⟨vs,e1,e2⟩:=hleaf hspec.1 K a w hr
 have ht':∀j∈ks,H' j=zd H j:=fun j hj=>ht j (List.mem_append.2 (.inl hj))
 have hc:=hspec.2 K w vs G (lu hI hn ht' G) hG (vv (hds K w vs e2))
 unfold Oper.wp
 rw [e1]
 refine hc.mono fun e w' h=>?_
 obtain ⟨v,rfl,h⟩:=h
 have hfr:¬K.dom gen:=hf gen (Nat.le_refl _) (by omega)
 obtain ⟨K',d,H1',⟨rfl,rfl⟩,hd,hre,hB,hv⟩:=h gen hfr
 obtain ⟨m1,m2⟩:=b7 hI hn ht' hfr hg0 hl rfl k hd hre hB
 refine hnext K' w' v m1 ?_ hv (fun n h=>?_)
 ·rw [iF]
  exact m2
 ·rcases (hd n).1 h with h|h
  ·exact .inl h
  ·exact .inr (by omega)
theorem ba {f:FuncId} {ds ds':List DV} {c:Nat} {D:Nat→DV} {H1:Nat→HL} {ks ns:List Nat} {tm:Env} {H:HL} {gen:Nat} (hleaf:wL P o rs tm f ds) (hds:∀K w vs,zA K w ds vs→zA K w ds' vs) (hn:(ks++ns).Nodup) (hl:(H1 gen).length=(ks++ns).length)
  (hspec:xt P f ds' (yO H ks) c (fun n d H=>d=D n∧H=H1 n)):Zb P o rs tm H gen (D gen) (ks++ns) (v8 (ks++ns) (H1 gen)) c:=by
 intro Γ K H' a w Q next hI ht hr hf hg0 hG hnext
 obtain ⟨G,hG⟩:=hG
 obtain ⟨vs,e1,e2⟩:=hleaf hspec.1 K a w hr
 have ht':∀j∈ks,H' j=zd H j:=fun j hj=>ht j (List.mem_append.2 (.inl hj))
 have hn':ks.Nodup:=(List.nodup_append.1 hn).1
 have hc:=hspec.2 K w vs G (lu hI hn' ht' G) hG (vv (hds K w vs e2))
 unfold Oper.wp
 rw [e1]
 refine hc.mono fun e w' h=>?_
 obtain ⟨v,rfl,h⟩:=h
 obtain ⟨K',d,H1',⟨rfl,rfl⟩,hd,hre,hB,hv⟩:=h gen hf
 obtain ⟨m1,m2⟩:=aT hI hn ht' hf hg0 hl hd hre hB
 exact hnext K' w' v m1 m2 hv (fun n h=>(hd n).1 h)
theorem ve:∀ {res:Res},res.all (fun d t wr g=>Stp P o rs st.tm st.H st.gen d t wr g) (fun f ds=>wL P o rs st.tm f ds)→zF P F r st dst tr res→
  ∃d t wr g,Zb P o rs st.tm st.H st.gen d t wr g∧F r ⟨uh st.tm dst d,xu st.H wr,st.gen+g⟩ (⟨t,y9 wr⟩::tr)
 |.ok d t wr g,ha,h=>⟨d,t,wr,g,fun Γ K H' a w Q next hI ht hr hf hg0 _ hnext=>ha Γ K H' a w Q next hI ht hr hf hg0 hnext,h⟩
 |.ite t x y,ha,h=>by
  cases t with
  |true=>exact ve (ha.1 rfl) h
  |false=>exact ve (ha.2 rfl) h
 |.need p x,ha,h=>ve (ha h.1) h.2
 |.alt x y,ha,h=>by
  rcases h with h|h
  ·exact ve ha.1 h
  ·exact ve ha.2 h
 |.call f ds,ha,h=>by
  rcases h with ⟨ks,ds',D,H1,h1,h2,h3,h4,h5⟩|⟨ks,ds',D,H1,k,sz,xs,h1,h2,h3,h4,h5⟩|⟨ks,ns,ds',c,D,H1,h1,h2,h3,h4,h5⟩
  ·refine ⟨D,ks,v8 ks H1,0,Z7 ha h1 h2 h3 h4,?_⟩
   rw [qd ks H1 h3]
   exact h5
  ·refine ⟨D st.gen,ks++[k],v8 ks H1++[(k,some ⟨st.gen,sz,xs⟩)],1,br ha h1 h2 h3 h4,?_⟩
   rw [nP ks H1 k _ h3]
   exact h5
  ·refine ⟨D st.gen,ks++ns,v8 (ks++ns) (H1 st.gen),c,ba ha h1 h2 h3 h4,?_⟩
   rw [qd (ks++ns) (H1 st.gen) h3]
   exact h5
 |.bad,_,h=>h.elim
theorem oy {d:DV} {t:List Nat} {wr:List (Nat×Option zj)} {g:Nat} {rs':List Sl} {tm:Env} {H:HL} {gen:Nat} (h:Zb P o rs tm H gen d t wr g) (hsub:∀s∈rs,s∈rs')
  (hw:∀(K:Kr) (w:World) (a:Act),(∀s∈rs',ze K w (tm.get s) (a.tmps.getD s.nat undef))→Region.wanted o (yielded ops a.tmps)=true):dB P ops o rs' tm H gen d t wr g:=by
 intro Γ K H' a w Q next hI ht hr hf hg0 hG hnext
 rw [if_pos (hw K w a hr)]
 exact h Γ K H' a w Q next hI ht (fun s hs=>hr s (hsub s hs)) hf hg0 hG hnext
theorem kH {rs':List Sl} {tm:Env} {H:HL} {gen:Nat} (hw:∀(K:Kr) (w:World) (a:Act),(∀s∈rs',ze K w (tm.get s) (a.tmps.getD s.nat undef))→Region.wanted o (yielded ops a.tmps)=false):dB P ops o rs' tm H gen (.v undef) [] [] 0:=by
 intro Γ K H' a w Q next hI ht hr hf hg0 hG hnext
 rw [if_neg (by rw [hw K w a hr];simp)]
 exact hnext K w undef (yF.refl K w) hI (.v undef) (fun n h=>.inl h)
theorem gW {N:Nat} {x:XOp} (hok:ab P N ops o x=true) (h:zF P F r st x.dst tr (gd st.tm (ex1 st x.op) x.g)) :
  ∃d t wr g,dB P ops o x.reads st.tm st.H st.gen d t wr g∧F r ⟨uh st.tm x.dst d,xu st.H wr,st.gen+g⟩ (⟨t,y9 wr⟩::tr):=by
 simp only [ab,Bool.and_eq_true] at hok
 obtain ⟨⟨h1,h2⟩,h3⟩:=hok
 have hall:=aK (st:=st) h1
 unfold gd at h
 split at h
 ·rename_i hg
  rw [hg] at h3
  have hgn:o.guard=none:=by
   unfold Vr at h3
   split at h3<;>simp_all
  obtain ⟨d,t,wr,g,e1,e2⟩:=ve hall h
  exact ⟨d,t,wr,g,oy e1 (fun s hs=>List.mem_append.2 (.inl hs)) (fun K w a _=>by simp [Region.wanted,hgn]),e2⟩
 ·rename_i s b hg
  rw [hg] at h3
  obtain ⟨j,hj,hgs⟩:∃j,o.guard=some (j,b)∧(ops[j]?).bind (·.dst)=some s.nat:=by
   unfold Vr at h3
   split at h3
   ·simp_all
   ·rename_i j b' s' c' hgo hx
    simp only [Option.some.injEq,Prod.mk.injEq] at hx
    obtain ⟨rfl,rfl⟩:=hx
    simp only [Bool.and_eq_true,decide_eq_true_eq,beq_iff_eq] at h3
    exact ⟨j,by rw [hgo,h3.1],h3.2⟩
   ·cases h3
  unfold gd2 at h
  split at h
  ·rename_i t ht
   have hy:∀(K:Kr) (w:World) (a:Act),(∀q∈x.reads,ze K w (st.tm.get q) (a.tmps.getD q.nat undef))→Region.wanted o (yielded ops a.tmps)=(t == b):=by
    intro K w a hr
    have hv:=hr s (List.mem_append.2 (.inr (by rw [hg];simp [ep])))
    rw [ht] at hv
    have e:=zq hv
    have e2:a.tmps[s.nat]?=some (.bool t):=by
     rw [Array.getD_eq_getD_getElem?] at e
     cases hq:a.tmps[s.nat]? with
     |none=>rw [hq] at e;simp [undef] at e
     |some q=>rw [hq] at e;simp at e;rw [e]
    simp only [Region.wanted,hj,yielded,hgs,Option.bind_some,e2]
    cases t<;>cases b<;>rfl
   have hrun:∀e:(t == b)=true,∀ {res},res.all (fun d t wr g=>Stp P o x.op.reads st.tm st.H st.gen d t wr g) (fun f ds=>wL P o x.op.reads st.tm f ds)→zF P F r st x.dst tr res→
     ∃d t wr g,dB P ops o x.reads st.tm st.H st.gen d t wr g∧F r ⟨uh st.tm x.dst d,xu st.H wr,st.gen+g⟩ (⟨t,y9 wr⟩::tr):=by
    intro e res ha hh
    obtain ⟨d,t',wr,g,e1,e2⟩:=ve ha hh
    exact ⟨d,t',wr,g,oy e1 (fun s hs=>List.mem_append.2 (.inl hs)) (fun K w a hr=>(hy K w a hr).trans e),e2⟩
   have hskip:∀e:(t == b)=false,zF P F r st x.dst tr iN→∃d t wr g,dB P ops o x.reads st.tm st.H st.gen d t wr g∧F r ⟨uh st.tm x.dst d,xu st.H wr,st.gen+g⟩ (⟨t,y9 wr⟩::tr):=by
    intro e hh
    exact ⟨.v undef,[],[],0,kH (fun K w a hr=>(hy K w a hr).trans e),hh⟩
   cases b<;>cases t
   ·exact hrun rfl hall h
   ·exact hskip rfl h
   ·exact hskip rfl h
   ·exact hrun rfl hall h
  ·rename_i cs ht
   refine ⟨.v undef,[],[],0,kH (fun K w a hr=>?_),h⟩
   have hv:=hr s (List.mem_append.2 (.inr (by rw [hg];simp [ep])))
   rw [ht] at hv
   have e:=zq hv
   have e2:∀v,a.tmps[s.nat]?=some v→v=.tuple cs:=by
    intro v hq
    rw [Array.getD_eq_getD_getElem?,hq] at e
    simpa using e
   simp only [Region.wanted,hj,yielded,hgs,Option.bind_some]
   cases hq:a.tmps[s.nat]? with
   |none=>rfl
   |some v=>rw [e2 v hq];rfl
  ·exact h.elim
theorem dD {Γ:Gm} {N:Nat} {Q:St→List Rec→Prop} {Q':Exit→Act→World→Prop} (hQ:∀st tr K a w,Rel Γ N st K a w→Q st tr→Q' .normal a w):∀(l:List Oper) (xs:List XOp) (i n:Nat) (st:St) (tr:List Rec) (K:Kr) (a:Act) (w:World),
  (∀j,l[j]?=ops[i+j]?)→xT P N ops l xs=true→run P Q n xs st tr→Rel Γ N st K a w→wpOps P ops Q' (List.range' i l.length) a w
 |[],[],i,n,st,tr,K,a,w,_,_,h,hR=>by
  cases n with
  |zero=>exact h.elim
  |succ n=>exact hQ st tr K a w hR h
 |[],_::_,_,_,_,_,_,_,_,_,hok,_,_=>by simp [xT] at hok
 |_::_,[],_,_,_,_,_,_,_,_,hok,_,_=>by simp [xT] at hok
 |o::l,x::xs,i,n,st,tr,K,a,w,hl,hok,h,hR=>by
  cases n with
  |zero=>exact h.elim
  |succ n=>
   simp only [xT,Bool.and_eq_true] at hok
   obtain ⟨d,t,wr,g,hd,hF⟩:=gW hok.1 h
   have h0:ops[i]?=some o:=by simpa using (hl 0).symm
   have hgo:=hd Γ K (zd st.H) a w Q' (wpOps P ops Q' (List.range' (i+1) l.length)) hR.inv (fun k _=>rfl) (fun s _=>hR.tm s) (fun m h1 _ h3=>by have:=hR.fresh m h3;omega) hR.g0 ⟨st.gen,hR.fresh⟩ (fun K' w' v m hI hv hdom=>by
    rw [pq] at hI
    have hok1:=hok.1
    simp only [ab,Bool.and_eq_true] at hok1
    refine dD hQ l xs (i+1) n _ _ K' _ w' (fun j=>by rw [show i+1+j=i+(j+1) by omega,←hl (j+1)];simp) hok.2 hF (Wj hR m hI (g:=st.gen+g) (fun q hq=>?_) (by have:=hR.g0;omega) hok1.1.2 hv)
    rcases hdom q hq with h1|h1
    ·have:=hR.fresh q h1;omega
    ·exact h1.2)
   rw [List.length_cons,List.range'_succ]
   simp only [wpOps,h0]
   split
   ·rename_i hw
    rw [if_pos hw] at hgo
    exact .inl hgo
   ·rename_i hw
    rw [if_neg hw] at hgo
    exact hgo
end
section replay
variable {L V:Type} (W:Nat→L→Prop) [∀i l,Decidable (W i l)] (val:Nat→L→V) (v0:L→V)
def rep (E:Nat→Bool):Nat→L→V
 |0,l=>v0 l
 |k+1,l=>if E k=true∧W k l then val k l else rep E k l
theorem wv {E E':Nat→Bool} {l:L}:∀(k:Nat),(∀i,i<k→W i l→E i=E' i)→rep W val v0 E k l=rep W val v0 E' k l
 |0,_=>rfl
 |k+1,h=>by
  have ih:=wv k (fun i hi hw=>h i (by omega) hw)
  simp only [rep]
  by_cases hw:W k l
  ·rw [h k (by omega) hw,ih]
  ·rw [if_neg (fun q=>hw q.2),if_neg (fun q=>hw q.2),ih]
theorem md {E:Nat→Bool} {l:L} {i:Nat} (hE:E i=true) (hw:W i l):∀(k:Nat),i<k→(∀j,i<j→j<k→W j l→E j=false)→rep W val v0 E k l=val i l
 |0,h,_=>by omega
 |k+1,h,hj=>by
  simp only [rep]
  by_cases hik:i=k
  ·subst hik
   rw [if_pos ⟨hE,hw⟩]
  ·rw [if_neg (fun q=>by rw [hj k (by omega) (by omega) q.2] at q;exact absurd q.1 (by simp))]
   exact md hE hw k (by omega) (fun j h1 h2=>hj j h1 (by omega))
theorem rX {l:L} (i:Nat):∀(k:Nat),i≤k→rep W val v0 (fun j=>decide (j<i)) k l=rep W val v0 (fun _=>true) i l
 |0,h=>by
  have:i=0:=by omega
  subst this
  rfl
 |k+1,h=>by
  by_cases hik:i=k+1
  ·subst hik
   exact wv W val v0 _ (fun j hj _=>by simp [hj])
  ·simp only [rep]
   rw [if_neg (fun q=>by have:=q.1;simp at this;omega)]
   exact rX i k (by omega)
end replay
structure xH where
 (dst:Option Sl) (rs:List Sl) (d:DV) (t:List Nat) (wr:List (Nat×Option zj)) (g:Nat)
def Zq (st:St) (s:xH):St:=⟨uh st.tm s.dst s.d,xu st.H s.wr,st.gen+s.g⟩
def wP (st:St) (l:List xH) (i:Nat):St:=(l.take i).foldl Zq st
theorem pP {st:St} {l:List xH} {i:Nat} {s:xH} (h:l[i]?=some s):wP st l (i+1)=Zq (wP st l i) s:=by
 obtain ⟨hi,he⟩:=List.getElem?_eq_some_iff.1 h
 unfold wP
 rw [List.take_succ_eq_append_getElem hi,List.foldl_append,he]
 rfl
def qs:List xH→List Rec→List Rec
 |[],tr=>tr
 |s::r,tr=>qs r (⟨s.t,y9 s.wr⟩::tr)
theorem kq {P:Program} {N:Nat} {ops:Array Oper} {Q:St→List Rec→Prop}:∀(l:List Oper) (xs:List XOp) (n:Nat) (st:St) (tr:List Rec),xT P N ops l xs=true→run P Q n xs st tr→
  ∃S:List xH,S.length=xs.length∧(∀(i:Nat) (s:xH) (x:XOp) (o:Oper),S[i]?=some s→xs[i]?=some x→l[i]?=some o→s.dst=x.dst∧s.rs=x.reads∧dB P ops o s.rs (wP st S i).tm (wP st S i).H (wP st S i).gen s.d s.t s.wr s.g)∧
   Q (wP st S S.length) (qs S tr)
 |[],[],n,st,tr,_,h=>by
  cases n with
  |zero=>exact h.elim
  |succ n=>exact ⟨[],rfl,fun i s x o h=>by simp at h,h⟩
 |[],_::_,_,_,_,hok,_=>by simp [xT] at hok
 |_::_,[],_,_,_,hok,_=>by simp [xT] at hok
 |o::l,x::xs,n,st,tr,hok,h=>by
  cases n with
  |zero=>exact h.elim
  |succ n=>
   simp only [xT,Bool.and_eq_true] at hok
   obtain ⟨d,t,wr,g,hd,hF⟩:=gW hok.1 h
   obtain ⟨S,h1,h2,h3⟩:=kq l xs n _ _ hok.2 hF
   have hst:∀i,wP st (⟨x.dst,x.reads,d,t,wr,g⟩::S) (i+1)=wP ⟨uh st.tm x.dst d,xu st.H wr,st.gen+g⟩ S i:=fun i=>rfl
   refine ⟨⟨x.dst,x.reads,d,t,wr,g⟩::S,by simp [h1],fun i s y p hs hx ho=>?_,?_⟩
   ·cases i with
    |zero=>
     simp at hs hx ho
     subst hs hx ho
     exact ⟨rfl,rfl,hd⟩
    |succ i=>
     rw [hst]
     exact h2 i s y p (by simpa using hs) (by simpa using hx) (by simpa using ho)
   ·rw [List.length_cons,hst]
    exact h3
def yX (ops:Array Oper) (j:Nat):List Nat:=
 match ops[j]? with
 |some o=>(o.after.toList.filter (Region.binds .any)).map (·.on)
 |none=>[]
def gw (ops:Array Oper) (j i:Nat):Prop:=∀E:Nat→Bool,(∀q,E q=true→∀e∈yX ops q,E e=true)→(∀e∈yX ops j,E e=true)→E i=true
def eh (ps:List Nat) (e:Nat):Nat:=(ps[e]?).getD 0
def eC (ps:List Nat):List Nat→Nat
 |[]=>0
 |e::r=>((1 <<< e) ||| eh ps e) ||| eC ps r
theorem iS {ps:List Nat} {i:Nat}:∀ {d:List Nat},(eC ps d).testBit i=true→∃e∈d,i=e∨(eh ps e).testBit i=true
 |[],h=>by simp [eC] at h
 |e::r,h=>by
  simp only [eC,Nat.testBit_or,Bool.or_eq_true] at h
  rcases h with (h|h)|h
  ·rw [Nat.one_shiftLeft,Nat.testBit_two_pow] at h
   exact ⟨e,by simp,.inl (by simpa using (of_decide_eq_true h).symm)⟩
  ·exact ⟨e,by simp,.inr h⟩
  ·obtain ⟨e',h1,h2⟩:=iS h
   exact ⟨e',by simp [h1],h2⟩
def gK (ds:List (List Nat)) (ps:List Nat):Bool:=(List.range ds.length).all fun j=>((ds[j]?).getD []).all (· < j)&&Nat.beq (eh ps j) (eC ps ((ds[j]?).getD []))
def YM (a:Nat):List Nat→Bool
 |[]=>false
 |x::r=>decide (a=x)||YM a r
def bJ (a:Sl):List Sl→Bool
 |[]=>false
 |x::r=>decide (a=x)||bJ a r
def m_:List Nat→List Nat→Bool
 |[],_=>false
 |x::r,l=>YM x l||m_ r l
theorem gv {a:Nat}:∀ {l:List Nat},YM a l=true↔a∈l
 |[]=>by simp [YM]
 |x::r=>by simp [YM,gv (l:=r)]
theorem nT {a:Sl}:∀ {l:List Sl},bJ a l=true↔a∈l
 |[]=>by simp [bJ]
 |x::r=>by simp [bJ,nT (l:=r)]
theorem wU {l:List Nat}:∀ {r:List Nat},m_ r l=true↔∃x,x∈r∧x∈l
 |[]=>by simp [m_]
 |x::r=>by simp [m_,gv,wU (r:=r)]
def u0 (x y:XOp):Bool:=
 (match x.dst with
  |some s=>bJ s y.reads||decide (y.dst=some s)
  |none=>false) ||
 (match y.dst with
  |some s=>bJ s x.reads
  |none=>false)
def w8 (a b:Rec):Bool:=m_ a.wr b.touch||m_ a.touch b.wr||m_ a.wr b.wr
def jt (xs:List XOp) (ps:List Nat) (n:Nat):Bool:=(List.range n).all fun j=>(List.range j).all fun i=>match xs[i]?,xs[j]? with
 |some x,some y=>!(u0 x y)||(eh ps j).testBit i
 |_,_=>false
def Rec.bare:Rec→Bool
 |⟨[],[]⟩=>true
 |_=>false
def na (ps:List Nat) (rs:List Rec) (n:Nat):Bool:=decide (rs.length=n)&&(List.range n).all fun j=>match rs[j]? with
 |some b=>b.bare||(List.range j).all fun i=>match rs[i]? with
  |some a=>!(w8 a b)||(eh ps j).testBit i
  |none=>false
 |none=>false
theorem aW (ops:Array Oper) (j:Nat):(((List.range ops.size).map (yX ops))[j]?).getD []=yX ops j:=by
 rw [List.getElem?_map]
 by_cases h:j<ops.size
 ·rw [List.getElem?_range h];rfl
 ·rw [List.getElem?_eq_none (by simpa using h)]
  unfold yX
  rw [Array.getElem?_eq_none (by omega)]
  rfl
theorem c6 {ops:Array Oper} {ps:List Nat} (h:gK ((List.range ops.size).map (yX ops)) ps=true) {j:Nat} (hj:j<ops.size):(∀e∈yX ops j,e<j)∧eh ps j=eC ps (yX ops j):=by
 unfold gK at h
 simp only [List.length_map,List.length_range,List.all_eq_true,List.mem_range,aW,Bool.and_eq_true,decide_eq_true_eq] at h
 exact ⟨(h j hj).1,Nat.eq_of_beq_eq_true (h j hj).2⟩
theorem gB {ops:Array Oper} {ps:List Nat} (h:gK ((List.range ops.size).map (yX ops)) ps=true):∀(j:Nat),j<ops.size→∀i,(eh ps j).testBit i=true→gw ops j i:=by
 intro j
 induction j using Nat.strongRecOn with
 |_ j ih=>
  intro hj i hi E hE hd
  obtain ⟨h1,h2⟩:=c6 h hj
  rw [h2] at hi
  obtain ⟨e,he,rfl|hb⟩:=iS hi
  ·exact hd i he
  ·exact ih e (h1 e he) (Nat.lt_trans (h1 e he) hj) i hb E hE (hE e (hd e he))
theorem sb (k:Nat):∀(wr:List (Nat×Option zj)) (H:Nat→Option zj),vf H wr k=if k∈y9 wr then vf (fun _=>none) wr k else H k
 |[],H=>by simp [vf,y9]
 |(j,o)::r,H=>by
  have h1:=sb k r (fun q=>if q=j then o else H q)
  have h2:=sb k r (fun q=>if q=j then o else none)
  show vf (fun q=>if q=j then o else H q) r k=if k∈y9 ((j,o)::r) then vf (fun q=>if q=j then o else none) r k else H k
  rw [h1,h2]
  by_cases hm:k∈y9 r
  ·rw [if_pos hm,if_pos (by simp [y9,hm]),if_pos hm]
  ·rw [if_neg hm]
   by_cases hj:k=j
   ·rw [if_pos hj,if_pos (by simp [y9,hj]),if_neg hm,if_pos hj]
   ·rw [if_neg hj,if_neg (by simp [y9,hj,hm])]
section
variable {P:Program} {N:Nat} {ops:Array Oper} {xs:List XOp} {S:List xH} {st:St}
def wT (S:List xH) (i:Nat) (s:Sl):Prop:=∃q,S[i]?=some q∧q.dst=some s
def wH (S:List xH) (i:Nat) (k:Nat):Prop:=∃q,S[i]?=some q∧k∈y9 q.wr
instance (S:List xH) (i:Nat) (s:Sl):Decidable (wT S i s):=
 match h:S[i]? with
 |none=>isFalse (fun ⟨q,e,_⟩=>by rw [h] at e;cases e)
 |some q=>if hq:q.dst=some s then isTrue ⟨q,h,hq⟩ else isFalse (fun ⟨p,e,h2⟩=>by rw [h] at e;exact hq (Option.some.inj e▸h2))
instance (S:List xH) (i:Nat) (k:Nat):Decidable (wH S i k):=
 match h:S[i]? with
 |none=>isFalse (fun ⟨q,e,_⟩=>by rw [h] at e;cases e)
 |some q=>if hq:k∈y9 q.wr then isTrue ⟨q,h,hq⟩ else isFalse (fun ⟨p,e,h2⟩=>by rw [h] at e;exact hq (Option.some.inj e▸h2))
def vT (S:List xH) (i:Nat) (_:Sl):DV:=match S[i]? with|some q=>q.d|none=>.any
def vH (S:List xH) (i:Nat) (k:Nat):Option zj:=match S[i]? with|some q=>vf (fun _=>none) q.wr k|none=>none
def rT (S:List xH) (st:St) (E:Nat→Bool) (k:Nat) (s:Sl):DV:=rep (wT S) (vT S) st.tm.get E k s
def rH (S:List xH) (st:St) (E:Nat→Bool) (k:Nat) (j:Nat):Option zj:=rep (wH S) (vH S) (zd st.H) E k j
theorem Z4:∀(i:Nat),i≤S.length→∀s,(wP st S i).tm.get s=rT S st (fun _=>true) i s
 |0,_,s=>rfl
 |i+1,h,s=>by
  have hq:S[i]?=some S[i]:=List.getElem?_eq_getElem (by omega)
  rw [pP hq]
  have ih:=Z4 i (by omega) s
  show (uh (wP st S i).tm S[i].dst S[i].d).get s=rep (wT S) (vT S) st.tm.get (fun _=>true) (i+1) s
  simp only [rep,true_and]
  by_cases hw:wT S i s
  ·rw [if_pos hw]
   obtain ⟨q,e,hd⟩:=hw
   rw [hq] at e
   obtain rfl:=Option.some.inj e
   simp only [vT,hq,uh,hd,Env.get_set,if_true]
  ·rw [if_neg hw]
   cases hd:S[i].dst with
   |none=>exact ih
   |some t=>
    simp only [uh,Env.get_set]
    rw [if_neg (fun e=>hw ⟨_,hq,by rw [hd,e]⟩)]
    exact ih
theorem Vx:∀(i:Nat),i≤S.length→∀k,zd (wP st S i).H k=rH S st (fun _=>true) i k
 |0,_,k=>rfl
 |i+1,h,k=>by
  have hq:S[i]?=some S[i]:=List.getElem?_eq_getElem (by omega)
  rw [pP hq]
  have ih:=Vx i (by omega) k
  show zd (xu (wP st S i).H S[i].wr) k=rep (wH S) (vH S) (zd st.H) (fun _=>true) (i+1) k
  simp only [rep,true_and]
  rw [←pq,sb]
  by_cases hw:wH S i k
  ·rw [if_pos hw]
   obtain ⟨q,e,hd⟩:=hw
   rw [hq] at e
   obtain rfl:=Option.some.inj e
   rw [if_pos hd]
   simp only [vH,hq]
  ·rw [if_neg hw,if_neg (fun e=>hw ⟨_,hq,e⟩)]
   exact ih
def sH (st:St) (S:List xH) (i:Nat):Nat:=(wP st S i).gen
theorem sU {i:Nat} {s:xH} (h:S[i]?=some s):sH st S (i+1)=sH st S i+s.g:=by
 unfold sH
 rw [pP h]
 rfl
theorem w9:∀(j i:Nat),i≤j→j≤S.length→sH st S i≤sH st S j
 |0,i,h,_=>by
  have:i=0:=by omega
  subst this
  exact Nat.le_refl _
 |j+1,i,h,hl=>by
  by_cases e:i=j+1
  ·subst e;exact Nat.le_refl _
  ·have hq:S[j]?=some S[j]:=List.getElem?_eq_getElem (by omega)
   have:=w9 j i (by omega) (by omega)
   rw [sU hq]
   omega
structure Vd (ops:Array Oper) (xs:List XOp) (S:List xH):Prop where
 back:∀j:Nat,∀e∈yX ops j,j<ops.size→e<j
 slot:∀(i j:Nat) (x y:XOp),i<j→xs[i]?=some x→xs[j]?=some y→u0 x y=true→gw ops j i
 site:∀(i j:Nat) (a b:xH),i<j→S[i]?=some a→S[j]?=some b→w8 ⟨a.t,y9 a.wr⟩ ⟨b.t,y9 b.wr⟩=true→gw ops j i
theorem lz:∀(S:List xH) (tr:List Rec),qs S tr=(S.map fun s=>(⟨s.t,y9 s.wr⟩:Rec)).reverse++tr
 |[],tr=>rfl
 |s::r,tr=>by simp [qs,lz r]
theorem aB {a b:Rec} (h:b.bare=true):w8 a b=false:=by
 obtain ⟨t,w⟩:=b
 cases t with
 |cons=>cases h
 |nil=>
  cases w with
  |cons=>cases h
  |nil=>
   cases hc:w8 a ⟨[],[]⟩ with
   |false=>rfl
   |true=>
    simp only [w8,Bool.or_eq_true] at hc
    rcases hc with (hc|hc)|hc
    ·obtain ⟨x,_,h2⟩:=wU.1 hc;cases h2
    ·obtain ⟨x,_,h2⟩:=wU.1 hc;cases h2
    ·obtain ⟨x,_,h2⟩:=wU.1 hc;cases h2
theorem X0 {xs:List XOp} {ps:List Nat} (hx:xs.length=ops.size) (hp:gK ((List.range ops.size).map (yX ops)) ps=true) (hs:jt xs ps xs.length=true) (h:na ps (qs S []).reverse xs.length=true):S.length=ops.size∧Vd ops xs S:=by
 unfold na at h
 unfold jt at hs
 rw [lz] at h
 simp only [List.append_nil,List.reverse_reverse,Bool.and_eq_true,decide_eq_true_eq,List.length_map,List.all_eq_true,List.mem_range] at h hs
 obtain ⟨hl,ha⟩:=h
 refine ⟨by rw [hl,hx],⟨fun j e he hj=>(c6 hp hj).1 e he,fun i j x y hij hxi hyj hc=>?_,fun i j a b hij hai hbj hc=>?_⟩⟩
 ·have hj:j<xs.length:=(List.getElem?_eq_some_iff.1 hyj).1
  have hq:=hs j hj i hij
  rw [hxi,hyj] at hq
  dsimp only at hq
  rw [hc] at hq
  exact gB hp j (by omega) i (by simpa using hq)
 ·have hj:j<xs.length:=by rw [←hl];exact (List.getElem?_eq_some_iff.1 hbj).1
  have hq:=ha j hj
  rw [List.getElem?_map,hbj] at hq
  simp only [Option.map_some,Bool.or_eq_true] at hq
  rcases hq with hq|hq
  ·rw [aB hq] at hc
   cases hc
  ·simp only [List.all_eq_true,List.mem_range] at hq
   have hq:=hq i hij
   rw [List.getElem?_map,hai] at hq
   simp only [Option.map_some] at hq
   rw [hc] at hq
   exact gB hp j (by omega) i (by simpa using hq)
def lst (listed:Array Bool) (i:Nat):Bool:=listed.getD i false
theorem XT (listed:Array Bool) (i j:Nat) (hi:i<listed.size):lst (listed.setIfInBounds i true) j=if j=i then true else lst listed j:=by
 unfold lst
 simp only [Array.getD_eq_getD_getElem?]
 by_cases e:j=i
 ·subst e
  simp [hi]
 ·rw [if_neg e,Array.getElem?_setIfInBounds_ne (fun q=>e q.symm)]
structure UK (Γ:Gm) (N:Nat) (ops:Array Oper) (S:List xH) (st:St) (listed:Array Bool) (K:Kr) (a:Act) (w:World):Prop where
 size:listed.size=ops.size
 closed:∀j,lst listed j=true→∀e∈yX ops j,lst listed e=true
 inv:Inv Γ K (rH S st (lst listed) ops.size) w
 names:∀m,K.dom m→m<st.gen∨∃i s,S[i]?=some s∧lst listed i=true∧sH st S i≤m∧m<sH st S i+s.g
 asize:a.tmps.size=N
 defers:a.defers=[]
 tm:∀s:Sl,ze K w (rT S st (lst listed) ops.size s) (a.tmps.getD s.nat undef)
theorem oL {E E':Nat→Bool} {i:Nat} (h1:E i=false) (h2:∀j,E' j=if j=i then true else E j):∀(l:List Nat),l.Nodup→i∈l→(l.filter E').length=(l.filter E).length+1
 |[],_,h=>by simp at h
 |x::r,hn,h=>by
  have hn':=List.nodup_cons.1 hn
  by_cases e:x=i
  ·subst e
   have e1:r.filter E'=r.filter E:=List.filter_congr fun j hj=>by
    rw [h2 j,if_neg]
    rintro rfl
    exact hn'.1 hj
   simp [List.filter_cons,h1,h2 x,e1]
  ·have ih:=oL h1 h2 r hn'.2 ((List.mem_cons.1 h).resolve_left (fun q=>e q.symm))
   have e2:E' x=E x:=by rw [h2 x,if_neg e]
   simp only [List.filter_cons,e2]
   split<;>simp [ih]
theorem bG {Γ:Gm} {Q':Exit→Act→World→Prop} (hl:S.length=ops.size) (hx:xs.length=ops.size) (hok:xT P N ops ops.toList xs=true) (hord:Vd ops xs S) (hg0:Γ.g0≤st.gen)
  (hS:∀(i:Nat) (s:xH) (x:XOp) (o:Oper),S[i]?=some s→xs[i]?=some x→ops[i]?=some o→s.dst=x.dst∧s.rs=x.reads∧dB P ops o s.rs (wP st S i).tm (wP st S i).H (wP st S i).gen s.d s.t s.wr s.g)
  (hQ:∀K a w,Rel Γ N (wP st S S.length) K a w→Q' .normal a w):∀(fuel:Nat) (listed:Array Bool) (K:Kr) (a:Act) (w:World),ops.size≤fuel+((List.range ops.size).filter (lst listed)).length→UK Γ N ops S st listed K a w→wpAny P .any ops Q' fuel listed a w:=by
 have hdone:∀(listed:Array Bool) (K:Kr) (a:Act) (w:World),Region.ready .any ops listed=[]→UK Γ N ops S st listed K a w→Q' .normal a w:=by
  intro listed K a w hr hI
  have hall:∀j,j<ops.size→lst listed j=true:=by
   intro j
   induction j using Nat.strongRecOn with
   |_ j ih=>
    intro hj
    cases hE:lst listed j with
    |true=>rfl
    |false=>
     exfalso
     have hm:j∈Region.ready .any ops listed:=by
      refine mem_ready.2 ⟨?_,ops[j],Array.getElem?_eq_getElem hj,fun e he hb=>?_⟩
      ·have hs:=hI.size
       unfold lst at hE
       have hlt:j<listed.size:=by omega
       simp only [Array.getD,hlt] at hE ⊢
       exact hE
      ·have hd:e.on∈yX ops j:=by
        unfold yX
        rw [Array.getElem?_eq_getElem hj]
        exact List.mem_map.2 ⟨e,List.mem_filter.2 ⟨by simpa using he,hb⟩,rfl⟩
       have hlt:=hord.back j _ hd hj
       exact ih _ hlt (by omega)
     rw [hr] at hm
     cases hm
  have hT:∀s,rT S st (lst listed) ops.size s=(wP st S S.length).tm.get s:=by
   intro s
   rw [Z4 _ (Nat.le_refl _),hl]
   exact wv _ _ _ _ (fun i hi _=>hall i hi)
  have hH:rH S st (lst listed) ops.size=zd (wP st S S.length).H:=by
   funext k
   rw [Vx _ (Nat.le_refl _),hl]
   exact wv _ _ _ _ (fun i hi _=>hall i hi)
  refine hQ K a w ⟨by rw [←hH];exact hI.inv,fun n hn=>?_,?_,hI.asize,hI.defers,fun s=>by rw [←hT];exact hI.tm s⟩
  ·rcases hI.names n hn with h|⟨i,s,hi,_,h1,h2⟩
   ·exact Nat.lt_of_lt_of_le h (w9 (st:=st) (S:=S) _ 0 (Nat.zero_le _) (Nat.le_refl _))
   ·have hlt:=(List.getElem?_eq_some_iff.1 hi).1
    have:=w9 (st:=st) (S:=S) S.length (i+1) (by omega) (Nat.le_refl _)
    rw [sU hi] at this
    exact Nat.lt_of_lt_of_le h2 this
  ·exact Nat.le_trans hg0 (w9 (st:=st) (S:=S) _ 0 (Nat.zero_le _) (Nat.le_refl _))
 intro fuel
 induction fuel with
 |zero=>
  intro listed K a w hfuel hI
  have hr:Region.ready .any ops listed=[]:=by
   have hall:∀j∈List.range ops.size,lst listed j=true:=by
    have:((List.range ops.size).filter (lst listed)).length=(List.range ops.size).length:=by
     have h1:=List.length_filter_le (lst listed) (List.range ops.size)
     simp at h1 hfuel ⊢
     omega
    exact List.length_filter_eq_length_iff.1 this
   refine List.eq_nil_iff_forall_not_mem.2 fun j hj=>?_
   obtain ⟨h1,o,ho,_⟩:=mem_ready.1 hj
   have hlt:j<ops.size:=(Array.getElem?_eq_some_iff.1 ho).1
   have:=hall j (List.mem_range.2 hlt)
   have hs:=hI.size
   unfold lst at this
   have hlt':j<listed.size:=by omega
   simp only [Array.getD,hlt'] at h1 this
   simp_all
  exact ⟨hr,hdone listed K a w hr hI⟩
 |succ fuel ih=>
  intro listed K a w hfuel hI
  refine ⟨fun hr=>hdone listed K a w hr hI,fun i hi=>?_⟩
  obtain ⟨hnl,o,ho,haft⟩:=mem_ready.1 hi
  have hin:i<ops.size:=(Array.getElem?_eq_some_iff.1 ho).1
  have hils:i<listed.size:=by rw [hI.size];exact hin
  have hEi:lst listed i=false:=by
   unfold lst
   simp only [Array.getD,hils] at hnl ⊢
   exact hnl
  have hdir:∀e∈yX ops i,lst listed e=true:=by
   intro e he
   unfold yX at he
   rw [ho] at he
   obtain ⟨ed,hed,rfl⟩:=List.mem_map.1 he
   obtain ⟨h1,h2⟩:=List.mem_filter.1 hed
   exact haft ed (by simpa using h1) h2
  have hsi:S[i]?=some S[i]:=List.getElem?_eq_getElem (by omega)
  have hxi:xs[i]?=some xs[i]:=List.getElem?_eq_getElem (by omega)
  obtain ⟨s1,s2,s3⟩:=hS i _ _ _ hsi hxi ho
  have hgap:∀j,j<ops.size→(∃x,xs[j]?=some x∧(j<i→u0 x xs[i]=true)∧(i<j→u0 xs[i] x=true))∨(∃q,S[j]?=some q∧(j<i→w8 ⟨q.t,y9 q.wr⟩ ⟨S[i].t,y9 S[i].wr⟩=true)∧(i<j→w8 ⟨S[i].t,y9 S[i].wr⟩ ⟨q.t,y9 q.wr⟩=true))→lst listed j=decide (j<i):=by
   intro j hj hc
   have hp1:j<i→gw ops i j:=by
    intro hlt
    rcases hc with ⟨x,hx,h1,_⟩|⟨q,hq,h1,_⟩
    ·exact hord.slot j i x _ hlt hx hxi (h1 hlt)
    ·exact hord.site j i q _ hlt hq hsi (h1 hlt)
   have hp2:i<j→gw ops j i:=by
    intro hlt
    rcases hc with ⟨x,hx,_,h1⟩|⟨q,hq,_,h1⟩
    ·exact hord.slot i j _ x hlt hxi hx (h1 hlt)
    ·exact hord.site i j _ q hlt hsi hq (h1 hlt)
   rcases Nat.lt_trichotomy j i with hlt|rfl|hgt
   ·rw [hp1 hlt _ hI.closed hdir]
    simp [hlt]
   ·rw [hEi];simp
   ·have hm:=hp2 hgt
    have:decide (j<i)=false:=by simp;omega
    rw [this]
    cases hEj:lst listed j with
    |false=>rfl
    |true=>
     rw [hm _ hI.closed (hI.closed j hEj)] at hEi
     cases hEi
  have hwt:∀j q,wT S j q→∃x,xs[j]?=some x∧x.dst=some q∧j<ops.size:=by
   rintro j q ⟨sj,hj,hd⟩
   have hjl:j<ops.size:=by rw [←hl];exact (List.getElem?_eq_some_iff.1 hj).1
   have hxj:xs[j]?=some xs[j]:=List.getElem?_eq_getElem (by omega)
   have:=(hS j _ _ _ hj hxj (Array.getElem?_eq_getElem hjl)).1
   exact ⟨_,hxj,by rw [←this];exact hd,hjl⟩
  have hwh:∀j k,wH S j k→∃q,S[j]?=some q∧k∈y9 q.wr∧j<ops.size:=by
   rintro j k ⟨sj,hj,hd⟩
   exact ⟨sj,hj,hd,by rw [←hl];exact (List.getElem?_eq_some_iff.1 hj).1⟩
  have htouch:∀k∈S[i].t,rH S st (lst listed) ops.size k=zd (wP st S i).H k:=by
   intro k hk
   rw [Vx i (by omega),rH,rH,←rX _ _ _ i ops.size (by omega)]
   refine wv _ _ _ _ (fun j hj hw=>hgap j hj (.inr ?_))
   obtain ⟨q,hq,hm,_⟩:=hwh j k hw
   refine ⟨q,hq,fun _=>?_,fun _=>?_⟩
   ·simp only [w8,Bool.or_eq_true]
    exact .inl (.inl (wU.2 ⟨k,hm,hk⟩))
   ·simp only [w8,Bool.or_eq_true]
    exact .inl (.inr (wU.2 ⟨k,hk,hm⟩))
  have hreads:∀q∈S[i].rs,ze K w ((wP st S i).tm.get q) (a.tmps.getD q.nat undef):=by
   intro q hq
   have e:rT S st (lst listed) ops.size q=(wP st S i).tm.get q:=by
    rw [Z4 i (by omega),rT,rT,←rX _ _ _ i ops.size (by omega)]
    refine wv _ _ _ _ (fun j hj hw=>hgap j hj (.inl ?_))
    obtain ⟨x,hx,hd,_⟩:=hwt j q hw
    rw [s2] at hq
    refine ⟨x,hx,fun _=>?_,fun _=>?_⟩
    ·simp only [u0,hd,Bool.or_eq_true]
     exact .inl (.inl (nT.2 hq))
    ·simp only [u0,hd,Bool.or_eq_true]
     exact .inr (nT.2 hq)
   rw [←e]
   exact hI.tm q
  have hfresh:∀m,(wP st S i).gen≤m→m<(wP st S i).gen+S[i].g→¬K.dom m:=by
   intro m h1 h2 hd
   rcases hI.names m hd with h|⟨j,s,hj,hEj,h3,h4⟩
   ·have:=w9 (st:=st) (S:=S) i 0 (Nat.zero_le _) (by omega)
    have e0:sH st S 0=st.gen:=rfl
    have e1:sH st S i=(wP st S i).gen:=rfl
    omega
   ·have hjl:=(List.getElem?_eq_some_iff.1 hj).1
    have e1:sH st S i=(wP st S i).gen:=rfl
    rcases Nat.lt_trichotomy j i with hlt|rfl|hgt
    ·have:=w9 (st:=st) (S:=S) i (j+1) (by omega) (by omega)
     rw [sU hj] at this
     omega
    ·rw [hEj] at hEi;cases hEi
    ·have:=w9 (st:=st) (S:=S) j (i+1) (by omega) (by omega)
     rw [sU hsi] at this
     omega
  have hgi:Γ.g0≤(wP st S i).gen:=Nat.le_trans hg0 (w9 (st:=st) (S:=S) i 0 (Nat.zero_le _) (by omega))
  have hbound:∃G,∀n,K.dom n→n<G:=by
   refine ⟨sH st S S.length,fun n hn=>?_⟩
   rcases hI.names n hn with h|⟨j,s,hj,_,h1,h2⟩
   ·exact Nat.lt_of_lt_of_le h (w9 (st:=st) (S:=S) _ 0 (Nat.zero_le _) (Nat.le_refl _))
   ·have hlt:=(List.getElem?_eq_some_iff.1 hj).1
    have:=w9 (st:=st) (S:=S) S.length (j+1) (by omega) (Nat.le_refl _)
    rw [sU hj] at this
    omega
  have hokl:=qh hok
  have hoki:=hokl.2 i o xs[i] (by rw [Array.getElem?_toList];exact ho) hxi
  simp only [ab,Bool.and_eq_true] at hoki
  have hgo:=s3 Γ K (rH S st (lst listed) ops.size) a w Q' (wpAny P .any ops Q' fuel (listed.setIfInBounds i true)) hI.inv htouch hreads hfresh hgi hbound (fun K' w' v m hI' hv hdom=>by
   have hls:=XT listed i (hi:=hils)
   refine ih _ K' _ w' ?_ ⟨by simp [hI.size],fun j hj e he=>?_,?_,fun m' hm'=>?_,?_,(by unfold Act.put;split<;>exact hI.defers),fun q=>?_⟩
   ·have:=oL (E:=lst listed) (E':=lst (listed.setIfInBounds i true)) hEi hls (List.range ops.size) List.nodup_range (List.mem_range.2 hin)
    rw [this]
    omega
   ·rw [hls] at hj ⊢
    by_cases hei:e=i
    ·rw [if_pos hei]
    ·rw [if_neg hei]
     by_cases hji:j=i
     ·subst hji;exact hdir e he
     ·rw [if_neg hji] at hj;exact hI.closed j hj e he
   ·have e:rH S st (lst (listed.setIfInBounds i true)) ops.size=vf (rH S st (lst listed) ops.size) S[i].wr:=by
     funext k
     rw [sb]
     by_cases hk:k∈y9 S[i].wr
     ·rw [if_pos hk]
      have:=md (wH S) (vH S) (zd st.H) (E:=lst (listed.setIfInBounds i true)) (l:=k) (i:=i) (by rw [hls,if_pos rfl]) ⟨_,hsi,hk⟩ ops.size hin (fun j hj1 hj2 hw=>by
       rw [hls,if_neg (by omega)]
       obtain ⟨q,hq,hm,_⟩:=hwh j k hw
       rw [hgap j hj2 (.inr ⟨q,hq,fun h=>by omega,fun _=>by simp only [w8,Bool.or_eq_true];exact .inr (wU.2 ⟨k,hk,hm⟩)⟩)]
       simp;omega)
      rw [rH,this]
      simp only [vH,hsi]
     ·rw [if_neg hk]
      refine wv _ _ _ _ (fun j hj hw=>?_)
      rw [hls,if_neg]
      rintro rfl
      obtain ⟨q,hq,hm,_⟩:=hwh j k hw
      rw [hsi] at hq
      obtain rfl:=Option.some.inj hq
      exact hk hm
    rw [e]
    exact hI'
   ·rcases hdom m' hm' with h|h
    ·rcases hI.names m' h with h1|⟨j,s,hj,hEj,h1,h2⟩
     ·exact .inl h1
     ·refine .inr ⟨j,s,hj,?_,h1,h2⟩
      rw [hls]
      split
      ·rfl
      ·exact hEj
    ·refine .inr ⟨i,_,hsi,by rw [hls,if_pos rfl],h.1,h.2⟩
   ·show (a.put o.dst v).tmps.size=N
    unfold Act.put
    split
    ·simp [hI.asize]
    ·exact hI.asize
   ·have hdst:ky N o.dst S[i].dst=true:=by rw [s1];exact hoki.1.2
    by_cases hq:wT S i q
    ·have e:=md (wT S) (vT S) st.tm.get (E:=lst (listed.setIfInBounds i true)) (l:=q) (i:=i) (by rw [hls,if_pos rfl]) hq ops.size hin (fun j hj1 hj2 hw=>by
      rw [hls,if_neg (by omega)]
      obtain ⟨x,hx,hd,_⟩:=hwt j q hw
      obtain ⟨x2,hx2,hd2,_⟩:=hwt i q hq
      rw [hxi] at hx2
      obtain rfl:=Option.some.inj hx2
      rw [hgap j hj2 (.inl ⟨x,hx,fun h=>by omega,fun _=>by simp only [u0,hd2,hd,Bool.or_eq_true,decide_eq_true_eq];exact .inl (.inr trivial)⟩)]
      simp;omega)
     rw [rT,e]
     simp only [vT,hsi]
     obtain ⟨q2,hq2,hd⟩:=hq
     rw [hsi] at hq2
     obtain rfl:=Option.some.inj hq2
     rw [hd] at hdst
     unfold ky at hdst
     split at hdst
     ·rename_i h1 h2;cases h2
     ·rename_i t q3 h1 h2
      obtain rfl:=Option.some.inj h2
      simp only [Bool.and_eq_true,decide_eq_true_eq] at hdst
      obtain ⟨rfl,hlt⟩:=hdst
      simp only [h1,Act.put]
      rw [lk _ _ _ _ (by rw [hI.asize];exact hlt),if_pos rfl]
      exact hv
     ·cases hdst
    ·have e:rT S st (lst (listed.setIfInBounds i true)) ops.size q=rT S st (lst listed) ops.size q:=by
      refine wv _ _ _ _ (fun j hj hw=>?_)
      rw [hls,if_neg]
      rintro rfl
      exact hq hw
     rw [e]
     have hold:=(hI.tm q).mono m
     unfold ky at hdst
     split at hdst
     ·rename_i h1 h2
      simp only [h1,Act.put]
      exact hold
     ·rename_i t q3 h1 h2
      simp only [Bool.and_eq_true,decide_eq_true_eq] at hdst
      obtain ⟨rfl,hlt⟩:=hdst
      simp only [h1,Act.put]
      rw [lk _ _ _ _ (by rw [hI.asize];exact hlt),if_neg]
      ·exact hold
      ·intro e2
       exact hq ⟨_,hsi,by rw [h2,Sl.nat_inj e2]⟩
     ·cases hdst)
  unfold wpOp
  simp only [ho]
  split
  ·rename_i hw
   rw [if_pos hw] at hgo
   exact .inl hgo
  ·rename_i hw
   rw [if_neg hw] at hgo
   exact hgo
end
inductive XC where
 |skip
 |ret
 |region (xs:List XOp)
 |regionD (ps:List Nat) (xs:List XOp)
 |seq (a b:XC)
 |cond (c:XA) (t e:XC)
 |block (id:Nat) (b:XC)
 |loop (b:XC)
 |exit (id:Nat)
def okC (P:Program) (N:Nat):Code→XC→Bool
 |c,.skip=>match c with|.skip=>true|_=>false
 |c,.ret=>match c with|.ret=>true|_=>false
 |c,.region xs=>match c with|.region _ ops draw=>(draw == false)&&xT P N ops ops.toList xs|_=>false
 |c,.regionD ds xs=>match c with|.region _ ops draw=>(draw == true)&&gK ((List.range ops.size).map (yX ops)) ds&&jt xs ds xs.length&&xT P N ops ops.toList xs|_=>false
 |c,.seq x y=>match c with|.seq a b=>okC P N a x&&okC P N b y|_=>false
 |c,.cond q x y=>match c with|.cond p a b=>okA p q&&okC P N a x&&okC P N b y|_=>false
 |c,.block i x=>match c with|.block j a=>decide (i=j)&&okC P N a x|_=>false
 |c,.loop x=>match c with|.loop a=>okC P N a x|_=>false
 |c,.exit i=>match c with|.exit j=>decide (i=j)|_=>false
termination_by structural _ x=>x
def XW (Γ:Gm) (P:Program) (N:Nat) (c:Code) (Q:Exit→St→Prop) (st:St):Prop:=
 ∀K a w,Rel Γ N st K a w→c.wp P (fun e a' w'=>∃st' K',Rel Γ N st' K' a' w'∧Q e st') a w
inductive KI where
 |code (x:XC)
 |block (id:Nat)
 |loop (J:St→Prop)
def WX (Γ:Gm) (P:Program) (N:Nat) (x:XC) (Q:Exit→St→Prop) (st:St):Prop:=∀c,okC P N c x=true→XW Γ P N c Q st
def vX (Γ:Gm) (P:Program) (N:Nat) (R:St→Prop):List KI→Exit→St→Prop
 |[],.normal,st=>R st
 |[],.ret,st=>R st
 |[],_,_=>False
 |.code x::k,.normal,st=>WX Γ P N x (vX Γ P N R k) st
 |.code _::k,.exit i,st=>vX Γ P N R k (.exit i) st
 |.code _::k,.ret,st=>vX Γ P N R k .ret st
 |.block _::k,.normal,st=>vX Γ P N R k .normal st
 |.block i::k,.exit j,st=>if j=i then vX Γ P N R k .normal st else vX Γ P N R k (.exit j) st
 |.block _::k,.ret,st=>vX Γ P N R k .ret st
 |.loop J::_,.normal,st=>J st
 |.loop _::k,.exit i,st=>vX Γ P N R k (.exit i) st
 |.loop _::k,.ret,st=>vX Γ P N R k .ret st
 |_::_,_,_=>False
def Go (Γ:Gm) (P:Program) (N:Nat) (R:St→Prop) (x:XC) (k:List KI) (st:St):Prop:=WX Γ P N x (vX Γ P N R k) st
def Nx (Γ:Gm) (P:Program) (N:Nat) (R:St→Prop) (k:List KI) (st:St):Prop:=vX Γ P N R k .normal st
def Ex (Γ:Gm) (P:Program) (N:Nat) (R:St→Prop) (k:List KI) (i:Nat) (st:St):Prop:=vX Γ P N R k (.exit i) st
section
variable {Γ:Gm} {P:Program} {N:Nat} {R:St→Prop} {k:List KI} {st:St}
theorem XW.mono {c:Code} {Q Q':Exit→St→Prop} (h:XW Γ P N c Q st) (hq:∀e s,Q e s→Q' e s):XW Γ P N c Q' st:=
 fun K a w hR=>wp_mono (h K a w hR) fun e a' w' ⟨s,K',h1,h2⟩=>⟨s,K',h1,hq e s h2⟩
theorem Wf (h:Nx Γ P N R k st):Go Γ P N R .skip k st:=by
 intro c hc K a w hR
 simp only [okC] at hc
 split at hc
 ·exact wp_skip ⟨st,K,hR,h⟩
 ·cases hc
theorem ro {st:St} (h:R st):∀(k:List KI),vX Γ P N R k .ret st
 |[]=>h
 |.code _::k=>ro h k
 |.block _::k=>ro h k
 |.loop _::k=>ro h k
theorem nD (h:R st):Go Γ P N R .ret k st:=by
 intro c hc K a w hR
 simp only [okC] at hc
 split at hc
 ·exact wp_ret ⟨st,K,hR,ro h k⟩
 ·cases hc
theorem WH {i:Nat} (h:Ex Γ P N R k i st):Go Γ P N R (.exit i) k st:=by
 intro c hc K a w hR
 simp only [okC] at hc
 split at hc
 ·have e:=of_decide_eq_true hc
  subst e
  exact wp_exit ⟨st,K,hR,h⟩
 ·cases hc
theorem wZ {x y:XC} (h:Go Γ P N R x (.code y::k) st):Go Γ P N R (.seq x y) k st:=by
 intro c hc K a w hR
 simp only [okC] at hc
 split at hc
 ·rename_i p q
  simp only [Bool.and_eq_true] at hc
  refine wp_seq (wp_mono (h p hc.1 K a w hR) ?_)
  rintro e a' w' ⟨s,K',h1,h2⟩
  cases e with
  |normal=>exact h2 q hc.2 K' a' w' h1
  |exit i=>exact ⟨s,K',h1,h2⟩
  |ret=>exact ⟨s,K',h1,h2⟩
  |goto l=>exact h2.elim
  |panic ch=>exact h2.elim
  |outgrown=>exact h2.elim
 ·cases hc
theorem ZZ {i:Nat} {x:XC} (h:Go Γ P N R x (.block i::k) st):Go Γ P N R (.block i x) k st:=by
 intro c hc K a w hR
 simp only [okC] at hc
 split at hc
 ·rename_i j p
  simp only [Bool.and_eq_true,decide_eq_true_eq] at hc
  obtain ⟨rfl,hc⟩:=hc
  refine wp_block (wp_mono (h p hc K a w hR) ?_)
  rintro e a' w' ⟨s,K',h1,h2⟩
  cases e with
  |normal=>exact ⟨s,K',h1,h2⟩
  |exit j=>
   simp only [Exit.inBlock]
   simp only [vX] at h2
   split
   ·rename_i e;rw [if_pos e] at h2;exact ⟨s,K',h1,h2⟩
   ·rename_i e;rw [if_neg e] at h2;exact ⟨s,K',h1,h2⟩
  |ret=>exact ⟨s,K',h1,h2⟩
  |goto l=>exact h2.elim
  |panic ch=>exact h2.elim
  |outgrown=>exact h2.elim
 ·cases hc
def lZ (Γ:Gm) (P:Program) (N:Nat) (R:St→Prop) (x y:XC) (k:List KI) (st:St):DV→Prop
 |.v (.bool t)=>match t with
  |true=>Go Γ P N R x k st
  |false=>Go Γ P N R y k st
 |.bl=>Go Γ P N R x k st∧Go Γ P N R y k st
 |_=>False
theorem WK {q:XA} {x y:XC} (h:lZ Γ P N R x y k st (evT st.tm q)):Go Γ P N R (.cond q x y) k st:=by
 intro c hc K a w hR
 simp only [okC] at hc
 split at hc
 ·rename_i p c1 c2
  simp only [Bool.and_eq_true] at hc
  have hv:=WI (fun s=>hR.tm s) hc.1.1
  unfold lZ at h
  split at h
  ·rename_i t he
   rw [he] at hv
   have e:=zq hv
   cases t with
   |true=>exact wp_cond_true e (h c1 hc.1.2 K a w hR)
   |false=>exact wp_cond_false e (h c2 hc.2 K a w hR)
  ·rename_i he
   rw [he] at hv
   generalize hy:a.eval p=yv at hv
   cases hv with
   |bl b=>cases b with
    |true=>exact wp_cond_true hy (h.1 c1 hc.1.2 K a w hR)
    |false=>exact wp_cond_false hy (h.2 c2 hc.2 K a w hR)
  ·exact h.elim
 ·cases hc
theorem Yj {x y:XC} (h1:Go Γ P N R x k st) (h2:Go Γ P N R y k st):lZ Γ P N R x y k st .bl:=⟨h1,h2⟩
theorem Wb {x y:XC}:lZ Γ P N R x y k st (.v (.bool true))=Go Γ P N R x k st:=rfl
theorem Wo {x y:XC}:lZ Γ P N R x y k st (.v (.bool false))=Go Γ P N R y k st:=rfl
theorem WQ {x y:XC} {t:Bool} (h1:t=true→Go Γ P N R x k st) (h2:t=false→Go Γ P N R y k st):lZ Γ P N R x y k st (.v (.bool t)):=by
 cases t with
 |true=>exact h1 rfl
 |false=>exact h2 rfl
def Vu (Γ:Gm) (P:Program) (N:Nat) (R:St→Prop) (k:List KI) (st:St) (_:List Rec):Prop:=Nx Γ P N R k st
theorem YO (n:Nat):List.range n=List.range' 0 n:=List.range_eq_range'
theorem au {xs:List XOp} (h:run P (Vu Γ P N R k) 1000 xs st []):Go Γ P N R (.region xs) k st:=by
 intro c hc K a w hR
 simp only [okC] at hc
 split at hc
 ·rename_i id ops draw
  simp only [Bool.and_eq_true,beq_iff_eq] at hc
  obtain ⟨rfl,hok⟩:=hc
  refine wp_region ?_
  rw [YO]
  have:=dD (Γ:=Γ) (ops:=ops) (Q:=Vu Γ P N R k) (Q':=fun e a' w'=>∃st' K',Rel Γ N st' K' a' w'∧vX Γ P N R k e st') (fun s tr K' a' w' h1 h2=>⟨s,K',h1,h2⟩) ops.toList xs 0 1000 st [] K a w (fun j=>by simp) hok h hR
  simpa using this
 ·cases hc
theorem ZW {K:Kr} {a:Act} {w:World} (hR:Rel Γ N st K a w):Rel Γ N st K a { w with drawn:=w.drawn+1 }:=by
 have hm:yF K w K { w with drawn:=w.drawn+1 }:=⟨Ext.heap_eq rfl rfl rfl rfl,fun n h=>⟨h,rfl⟩,fun g _ h=>h⟩
 have hI:=hR.inv
 refine ⟨⟨hI.ext.trans (Ext.heap_eq rfl rfl rfl rfl),hI.base,fun k o h=>(hI.obj k o h).mono hm id (fun _=>rfl),hI.inj,hI.dr,hI.lt,hI.dobj,hI.own,hI.gl⟩,hR.fresh,hR.g0,hR.size,hR.defers,fun s=>(hR.tm s).mono hm⟩
def Uf (Γ:Gm) (P:Program) (N:Nat) (R:St→Prop) (k:List KI) (ds:List Nat) (xs:List XOp) (st:St) (tr:List Rec):Prop:=na ds tr.reverse xs.length=true∧Nx Γ P N R k st
theorem fK {ds:List Nat} {xs:List XOp} {tr:List Rec} (h1:na ds tr.reverse xs.length=true) (h2:Nx Γ P N R k st):Uf Γ P N R k ds xs st tr:=⟨h1,h2⟩
theorem eQ (hm:P.follows .mixedOrders=true) {ds:List Nat} {xs:List XOp} (h:run P (Uf Γ P N R k ds xs) 1000 xs st []):Go Γ P N R (.regionD ds xs) k st:=by
 intro c hc K a w hR
 simp only [okC] at hc
 split at hc
 ·rename_i id ops draw
  simp only [Bool.and_eq_true,beq_iff_eq,decide_eq_true_eq] at hc
  obtain ⟨⟨⟨rfl,hps⟩,hsl⟩,hok⟩:=hc
  obtain ⟨S,h1,h2,h3,h4⟩:=kq ops.toList xs 1000 st [] hok h
  have hx:xs.length=ops.size:=by rw [← (qh hok).1];simp
  obtain ⟨hl,hord⟩:=X0 hx hps hsl h3
  refine wp_region_any hm ?_
  have hR':=ZW hR
  refine bG (Γ:=Γ) hl hx hok hord hR.g0 (fun i s x o e1 e2 e3=>h2 i s x o e1 e2 (by rw [Array.getElem?_toList];exact e3)) (fun K' a' w' hr=>⟨_,K',hr,h4⟩) ops.size _ K a _ (by omega) ?_
  have hz:∀j,lst (Array.replicate ops.size false) j=false:=by
   intro j
   unfold lst
   simp only [Array.getD_eq_getD_getElem?,Array.getElem?_replicate]
   split<;>rfl
  have hT:∀s,rT S st (lst (Array.replicate ops.size false)) ops.size s=st.tm.get s:=by
   intro s
   have:∀n,rT S st (lst (Array.replicate ops.size false)) n s=st.tm.get s:=by
    intro n
    induction n with
    |zero=>rfl
    |succ n ih=>
     show (if lst _ n=true∧wT S n s then _ else rT S st _ n s)=_
     rw [if_neg (by rw [hz];simp)]
     exact ih
   exact this _
  have hH:rH S st (lst (Array.replicate ops.size false)) ops.size=zd st.H:=by
   funext q
   have:∀n,rH S st (lst (Array.replicate ops.size false)) n q=zd st.H q:=by
    intro n
    induction n with
    |zero=>rfl
    |succ n ih=>
     show (if lst _ n=true∧wH S n q then _ else rH S st _ n q)=_
     rw [if_neg (by rw [hz];simp)]
     exact ih
   exact this _
  exact ⟨by simp,(fun j hj=>by rw [hz] at hj;exact absurd hj (by simp)),by rw [hH];exact hR'.inv,fun m hm=>.inl (hR'.fresh m hm),hR'.size,hR'.defers,fun s=>by rw [hT];exact hR'.tm s⟩
 ·cases hc
theorem XN {x:XC} (h:Go Γ P N R x k st):Nx Γ P N R (.code x::k) st:=h
theorem X5 {i:Nat} (h:Nx Γ P N R k st):Nx Γ P N R (.block i::k) st:=h
theorem zn {J:St→Prop} (h:J st):Nx Γ P N R (.loop J::k) st:=h
theorem VC (h:R st):Nx Γ P N R [] st:=h
theorem Xu {i:Nat} {x:XC} (h:Ex Γ P N R k i st):Ex Γ P N R (.code x::k) i st:=h
theorem Xy {i:Nat} {J:St→Prop} (h:Ex Γ P N R k i st):Ex Γ P N R (.loop J::k) i st:=h
theorem WB {i:Nat} (h:Nx Γ P N R k st):Ex Γ P N R (.block i::k) i st:=by
 show (if i=i then _ else _)
 rw [if_pos rfl]
 exact h
theorem Wr {i j:Nat} (hne:i≠j) (h:Ex Γ P N R k i st):Ex Γ P N R (.block j::k) i st:=by
 show (if i=j then _ else _)
 rw [if_neg hne]
 exact h
def Le (st st':St):Prop:=∀(Γ:Gm) (N:Nat) (K:Kr) (a:Act) (w:World),Rel Γ N st K a w→∃K',Rel Γ N st' K' a w
theorem Le.refl (st:St):Le st st:=fun Γ N K a w h=>⟨K,h⟩
theorem Le.trans {a b c:St} (h:Le a b) (k:Le b c):Le a c:=fun Γ N K x w hr=>let ⟨K',h'⟩:=h Γ N K x w hr;k Γ N K' x w h'
theorem vD {x:XC} {st':St} (hle:Le st st') (h:Go Γ P N R x k st'):Go Γ P N R x k st:=by
 intro c hc K a w hR
 obtain ⟨K',hR'⟩:=hle Γ N K a w hR
 exact h c hc K' a w hR'
theorem Wx {α:Type} (f:α→St) (m:α→Nat) (pre:α→Prop) {x:XC} (a0:α) (h0:pre a0) (hle:Le st (f a0))
  (round:∀a,pre a→Go Γ P N R x (.loop (fun s=>∃a',pre a'∧m a'<m a∧Le s (f a'))::k) (f a)):Go Γ P N R (.loop x) k st:=by
 intro c hc K a w hR
 simp only [okC] at hc
 split at hc
 ·rename_i b
  obtain ⟨K',hR'⟩:=hle Γ N K a w hR
  refine wp_loop_ghost (fun n a' w'=>∃p K1,pre p∧m p=n∧Rel Γ N (f p) K1 a' w') (m a0) ⟨a0,K',h0,rfl,hR'⟩ ?_
  rintro n a1 w1 ⟨p,K1,h1,rfl,h2⟩
  refine wp_mono (round p h1 b hc K1 a1 w1 h2) ?_
  rintro e a2 w2 ⟨s,K2,h3,h4⟩
  cases e with
  |normal=>
   obtain ⟨p',q1,q2,q3⟩:=h4
   obtain ⟨K3,h5⟩:=q3 Γ N K2 a2 w2 h3
   exact ⟨m p',q2,p',K3,q1,rfl,h5⟩
  |exit i=>exact ⟨s,K2,h3,h4⟩
  |ret=>exact ⟨s,K2,h3,h4⟩
  |goto l=>exact h4.elim
  |panic ch=>exact h4.elim
  |outgrown=>exact h4.elim
 ·cases hc
end
def leD (d:DV):DV→Prop
 |.any=>True
 |e=>d=e
def leN {α:Type} (z:α) (le:α→α→Prop):N8 α→N8 α→Prop
 |_,.nil=>True
 |.nil,.mk a b c d e f g h=>le z a∧le z b∧le z c∧le z d∧le z e∧le z f∧le z g∧le z h
 |.mk p q r s t u v w,.mk a b c d e f g h=>le p a∧le q b∧le r c∧le s d∧le t e∧le u f∧le v g∧le w h
def leR (x y:N8 DV):Prop:=leN .any leD x y
def leC (x y:N8 (N8 DV)):Prop:=leN .nil leR x y
def leE (x y:Env):Prop:=leN .nil leC x y
def leO (o:Option zj):Option zj→Prop
 |none=>True
 |some p=>o=some p
def leH:HL→HL→Prop
 |_,[]=>True
 |[],o::r=>leO none o∧leH [] r
 |x::s,o::r=>leO x o∧leH s r
theorem jA {α:Type} {z:α} {le:α→α→Prop} (hz:∀a,le a z) {x y:N8 α} (h:leN z le x y) (d:D8):le (x.get z d) (y.get z d):=by
 cases y with
 |nil=>exact hz _
 |mk a b c d e f g h=>
  cases x with
  |nil=>
   obtain ⟨h0,h1,h2,h3,h4,h5,h6,h7⟩:=h
   rename_i q
   cases q<;>assumption
  |mk a' b' c' d' e' f' g' h'=>
   obtain ⟨h0,h1,h2,h3,h4,h5,h6,h7⟩:=h
   rename_i q
   cases q<;>assumption
theorem XF (x:N8 DV):leR x .nil:=by unfold leR leN;cases x<;>trivial
theorem Ww (x:N8 (N8 DV)):leC x .nil:=by unfold leC leN;cases x<;>trivial
theorem WO {x y:Env} (h:leE x y) (s:Sl):leD (x.get s) (y.get s):=jA (fun _=>trivial) (jA XF (jA Ww h s.i) s.j) s.k
theorem Xz {K:Kr} {w:World} {d e:DV} {v:Value} (h:leD d e) (hv:ze K w d v):ze K w e v:=by
 unfold leD at h
 split at h
 ·exact .any v
 ·rw [←h];exact hv
theorem jd:∀ {x y:HL} (h:leH x y) (k:Nat) (o:zj),zd y k=some o→zd x k=some o
 |x,[],_,k,o,h=>by simp [zd] at h
 |[],q::r,h,k,o,hk=>by
  simp only [leH] at h
  cases k with
  |zero=>
   simp only [zd] at hk
   subst hk
   exact absurd h.1 (by simp [leO])
  |succ k=>exact jd h.2 k o (by simpa [zd] using hk)
 |p::s,q::r,h,k,o,hk=>by
  simp only [leH] at h
  cases k with
  |zero=>
   simp only [zd] at hk ⊢
   subst hk
   exact h.1
  |succ k=>exact jd h.2 k o (by simpa [zd] using hk)
theorem qI {Γ:Gm} {K:Kr} {H H':Nat→Option zj} {w:World} (h:Inv Γ K H w) (hs:∀k o,H' k=some o→H k=some o):Inv Γ K H' w:=
 ⟨h.ext,h.base,fun k o ho=>h.obj k o (hs k o ho),fun k1 k2 o1 o2 h1 h2=>h.inj k1 k2 o1 o2 (hs _ _ h1) (hs _ _ h2),h.dr,h.lt,fun k o ho=>h.dobj k o (hs k o ho),fun k o ho=>h.own k o (hs k o ho),h.gl⟩
theorem zo {st st':St} (h1:leE st.tm st'.tm) (h2:leH st.H st'.H) (h3:st.gen≤st'.gen):Le st st':=fun Γ N K a w h=>
 ⟨K,qI h.inv (jd h2),fun n hn=>Nat.lt_of_lt_of_le (h.fresh n hn) h3,Nat.le_trans h.g0 h3,h.size,h.defers,fun s=>Xz (WO h1 s) (h.tm s)⟩
theorem vA {st:St} (s:Sl) (k sz:Nat) {n:Nat} (h:st.tm.get s=.v (.slice none n 0)) (hn:n=0):Le st ⟨st.tm.set s (.sl k st.gen sz 0 0 false),y4 st.H k (some ⟨st.gen,sz,[]⟩),st.gen+1⟩:=by
 intro Γ N K a w hR
 subst hn
 let K':Kr:=⟨fun m=>K.dom m∨m=st.gen,K.real,K.μ,K.M⟩
 have hm:yF K w K' w:=⟨Ext.refl _ _,fun n h=>⟨h,rfl⟩,fun g _ h=>h⟩
 have hfr:¬K.dom st.gen:=fun h=>by have:=hR.fresh _ h;omega
 have hI:=hR.inv
 have hobj:∀j o,zd (y4 st.H k (some ⟨st.gen,sz,[]⟩)) j=some o→(j=k∧o=⟨st.gen,sz,[]⟩)∨zd st.H j=some o:=by
  intro j o ho
  rw [zY] at ho
  by_cases e:j=k
  ·rw [if_pos e] at ho;exact .inl ⟨e,(Option.some.inj ho).symm⟩
  ·rw [if_neg e] at ho;exact .inr ho
 have hnr:¬K.real st.gen:=fun h=>hfr (hI.dr _ h)
 refine ⟨K',⟨hI.ext,⟨fun m h=>?_,hI.base.old,hI.base.keep,hI.base.M⟩,fun j o ho=>?_,fun k1 k2 o1 o2 h1 h2 r1 r2 he=>?_,fun m h=>.inl (hI.dr m h),hI.lt,fun j o ho=>?_,fun j o ho hr=>?_,hI.gl⟩,fun m h=>?_,by have:=hR.g0;show Γ.g0≤st.gen+1;omega,hR.size,hR.defers,fun q=>?_⟩
 ·rcases h with h|h
  ·exact hI.base.dom m h
  ·exact .inr (by rw [h];exact hR.g0)
 ·rcases hobj j o ho with ⟨_,rfl⟩|h
  ·exact .inl ⟨hnr,rfl⟩
  ·exact (hI.obj j o h).mono hm id (fun _=>rfl)
 ·rcases hobj k1 o1 h1 with ⟨_,rfl⟩|h1
  ·exact absurd r1 hnr
  ·rcases hobj k2 o2 h2 with ⟨_,rfl⟩|h2
   ·exact absurd r2 hnr
   ·exact hI.inj k1 k2 o1 o2 h1 h2 r1 r2 he
 ·rcases hobj j o ho with ⟨_,rfl⟩|h
  ·exact .inr rfl
  ·exact .inl (hI.dobj j o h)
 ·rcases hobj j o ho with ⟨_,rfl⟩|h
  ·exact absurd hr hnr
  ·exact hI.own j o h hr
 ·show m<st.gen+1
  rcases h with h|h
  ·have:=hR.fresh m h;omega
  ·omega
 ·show ze K' w ((st.tm.set s _).get q) _
  rw [Env.get_set]
  by_cases e:q=s
  ·subst e
   rw [if_pos rfl]
   have hv:=hR.tm q
   rw [h] at hv
   rw [zq hv]
   exact .sl (Nat.le_refl _) (fun h=>rfl) (.inl rfl)
  ·rw [if_neg e]
   exact (hR.tm q).mono hm
mutual
def nfD (g:Nat):DV→Prop
 |.any=>True
 |.bl=>True
 |.ifc=>True
 |.v _=>True
 |.agg cs=>nfL g cs
 |.tup cs=>nfL g cs
 |.ptr _ n _ _ _=>n<g
 |.rptr x=>nfL g x
 |.sl _ n _ _ _ _=>n<g
 |.slr _ n _ _=>n<g
 |.snap _ xs _=>yA g xs
 |.fn _ a b=>nfL g a∧nfL g b
 |.mp _ n=>n<g
 |.tptr n _ _=>n<g
 |.tsl _ n _ _=>n<g
 |.stamp n _=>n<g
def nfL (g:Nat):List DV→Prop
 |[]=>True
 |d::r=>nfD g d∧nfL g r
def yA (g:Nat):List (List DV)→Prop
 |[]=>True
 |x::r=>nfL g x∧yA g r
end
theorem cU {g:Nat}:∀ {l:List DV},nfL g l↔∀d∈l,nfD g d
 |[]=>by simp [nfL]
 |d::r=>by simp [nfL,cU (l:=r)]
theorem sw {g:Nat}:∀ {l:List (List DV)},yA g l↔∀x∈l,nfL g x
 |[]=>by simp [yA]
 |x::r=>by simp [yA,sw (l:=r)]
theorem vG {g:Nat} {l:List DV} (h:nfL g l) {i:Nat} {d:DV} (hi:l[i]?=some d):nfD g d:=cU.1 h d (List.mem_of_getElem? hi)
theorem tI {K K0:Kr} {w:World} {g:Nat} (hr:∀n,K.real n→n<g→K0.real n∧K0.μ n=K.μ n) (hM:∀b,b<w.heap.size→K0.M b→K.M b) {d:DV} {v:Value} (h:ze K w d v):nfD g d→ze K0 w d v:=by
 induction h with
 |any x=>exact fun _=>.any x
 |bl b=>exact fun _=>.bl b
 |ifc t x=>exact fun _=>.ifc t x
 |v x=>exact fun _=>.v x
 |agg hl h ih=>exact fun hn=>.agg hl fun i d c hd hc=>ih i d c hd hc (vG (by simpa [nfD] using hn) hd)
 |tup hl h ih=>exact fun hn=>.tup hl fun i d c hd hc=>ih i d c hd hc (vG (by simpa [nfD] using hn) hd)
 |@ptr k n sz i j hreal hcl=>
  intro hn
  have:=hr n hreal (by simpa [nfD] using hn)
  rw [←this.2]
  exact .ptr this.1 (by rw [this.2];exact hcl)
 |@mp k n hreal=>
  intro hn
  have:=hr n hreal (by simpa [nfD] using hn)
  rw [←this.2]
  exact .mp this.1
 |@tsl k n len T A cap hlc h=>
  intro hn
  refine .tsl hlc ?_
  rcases h with h|⟨hreal,hA,rest⟩
  ·exact .inl h
  ·have:=hr n hreal (by simpa [nfD] using hn)
   exact .inr ⟨this.1,by rw [this.2];exact hA,by rw [this.2];exact rest⟩
 |@tptr n sz T hreal hc=>
  intro hn
  have:=hr n hreal (by simpa [nfD] using hn)
  rw [←this.2]
  exact .tptr this.1 (by rw [this.2];exact hc)
 |@stamp n i key hreal h=>
  intro hn
  have:=hr n hreal (by simpa [nfD] using hn)
  exact .stamp this.1 (by rw [this.2];exact h)
 |@rptr x ad f hs hlt hMb hc h ih=>exact fun hn=>.rptr f hs hlt (fun q=>hMb (hM _ hlt q)) hc fun t d hd=>ih t d hd (vG (by simpa [nfD] using hn) hd)
 |@sl k n sz lo len full A cap hlc hf h=>
  intro hn
  refine .sl hlc hf ?_
  rcases h with h|⟨hreal,hA,rest⟩
  ·exact .inl h
  ·have:=hr n hreal (by simpa [nfD] using hn)
   exact .inr ⟨this.1,by rw [this.2];exact hA,by rw [this.2];exact rest⟩
 |@slr k n sz len cap hlc hreal h=>
  intro hn
  have:=hr n hreal (by simpa [nfD] using hn)
  rw [←this.2]
  exact .slr hlc this.1 (by rw [this.2];exact h)
 |@snap sz xs clip A len cap f hl hlc hc hs ha hcell h ih=>
  intro hn
  refine .snap f hl hlc hc hs (fun h0=>?_) hcell fun i x j d hx hd=>ih i x j d hx hd ?_
  ·obtain ⟨ad,e,hsp,h1,h2⟩:=ha h0
   exact ⟨ad,e,hsp,h1,fun q=>h2 (hM _ h1 q)⟩
  ·have h1:yA g xs:=by simpa [nfD] using hn
   exact vG (sw.1 h1 x (List.mem_of_getElem? hx)) hd
 |fn h1 h2 h3 h4 ih1 ih2=>
  intro hn
  simp only [nfD] at hn
  exact .fn h1 h2 (fun i d c hd hc=>ih1 i d c hd hc (vG hn.1 hd)) (fun i d c hd hc=>ih2 i d c hd hc (vG hn.2 hd))
def wN:Env:=.nil
theorem mK (s:Sl):wN.get s=.any:=rfl
def xc:List Sl:=[⟨.d0,.d0,.d0⟩,⟨.d0,.d0,.d1⟩,⟨.d0,.d0,.d2⟩,⟨.d0,.d0,.d3⟩,⟨.d0,.d0,.d4⟩,⟨.d0,.d0,.d5⟩,⟨.d0,.d0,.d6⟩,⟨.d0,.d0,.d7⟩,
 ⟨.d0,.d1,.d0⟩,⟨.d0,.d1,.d1⟩,⟨.d0,.d1,.d2⟩,⟨.d0,.d1,.d3⟩,⟨.d0,.d1,.d4⟩,⟨.d0,.d1,.d5⟩,⟨.d0,.d1,.d6⟩,⟨.d0,.d1,.d7⟩]
theorem rV:∀(i:Nat) (s:Sl),xc[i]?=some s→s.nat=i:=by
 intro i s h
 have hi:i<16:=by have:=(List.getElem?_eq_some_iff.1 h).1;exact this
 match i,hi,h with
 |0,_,h|1,_,h|2,_,h|3,_,h|4,_,h|5,_,h|6,_,h|7,_,h|8,_,h|9,_,h|10,_,h|11,_,h|12,_,h|13,_,h|14,_,h|15,_,h=>(simp [xc] at h;rw [←h];rfl)
def vw:List DV→List Sl→Env→Env
 |d::r,s::t,e=>vw r t (e.set s d)
 |_,_,e=>e
theorem rf {K:Kr} {w:World} {tmps:Array Value}:∀(ds:List DV) (ss:List Sl) (e:Env),(∀s:Sl,ze K w (e.get s) (tmps.getD s.nat undef))→(∀(i:Nat) (d:DV) (s:Sl),ds[i]?=some d→ss[i]?=some s→ze K w d (tmps.getD s.nat undef))→
  ∀s:Sl,ze K w ((vw ds ss e).get s) (tmps.getD s.nat undef)
 |[],_,e,h,_=>h
 |_::_,[],e,h,_=>h
 |d::r,s::t,e,h,hd=>rf r t (e.set s d) (fun q=>by
   rw [Env.get_set]
   by_cases eq:q=s
   ·subst eq;rw [if_pos rfl];exact hd 0 d q rfl rfl
   ·rw [if_neg eq];exact h q) (fun i d' s' h1 h2=>hd (i+1) d' s' (by simpa using h1) (by simpa using h2))
inductive XR where
 |tmp (s:Sl)
 |cell (s:Sl) (ag:Bool) (n:Nat)
def okR (P:Program):ResultVar→XR→Bool
 |.tmp t,.tmp s=>decide (t=s.nat)
 |.cell a t,.cell s ag n=>decide (a=s.nat)&&xS P t n&&se P t ag&&(ag||decide (n=1))
 |_,_=>false
def lm (P:Program):List ResultVar→List XR→Bool
 |[],[]=>true
 |a::r,x::s=>okR P a x&&lm P r s
 |_,_=>false
def qt (ag:Bool) (n i j:Nat):Option zj→DV
 |some o=>we ag n (yL (yo o.xs i) j)
 |none=>.any
def qL (ag:Bool) (n:Nat) (H:HL):DV→DV
 |.ptr k _ _ i j=>qt ag n i j (zd H k)
 |_=>.any
def lS (st:St):XR→DV
 |.tmp s=>st.tm.get s
 |.cell s ag n=>qL ag n st.H (st.tm.get s)
def s_ (n nm sz i j:Nat):Option zj→Prop
 |some o=>o.n=nm∧o.sz=sz∧i<o.xs.length∧j+n≤o.sz
 |none=>False
def qp (n:Nat) (H:HL):DV→Prop
 |.ptr k nm sz i j=>s_ n nm sz i j (zd H k)
 |_=>False
def xB (st:St):List XR→Prop
 |[]=>True
 |.tmp _::r=>xB st r
 |.cell s _ n::r=>qp n st.H (st.tm.get s)∧xB st r
def yn (st:St):List XR→List DV
 |[]=>[]
 |x::r=>lS st x::yn st r
def wA:List DV→DV
 |[d]=>d
 |l=>.tup l
def yt:Nat→HL→HL
 |0,_=>[]
 |m+1,[]=>none::yt m []
 |m+1,o::r=>o::yt m r
def nfH (g:Nat):HL→Prop
 |[]=>True
 |none::r=>nfH g r
 |some o::r=>(o.n<g∧yA g o.xs)∧nfH g r
def qD (xr:List XR) (g0 m:Nat) (R:DV→HL→Prop) (st:St):Prop:=
 xB st xr∧nfD g0 (wA (yn st xr))∧nfH g0 (yt m st.H)∧R (wA (yn st xr)) (yt m st.H)
def LeG (Γ:Gm) (st st':St):Prop:=∀(N:Nat) (K:Kr) (a:Act) (w:World),Rel Γ N st K a w→∃K',Rel Γ N st' K' a w
def oS (Γ:Gm) (xr:List XR) (m:Nat) (R:DV→HL→Prop) (st:St):Prop:=∃st',LeG Γ st st'∧qD xr Γ.g0 m R st'
theorem l_ {Γ:Gm} {xr:List XR} {m:Nat} {R:DV→HL→Prop} {st:St} (h:qD xr Γ.g0 m R st):oS Γ xr m R st:=⟨st,fun N K a w h=>⟨K,h⟩,h⟩
theorem zL {Γ:Gm} {xr:List XR} {m:Nat} {R:DV→HL→Prop} {st st':St} (h1:LeG Γ st st') (h2:oS Γ xr m R st'):oS Γ xr m R st:=by
 obtain ⟨s2,h3,h4⟩:=h2
 refine ⟨s2,fun N K a w hr=>?_,h4⟩
 obtain ⟨K',hr'⟩:=h1 N K a w hr
 exact h3 N K' a w hr'
theorem yR:∀(m:Nat) (H:HL) (k:Nat) (o:zj),zd (yt m H) k=some o→zd H k=some o
 |0,H,k,o,h=>by simp [yt,zd] at h
 |m+1,[],k,o,h=>by
  cases k with
  |zero=>simp [yt,zd] at h
  |succ k=>exact yR m [] k o (by simpa [yt,zd] using h)
 |m+1,x::r,k,o,h=>by
  cases k with
  |zero=>simpa [yt,zd] using h
  |succ k=>exact yR m r k o (by simpa [yt,zd] using h)
theorem sa {g:Nat}:∀ {H:HL} (h:nfH g H) (k:Nat) (o:zj),zd H k=some o→o.n<g∧yA g o.xs
 |[],_,k,o,hk=>by simp [zd] at hk
 |none::r,h,k,o,hk=>by
  cases k with
  |zero=>simp [zd] at hk
  |succ k=>exact sa (H:=r) h k o hk
 |some p::r,h,k,o,hk=>by
  cases k with
  |zero=>simp [zd] at hk;subst hk;exact h.1
  |succ k=>exact sa (H:=r) h.2 k o hk
def Xk (tmps:Array Value):ResultVar→Sem Value
 |.tmp t=>pure (tmps.getD t undef)
 |.cell a t=>do loadVar t (←asAddr (tmps.getD a undef))
theorem fE (fn:Func) (tmps:Array Value):results fn tmps=(do
  let vs ←fn.results.mapM (Xk tmps)
  pure (if h:vs.size=1 then vs[0] else .tuple vs)):=rfl
section
variable {Γ:Gm} {P:Program} {N:Nat} {st:St} {K:Kr} {a:Act} {w:World}
theorem mM (hR:Rel Γ N st K a w) {r:ResultVar} {x:XR} (hok:okR P r x=true) (hx:xB st [x]) :
  ∃v,(Xk a.tmps r).run P w=.ok v w∧ze K w (lS st x) v:=by
 unfold okR at hok
 split at hok
 ·rename_i t s
  have e:=of_decide_eq_true hok
  subst e
  exact ⟨_,rfl,hR.tm s⟩
 ·rename_i ad t s ag n
  simp only [Bool.and_eq_true,Bool.or_eq_true,decide_eq_true_eq] at hok
  obtain ⟨⟨⟨rfl,h1⟩,h2⟩,h3⟩:=hok
  have hv:=hR.tm s
  simp only [xB,and_true] at hx
  simp only [lS]
  unfold qp at hx
  split at hx
  ·rename_i k nm sz i j hp
   rw [hp] at hv ⊢
   unfold s_ at hx
   split at hx
   ·rename_i ob hob
    obtain ⟨e1,e2,e3,e4⟩:=hx
    generalize hy:a.tmps.getD s.nat undef=yv at hv
    cases hv with
    |ptr hreal hcl0=>
     obtain ⟨_,_,_,hcl0⟩:=hcl0
     rcases (hR.inv.obj k ob hob).two (fun hm=>hm.out (by rw [e1];exact hcl0)) with ⟨q1,_⟩|⟨q1,cs,tt,frz,nfz,q3,q4,q5,q6⟩
     ·exact absurd (e1▸hreal) q1
     ·obtain ⟨x,hx⟩:∃x,ob.xs[i]?=some x:=⟨_,List.getElem?_eq_getElem e3⟩
      have hxl:x.length=ob.sz:=q5 x (List.mem_of_getElem? hx)
      have hxg:yo ob.xs i=x:=by rw [yV,hx];rfl
      obtain ⟨v,r1,r2⟩:=uZ (P:=P) (ad:=⟨K.μ nm,i*sz+j,none⟩) (w:=w) (K:=K) h1 h2 h3 (ds:=x.drop j) (by rw [List.length_drop];omega) (fun q d hq hd=>by
       rw [List.getElem?_drop] at hd
       obtain ⟨c,h7,h8⟩:=q6 i x (j+q) d hx hd
       refine ⟨c,?_,h8⟩
       rw [ya,cell_of_row w _ _ cs tt frz (by rw [←e1];exact q3),←h7,e2,Nat.add_assoc])
      refine ⟨v,by simp only [Xk,hy,asAddr,Sem.run_bind,Sem.run_pure,Result.andThen_ok,r1],?_⟩
      simp only [qL,hob,qt,hxg,xd]
      exact r2
   ·exact hx.elim
  ·exact hx.elim
 ·cases hok
theorem tQ (hR:Rel Γ N st K a w):∀ {rs:List ResultVar} {xs:List XR},lm P rs xs=true→xB st xs→
  ∃vs:List Value,(rs.mapM (Xk a.tmps)).run P w=.ok vs w∧vs.length=(yn st xs).length∧∀(i:Nat) (d:DV) (v:Value),(yn st xs)[i]?=some d→vs[i]?=some v→ze K w d v
 |[],[],_,_=>⟨[],by simp [List.mapM_nil],rfl,fun i d v h=>by simp [yn] at h⟩
 |[],_::_,h,_=>by simp [lm] at h
 |_::_,[],h,_=>by simp [lm] at h
 |r::rs,x::xs,h,hx=>by
  simp only [lm,Bool.and_eq_true] at h
  have hx1:xB st [x]∧xB st xs:=by
   cases x with
   |tmp s=>exact ⟨trivial,hx⟩
   |cell s ag n=>exact ⟨⟨hx.1,trivial⟩,hx.2⟩
  obtain ⟨v,e1,e2⟩:=mM (P:=P) hR h.1 hx1.1
  obtain ⟨vs,e3,e4,e5⟩:=tQ hR h.2 hx1.2
  refine ⟨v::vs,?_,by simp [yn,e4],fun i d u hd hu=>?_⟩
  ·simp only [List.mapM_cons,Sem.run_bind,e1,e3,Result.andThen_ok,Sem.run_pure]
  ·cases i with
   |zero=>simp [yn] at hd hu;rw [←hd,←hu];exact e2
   |succ i=>exact e5 i d u (by simpa [yn] using hd) (by simpa using hu)
theorem sJ (hR:Rel Γ N st K a w) {fn:Func} {xs:List XR} (hok:lm P fn.results.toList xs=true) (hx:xB st xs):∃v,(results fn a.tmps).run P w=.ok v w∧ze K w (wA (yn st xs)) v:=by
 obtain ⟨vs,e1,e2,e3⟩:=tQ hR hok hx
 have hm:(fn.results.mapM (Xk a.tmps)).run P w=.ok vs.toArray w:=by
  rw [Array.mapM_eq_mapM_toList]
  simp [e1]
 have hres:(results fn a.tmps).run P w=.ok (if h:vs.toArray.size=1 then vs.toArray[0] else .tuple vs.toArray) w:=by
  rw [fE,Sem.run_bind,hm]
  rfl
 refine ⟨_,hres,?_⟩
 by_cases h1:vs.length=1
 ·have h2:(yn st xs).length=1:=by omega
  obtain ⟨v,rfl⟩:=List.length_eq_one_iff.1 h1
  obtain ⟨d,hd⟩:=List.length_eq_one_iff.1 h2
  rw [hd] at e3 ⊢
  simpa [wA] using e3 0 d v rfl rfl
 ·have h2:(yn st xs).length≠1:=by omega
  have e:wA (yn st xs)=.tup (yn st xs):=by
   unfold wA
   split
   ·rename_i d hd;rw [hd] at h2;simp at h2
   ·rfl
  rw [e,dif_neg (by simpa using h1)]
  refine .tup (by simp [e2]) fun i d c hd hc=>e3 i d c hd (by simpa using hc)
end
theorem Zc {P:Program} {f:FuncId} {fn:Func} {c:Code} {x:XC} {xr:List XR} {ds:List DV} {H0:HL} {R:DV→HL→Prop} (hf:P.funcs[f]?=some fn) (hb:fn.body=some c) (hok:okC P fn.ntmps c x=true) (hxr:lm P fn.results.toList xr=true) (hN:ds.length≤fn.ntmps) (hg:tM P f=true)
  (hgo:∀Γ:Gm,(H0=[]→∀g,¬Γ.W0 g)→(∀k o,zd H0 k=some o→o.n<Γ.g0)→(∀g,Γ.W0 g→∃k o,zd H0 k=some o∧Γ.K0.real o.n∧Γ.K0.μ o.n=g)→Go Γ P fn.ntmps (oS Γ xr H0.length R) x [] ⟨vw ds xc wN,H0,Γ.g0⟩):zE P f ds H0 R:=by
 refine ⟨hg,?_⟩
 intro K w vs g0 hI hg hargs
 refine calls_of_wp hf hb ?_
 have hfr:∀n,(K.cut w).dom n→n<g0:=hg
 have hR:Rel (yZ K w g0 H0) fn.ntmps ⟨vw ds xc wN,H0,g0⟩ (K.cut w) { tmps:=vs++Array.replicate (fn.ntmps-vs.size) undef,defers:=[] } w:=by
  refine ⟨hI,hfr,Nat.le_refl _,by simp [hargs.1];omega,rfl,?_⟩
  refine rf ds xc wN (fun s=>by rw [mK];exact .any _) (fun i d s hd hs=>?_)
  have e:=rV i s hs
  have hi:i<vs.size:=by rw [hargs.1];exact (List.getElem?_eq_some_iff.1 hd).1
  have:(vs++Array.replicate (fn.ntmps-vs.size) undef).getD s.nat undef=vs[i]:=by
   rw [e,Array.getD_eq_getD_getElem?,Array.getElem?_append_left hi,Array.getElem?_eq_getElem hi]
   rfl
  rw [this]
  exact hargs.2 i d _ hd (Array.getElem?_eq_getElem hi)
 have hW:H0=[]→∀g,¬(yZ K w g0 H0).W0 g:=by
  rintro rfl g ⟨k,o,h,_⟩
  simp [zd] at h
 refine wp_mono (hgo (yZ K w g0 H0) hW (fun k o h=>hg _ (hI.dobj k o h)) (fun g h=>h) c hok _ _ _ hR) ?_
 have hfin:∀(a':Act) (w':World) (st':St) (K':Kr),Rel (yZ K w g0 H0) fn.ntmps st' K' a' w'→oS (yZ K w g0 H0) xr H0.length R st'→a'.defers=[]∧∃v,(results fn a'.tmps).run P w'=.ok v w'∧
   ∃v1 d H1,Ending.returned v=.returned v1∧R d H1∧Inv (yZ K w g0 H0) (K.cut w) (zd H1) w'∧ze (K.cut w) w' d v1:=by
  intro a' w' st0' K0' hR0' hret
  obtain ⟨st',hle,r1,r2,r3,r4⟩:=hret
  obtain ⟨K',hR'⟩:=hle fn.ntmps K0' a' w' hR0'
  obtain ⟨v,e1,e2⟩:=sJ hR' hxr r1
  refine ⟨hR'.defers,v,e1,v,_,_,rfl,r4,?_,?_⟩
  all_goals
   have hb:=hR'.inv.base
   have hreal:∀n,K'.real n→n<g0→(K.cut w).real n∧(K.cut w).μ n=K'.μ n:=fun n h1 h2=>by
    have h3:=hb.old n h1 h2
    exact ⟨h3,(hb.keep n h3).2.symm⟩
   have hM:∀b,b<w'.heap.size→(K.cut w).M b→K'.M b:=fun b _ h=>(hb.M b h.2).2 h
  ·refine ⟨hR'.inv.ext,⟨fun n h=>.inl h,fun n h _=>h,fun n h=>⟨h,rfl⟩,fun g _=>Iff.rfl⟩,fun k o ho=>?_,fun k1 k2 o1 o2 h1 h2 p1 p2 he=>?_,hI.dr,fun n h=>?_,fun k o ho=>?_,fun k o ho hr=>?_,hR'.inv.gl⟩
   ·have hnf:=sa r3 k o ho
    rcases hR'.inv.obj k o (yR _ _ _ _ ho) with ⟨q1,q2⟩|⟨q1,cs,t,frz,nfz,q2,q3,q4,q5⟩|⟨q1,q2,es,ck,q3,q4⟩
    ·exact .inl ⟨fun h=>q1 (hb.keep _ h).1,q2⟩
    rotate_left
    ·have:=hreal _ q1 hnf.1
     exact .inr (.inr ⟨this.1,q2,es,ck,by rw [this.2];exact q3,q4⟩)
    ·have:=hreal _ q1 hnf.1
     refine .inr (.inl ⟨this.1,cs,t,frz,nfz,by rw [this.2];exact q2,q3,q4,fun i x j d hx hd=>?_⟩)
     obtain ⟨c',h1,h2⟩:=q5 i x j d hx hd
     exact ⟨c',h1,tI hreal hM h2 (vG (sw.1 hnf.2 x (List.mem_of_getElem? hx)) hd)⟩
   ·have k1':=hb.keep _ p1
    have k2':=hb.keep _ p2
    exact hR'.inv.inj k1 k2 o1 o2 (yR _ _ _ _ h1) (yR _ _ _ _ h2) k1'.1 k2'.1 (k1'.2.trans (he.trans k2'.2.symm))
   ·have:=hb.keep n h
    have e:(K.cut w).μ n=K'.μ n:=this.2.symm
    rw [e]
    exact hR'.inv.lt n this.1
   ·have hnf:=sa r3 k o ho
    rcases hb.dom _ (hR'.inv.dobj k o (yR _ _ _ _ ho)) with h|h
    ·exact h
    ·exact absurd hnf.1 (by
      have h':g0≤o.n:=h
      omega)
   ·have hk:=hb.keep _ hr
    have e:(K.cut w).μ o.n=K'.μ o.n:=hk.2.symm
    have hlt:(K.cut w).μ o.n<w.heap.size:=hI.lt _ hr
    have ho':=hR'.inv.own k o (yR _ _ _ _ ho) hk.1
    rw [←e] at ho'
    exact ⟨(hb.M _ hlt).1 ho'.1,ho'.2⟩
  ·exact tI hreal hM e2 r2
 rintro e a' w' ⟨st',K',hR',hq⟩
 cases e with
 |normal=>exact hfin a' w' st' K' hR' hq
 |ret=>exact hfin a' w' st' K' hR' hq
 |exit i=>exact hq.elim
 |goto l=>exact hq.elim
 |panic ch=>exact hq.elim
 |outgrown=>exact hq.elim
mutual
def ui (g n1 n:Nat):DV→DV→Prop
 |.agg cs,e=>match e with
  |.agg ds=>dz g n1 n cs ds
  |_=>False
 |.tup cs,e=>match e with
  |.tup ds=>dz g n1 n cs ds
  |_=>False
 |.sl k m sz lo len full,e=>(m=n1∧e=.sl k n sz lo len full)∨(m<g∧e=.sl k m sz lo len full)
 |.slr k m sz len,e=>(m=n1∧e=.slr k n sz len)∨(m<g∧e=.slr k m sz len)
 |d,e=>e=d∧nfD g d
def dz (g n1 n:Nat):List DV→List DV→Prop
 |[],l=>l=[]
 |d::r,l=>match l with
  |e::s=>ui g n1 n d e∧dz g n1 n r s
  |[]=>False
end
theorem nR {g n1 n:Nat}:∀ {cs ds:List DV},dz g n1 n cs ds→cs.length=ds.length∧∀(i:Nat) (d e:DV),cs[i]?=some d→ds[i]?=some e→ui g n1 n d e
 |[],l,h=>by
  simp only [dz] at h
  subst h
  exact ⟨rfl,fun i d e h=>by simp at h⟩
 |d::r,[],h=>by simp [dz] at h
 |d::r,e::s,h=>by
  simp only [dz] at h
  obtain ⟨h1,h2⟩:=nR h.2
  refine ⟨by simp [h1],fun i a b ha hb=>?_⟩
  cases i with
  |zero=>simp at ha hb;rw [←ha,←hb];exact h.1
  |succ i=>exact h2 i a b (by simpa using ha) (by simpa using hb)
theorem Zv {K K0:Kr} {w:World} {g n1 n:Nat} (hr:∀n,K.real n→n<g→K0.real n∧K0.μ n=K.μ n) (hr1:K.real n1→K0.real n∧K0.μ n=K.μ n1) (hM:∀b,b<w.heap.size→K0.M b→K.M b) {d:DV} {v:Value} (h:ze K w d v):∀e,ui g n1 n d e→ze K0 w e v:=by
 have old:∀ {d v},ze K w d v→nfD g d→ze K0 w d v:=fun h hn=>tI hr hM h hn
 induction h with
 |any x=>intro e he;simp only [ui] at he;obtain ⟨rfl,_⟩:=he;exact .any x
 |bl b=>intro e he;simp only [ui] at he;obtain ⟨rfl,_⟩:=he;exact .bl b
 |ifc t x=>intro e he;simp only [ui] at he;obtain ⟨rfl,_⟩:=he;exact .ifc t x
 |v x=>intro e he;simp only [ui] at he;obtain ⟨rfl,_⟩:=he;exact .v x
 |@agg ds cs hl h ih=>
  intro e he
  cases e with
  |agg es=>
   simp only [ui] at he
   obtain ⟨h1,h2⟩:=nR he
   refine .agg (hl.trans h1) fun i d c hd hc=>?_
   have hi:i<ds.length:=by rw [h1];exact (List.getElem?_eq_some_iff.1 hd).1
   exact ih i ds[i] c (List.getElem?_eq_getElem hi) hc d (h2 i _ _ (List.getElem?_eq_getElem hi) hd)
  |_=>simp [ui] at he
 |@tup ds cs hl h ih=>
  intro e he
  cases e with
  |tup es=>
   simp only [ui] at he
   obtain ⟨h1,h2⟩:=nR he
   refine .tup (hl.trans h1) fun i d c hd hc=>?_
   have hi:i<ds.length:=by rw [h1];exact (List.getElem?_eq_some_iff.1 hd).1
   exact ih i ds[i] c (List.getElem?_eq_getElem hi) hc d (h2 i _ _ (List.getElem?_eq_getElem hi) hd)
  |_=>simp [ui] at he
 |ptr hreal hcl=>intro e he;simp only [ui] at he;obtain ⟨rfl,hn⟩:=he;exact old (.ptr hreal hcl) hn
 |mp hreal=>intro e he;simp only [ui] at he;obtain ⟨rfl,hn⟩:=he;exact old (.mp hreal) hn
 |tsl h1 h2=>intro e he;simp only [ui] at he;obtain ⟨rfl,hn⟩:=he;exact old (.tsl h1 h2) hn
 |tptr hreal hc=>intro e he;simp only [ui] at he;obtain ⟨rfl,hn⟩:=he;exact old (.tptr hreal hc) hn
 |stamp hreal h=>intro e he;simp only [ui] at he;obtain ⟨rfl,hn⟩:=he;exact old (.stamp hreal h) hn
 |rptr f h1 h2 h3 h4 h5=>intro e he;simp only [ui] at he;obtain ⟨rfl,hn⟩:=he;exact old (.rptr f h1 h2 h3 h4 h5) hn
 |@sl k m sz lo len full A cap hlc hf h=>
  intro e he
  simp only [ui] at he
  rcases he with ⟨rfl,rfl⟩|⟨hn,rfl⟩
  ·refine .sl hlc hf ?_
   rcases h with h|⟨hreal,hA,rest⟩
   ·exact .inl h
   ·obtain ⟨q1,q2⟩:=hr1 hreal
    exact .inr ⟨q1,by rw [q2];exact hA,by rw [q2];exact rest⟩
  ·exact old (.sl hlc hf h) (by simpa [nfD] using hn)
 |@slr k m sz len cap hlc hreal h=>
  intro e he
  simp only [ui] at he
  rcases he with ⟨rfl,rfl⟩|⟨hn,rfl⟩
  ·obtain ⟨q1,q2⟩:=hr1 hreal
   rw [←q2]
   exact .slr hlc q1 (by rw [q2];exact h)
  ·exact old (.slr hlc hreal h) (by simpa [nfD] using hn)
 |snap f h1 h2 h3 h4 h5 h6 h7=>intro e he;simp only [ui] at he;obtain ⟨rfl,hn⟩:=he;exact old (.snap f h1 h2 h3 h4 h5 h6 h7) hn
 |fn h1 h2 h3 h4=>intro e he;simp only [ui] at he;obtain ⟨rfl,hn⟩:=he;exact old (.fn h1 h2 h3 h4) hn
def Zi (xr:List XR) (g0 m:Nat) (R:Nat→DV→HL→Prop) (st:St):Prop:=
 xB st xr∧nfH g0 (yt m st.H)∧∃ (kx n1 sz:Nat) (xs:List (List DV)) (D:Nat→DV),zd st.H kx=some ⟨n1,sz,xs⟩∧m≤kx∧g0≤n1∧yA g0 xs∧∀n,ui g0 n1 n (wA (yn st xr)) (D n)∧R n (D n) (yt m st.H++[some ⟨n,sz,xs⟩])
def oG (Γ:Gm) (xr:List XR) (m:Nat) (R:Nat→DV→HL→Prop) (st:St):Prop:=∃st',LeG Γ st st'∧Zi xr Γ.g0 m R st'
theorem pN (o1:zj):∀(l:HL) (i:Nat) (o:zj),zd (l++[some o1]) i=some o→(i<l.length∧zd l i=some o)∨(i=l.length∧o=o1)
 |[],0,o,h=>.inr ⟨rfl,(Option.some.inj h).symm⟩
 |[],i+1,o,h=>by cases h
 |x::r,0,o,h=>.inl ⟨Nat.zero_lt_succ _,h⟩
 |x::r,i+1,o,h=>by
  rcases pN o1 r i o h with ⟨h1,h2⟩|⟨h1,h2⟩
  ·exact .inl ⟨Nat.succ_lt_succ h1,h2⟩
  ·exact .inr ⟨congrArg (· + 1) h1,h2⟩
theorem m7:∀(m:Nat) (H:HL) (k:Nat) (o:zj),zd (yt m H) k=some o→k<m
 |0,H,k,o,h=>by cases H<;>simp [yt,zd] at h
 |m+1,[],k,o,h=>by
  cases k with
  |zero=>exact Nat.zero_lt_succ _
  |succ k=>simp only [yt,zd] at h;exact Nat.succ_lt_succ (m7 m [] k o h)
 |m+1,x::r,0,o,h=>Nat.zero_lt_succ _
 |m+1,x::r,k+1,o,h=>by
  simp only [yt,zd] at h
  exact Nat.succ_lt_succ (m7 m r k o h)
theorem Z9 {P:Program} {f:FuncId} {fn:Func} {c:Code} {x:XC} {xr:List XR} {ds:List DV} {H0:HL} {R:Nat→DV→HL→Prop} (hf:P.funcs[f]?=some fn) (hb:fn.body=some c) (hok:okC P fn.ntmps c x=true) (hxr:lm P fn.results.toList xr=true) (hN:ds.length≤fn.ntmps) (hg:tM P f=true)
  (hgo:∀Γ:Gm,(H0=[]→∀g,¬Γ.W0 g)→(∀k o,zd H0 k=some o→o.n<Γ.g0)→(∀g,Γ.W0 g→∃k o,zd H0 k=some o∧Γ.K0.real o.n∧Γ.K0.μ o.n=g)→Go Γ P fn.ntmps (oG Γ xr H0.length R) x [] ⟨vw ds xc wN,H0,Γ.g0⟩):uO P f ds H0 R:=by
 refine ⟨hg,?_⟩
 intro K w vs g0 hI hg hargs
 refine calls_of_wp hf hb ?_
 have hfr:∀n,(K.cut w).dom n→n<g0:=hg
 have hR:Rel (yZ K w g0 H0) fn.ntmps ⟨vw ds xc wN,H0,g0⟩ (K.cut w) { tmps:=vs++Array.replicate (fn.ntmps-vs.size) undef,defers:=[] } w:=by
  refine ⟨hI,hfr,Nat.le_refl _,by simp [hargs.1];omega,rfl,?_⟩
  refine rf ds xc wN (fun s=>by rw [mK];exact .any _) (fun i d s hd hs=>?_)
  have e:=rV i s hs
  have hi:i<vs.size:=by rw [hargs.1];exact (List.getElem?_eq_some_iff.1 hd).1
  have:(vs++Array.replicate (fn.ntmps-vs.size) undef).getD s.nat undef=vs[i]:=by
   rw [e,Array.getD_eq_getD_getElem?,Array.getElem?_append_left hi,Array.getElem?_eq_getElem hi]
   rfl
  rw [this]
  exact hargs.2 i d _ hd (Array.getElem?_eq_getElem hi)
 have hW:H0=[]→∀g,¬(yZ K w g0 H0).W0 g:=by
  rintro rfl g ⟨k,o,h,_⟩
  simp [zd] at h
 refine wp_mono (hgo (yZ K w g0 H0) hW (fun k o h=>hg _ (hI.dobj k o h)) (fun g h=>h) c hok _ _ _ hR) ?_
 have hfin:∀(a':Act) (w':World) (st':St) (K':Kr),Rel (yZ K w g0 H0) fn.ntmps st' K' a' w'→oG (yZ K w g0 H0) xr H0.length R st'→a'.defers=[]∧∃v,(results fn a'.tmps).run P w'=.ok v w'∧
   ∃v1,Ending.returned v=.returned v1∧∀n,¬K.dom n→∃ (K2:Kr) (d:DV) (H1:HL),R n d H1∧(∀m,K2.dom m↔K.dom m∨m=n)∧(∀m,K2.real m→K.real m∨m=n)∧Inv (yZ K w n H0) K2 (zd H1) w'∧ze K2 w' d v1:=by
  intro a' w' st0' K0' hR0' hret
  obtain ⟨st',hle,r1,r3,kx,n1,sz,xs,D,q1,q2,q3,q4,q5⟩:=hret
  obtain ⟨K',hR'⟩:=hle fn.ntmps K0' a' w' hR0'
  obtain ⟨v,e1,e2⟩:=sJ hR' hxr r1
  refine ⟨hR'.defers,v,e1,v,rfl,fun n hn=>?_⟩
  have hb:=hR'.inv.base
  have hI':=hR'.inv
  have hnr:¬K.real n:=fun h=>hn (hI.dr n h)
  let K2:Kr:=⟨fun m=>K.dom m∨m=n,fun m=>K.real m∨(m=n∧K'.real n1),fun m=>if m=n then K'.μ n1 else K.μ m,fun g=>(K.cut w).M g∨(K'.real n1∧g=K'.μ n1)⟩
  have hμ:∀m,K.real m→K2.μ m=K.μ m:=fun m h=>by
   show (if m=n then K'.μ n1 else K.μ m)=K.μ m
   rw [if_neg (by rintro rfl;exact hnr h)]
  have hreal:∀m,K'.real m→m<g0→K2.real m∧K2.μ m=K'.μ m:=fun m h1 h2=>by
   have h3:K.real m:=hb.old m h1 h2
   exact ⟨.inl h3,(hμ m h3).trans (hb.keep m h3).2.symm⟩
  have hreal1:K'.real n1→K2.real n∧K2.μ n=K'.μ n1:=fun h=>⟨.inr ⟨rfl,h⟩,if_pos rfl⟩
  have hown1:K'.real n1→K'.M (K'.μ n1)∧(w.heap.size≤K'.μ n1∨(yZ K w g0 H0).W0 (K'.μ n1)):=fun h=>hI'.own kx _ q1 h
  have hM:∀b,b<w'.heap.size→K2.M b→K'.M b:=fun b _ h=>by
   rcases h with h|⟨h1,rfl⟩
   ·exact (hb.M b h.2).2 h
   ·exact (hown1 h1).1
  have hget:∀k o,zd (yt H0.length st'.H++[some ⟨n,sz,xs⟩]) k=some o→(k<H0.length∧zd (yt H0.length st'.H) k=some o)∨((yt H0.length st'.H).length=k∧o=⟨n,sz,xs⟩):=fun k o h=>by
   rcases pN _ _ _ _ h with ⟨h1,h2⟩|⟨h1,h2⟩
   ·exact .inl ⟨m7 _ _ _ _ h2,h2⟩
   ·exact .inr ⟨h1.symm,h2⟩
  refine ⟨K2,D n,_,(q5 n).2,fun m=>Iff.rfl,fun m h=>?_,?_,Zv hreal hreal1 hM e2 _ (q5 n).1⟩
  ·rcases h with h|h
   ·exact .inl h
   ·exact .inr h.1
  ·have hlow:∀k o,zd (yt H0.length st'.H) k=some o→K2.real o.n→K.real o.n∧o.n≠n:=by
    intro k o ho hr
    have hne:o.n≠n:=by
     intro e
     have hnf:=sa r3 k o ho
     rcases hb.dom _ (hI'.dobj k o (yR _ _ _ _ ho)) with h|h
     ·exact hn (e▸h)
     ·exact absurd hnf.1 (by
       have h':g0≤o.n:=h
       omega)
    rcases hr with h|⟨h,_⟩
    ·exact ⟨h,hne⟩
    ·exact absurd h hne
   refine ⟨hI'.ext,⟨fun m h=>?_,fun m h hlt=>?_,fun m h=>⟨.inl h,hμ m h⟩,fun g hg=>?_⟩,fun k o ho=>?_,fun k1 k2 o1 o2 h1 h2 p1 p2 he=>?_,fun m h=>?_,fun m h=>?_,fun k o ho=>?_,fun k o ho hr=>?_,hI'.gl⟩
   ·rcases h with h|h
    ·exact .inl h
    ·exact .inr (Nat.le_of_eq h.symm)
   ·rcases h with h|⟨h,_⟩
    ·exact h
    ·have hlt':m<n:=hlt
     omega
   ·constructor
    ·rintro (h|⟨h1,rfl⟩)
     ·exact h
     ·exact (hb.M _ hg).1 (hown1 h1).1
    ·exact fun h=>.inl h
   ·rcases hget k o ho with ⟨_,ho⟩|⟨_,rfl⟩
    ·have hnf:=sa r3 k o ho
     rcases hI'.obj k o (yR _ _ _ _ ho) with ⟨q1,q2⟩|⟨q1,cs,t,frz,nfz,q2,q3,q4,q5⟩|⟨q1,q2,es,ck,q3,q4⟩
     ·exact .inl ⟨fun h=>q1 (hb.keep _ (hlow k o ho h).1).1,q2⟩
     rotate_left
     ·have:=hreal _ q1 hnf.1
      exact .inr (.inr ⟨this.1,q2,es,ck,by rw [this.2];exact q3,q4⟩)
     ·have:=hreal _ q1 hnf.1
      refine .inr (.inl ⟨this.1,cs,t,frz,nfz,by rw [this.2];exact q2,q3,q4,fun i x j d hx hd=>?_⟩)
      obtain ⟨c',h1,h2⟩:=q5 i x j d hx hd
      exact ⟨c',h1,tI hreal hM h2 (vG (sw.1 hnf.2 x (List.mem_of_getElem? hx)) hd)⟩
    ·rcases hI'.obj kx _ q1 with ⟨u1,u2⟩|⟨u1,cs,t,frz,nfz,u2,u3,u4,u5⟩|⟨u1,u2,es,ck,u3,u4⟩
     ·refine .inl ⟨fun h=>?_,u2⟩
      rcases h with h|⟨_,h⟩
      ·exact hnr h
      ·exact u1 h
     rotate_left
     ·have:=hreal1 u1
      exact .inr (.inr ⟨this.1,u2,es,ck,by rw [this.2];exact u3,u4⟩)
     ·have:=hreal1 u1
      refine .inr (.inl ⟨this.1,cs,t,frz,nfz,by rw [this.2];exact u2,u3,u4,fun i x j d hx hd=>?_⟩)
      obtain ⟨c',h1,h2⟩:=u5 i x j d hx hd
      exact ⟨c',h1,tI hreal hM h2 (vG (sw.1 q4 x (List.mem_of_getElem? hx)) hd)⟩
   ·have key:∀k o,zd (yt H0.length st'.H++[some ⟨n,sz,xs⟩]) k=some o→K2.real o.n→∃k' o',zd st'.H k'=some o'∧K'.real o'.n∧K'.μ o'.n=K2.μ o.n∧(k'<H0.length∧k=k'∨k'=kx∧(yt H0.length st'.H).length=k):=by
     intro k o ho hr
     rcases hget k o ho with ⟨hk,ho⟩|⟨hk,rfl⟩
     ·have hl:=hlow k o ho hr
      have hkp:=hb.keep _ hl.1
      exact ⟨k,o,yR _ _ _ _ ho,hkp.1,hkp.2.trans (hμ _ hl.1).symm,.inl ⟨hk,rfl⟩⟩
     ·rcases hr with h|⟨_,h⟩
      ·exact absurd h hnr
      ·exact ⟨kx,_,q1,h,(hreal1 h).2.symm,.inr ⟨rfl,hk⟩⟩
    obtain ⟨a1,b1,c1,d1,f1,g1⟩:=key k1 o1 h1 p1
    obtain ⟨a2,b2,c2,d2,f2,g2⟩:=key k2 o2 h2 p2
    have hkk:=hI'.inj a1 a2 b1 b2 c1 c2 d1 d2 (f1.trans (he.trans f2.symm))
    omega
   ·rcases h with h|⟨h,_⟩
    ·exact .inl (hI.dr m h)
    ·exact .inr h
   ·rcases h with h|⟨rfl,h⟩
    ·rw [hμ m h]
     have:=hb.keep m h
     have e:K'.μ m=K.μ m:=this.2
     rw [←e]
     exact hI'.lt m this.1
    ·rw [(hreal1 h).2]
     exact hI'.lt _ h
   ·rcases hget k o ho with ⟨_,ho⟩|⟨_,rfl⟩
    ·have hnf:=sa r3 k o ho
     rcases hb.dom _ (hI'.dobj k o (yR _ _ _ _ ho)) with h|h
     ·exact .inl h
     ·exact absurd hnf.1 (by
       have h':g0≤o.n:=h
       omega)
    ·exact .inr rfl
   ·rcases hget k o ho with ⟨_,ho⟩|⟨_,rfl⟩
    ·have hl:=hlow k o ho hr
     have hk:=hb.keep _ hl.1
     rw [hμ _ hl.1]
     have hlt:K.μ o.n<w.heap.size:=hI.lt _ hl.1
     have ho':=hI'.own k o (yR _ _ _ _ ho) hk.1
     have e:K'.μ o.n=K.μ o.n:=hk.2
     rw [e] at ho'
     exact ⟨.inl ((hb.M _ hlt).1 ho'.1),ho'.2⟩
    ·rcases hr with h|⟨_,h⟩
     ·exact absurd h hnr
     ·have e:K2.μ n=K'.μ n1:=if_pos rfl
      show K2.M (K2.μ n)∧_
      rw [e]
      exact ⟨.inr ⟨h,rfl⟩,(hown1 h).2⟩
 rintro e a' w' ⟨st',K',hR',hq⟩
 cases e with
 |normal=>exact hfin a' w' st' K' hR' hq
 |ret=>exact hfin a' w' st' K' hR' hq
 |exit i=>exact hq.elim
 |goto l=>exact hq.elim
 |panic ch=>exact hq.elim
 |outgrown=>exact hq.elim
def mc (fn:Func):Code:=fn.body.getD .skip
def okF (P:Program) (f:FuncId) (fn:Func) (x:XC) (xr:List XR):Bool:=okC P fn.ntmps (mc fn) x&&(lm P fn.results.toList xr&&(tM P f&&fn.body.isSome))
theorem wa {P:Program} {f:FuncId} {fn:Func} {x:XC} {xr:List XR} (h:okF P f fn x xr=true):okC P fn.ntmps (mc fn) x=true∧lm P fn.results.toList xr=true∧tM P f=true∧fn.body=some (mc fn):=by
 simp only [okF,Bool.and_eq_true] at h
 refine ⟨h.1,h.2.1,h.2.2.1,?_⟩
 unfold mc
 revert h
 cases fn.body with
 |none=>intro h;exact absurd h.2.2.2 (by simp)
 |some c=>intro _;rfl
theorem gM {P:Program} {f:FuncId} {fn:Func} {x:XC} {xr:List XR} {ds:List DV} {H0:HL} {R:DV→HL→Prop} (hf:P.funcs[f]?=some fn) (hk:okF P f fn x xr=true)
  (hgo:∀Γ:Gm,(H0=[]→∀g,¬Γ.W0 g)→(∀k o,zd H0 k=some o→o.n<Γ.g0)→(∀g,Γ.W0 g→∃k o,zd H0 k=some o∧Γ.K0.real o.n∧Γ.K0.μ o.n=g)→Go Γ P fn.ntmps (oS Γ xr H0.length R) x [] ⟨vw ds xc wN,H0,Γ.g0⟩) (hN:Nat.ble ds.length fn.ntmps=true:=by rfl):zE P f ds H0 R:=
 Zc hf (wa hk).2.2.2 (wa hk).1 (wa hk).2.1 (Nat.le_of_ble_eq_true hN) (wa hk).2.2.1 hgo
theorem Zx {P:Program} {f:FuncId} {fn:Func} {x:XC} {xr:List XR} {ds:List DV} {H0:HL} {R:Nat→DV→HL→Prop} (hf:P.funcs[f]?=some fn) (hk:okF P f fn x xr=true)
  (hgo:∀Γ:Gm,(H0=[]→∀g,¬Γ.W0 g)→(∀k o,zd H0 k=some o→o.n<Γ.g0)→(∀g,Γ.W0 g→∃k o,zd H0 k=some o∧Γ.K0.real o.n∧Γ.K0.μ o.n=g)→Go Γ P fn.ntmps (oG Γ xr H0.length R) x [] ⟨vw ds xc wN,H0,Γ.g0⟩) (hN:Nat.ble ds.length fn.ntmps=true:=by rfl):uO P f ds H0 R:=
 Z9 hf (wa hk).2.2.2 (wa hk).1 (wa hk).2.1 (Nat.le_of_ble_eq_true hN) (wa hk).2.2.1 hgo
theorem aw {Γ:Gm} {xr:List XR} {m:Nat} {R:Nat→DV→HL→Prop} {st:St} (h:Zi xr Γ.g0 m R st):oG Γ xr m R st:=⟨st,fun N K a w h=>⟨K,h⟩,h⟩
theorem mT {Γ:Gm} {xr:List XR} {m:Nat} {R:Nat→DV→HL→Prop} {st st':St} (h1:LeG Γ st st') (h2:oG Γ xr m R st'):oG Γ xr m R st:=by
 obtain ⟨s,q1,q2⟩:=h2
 exact ⟨s,fun N K a w h=>by
  obtain ⟨K',h'⟩:=h1 N K a w h
  exact q1 N K' a w h',q2⟩
theorem Xg {Γ:Gm} {xr:List XR} {D:DV} {st:St} (h1:xB st xr) (h2:nfD Γ.g0 (wA (yn st xr))) (h3:wA (yn st xr)=D):oS Γ xr 0 (fun d H=>d=D∧H=[]) st:=l_ ⟨h1,h2,trivial,h3,rfl⟩
theorem yd {k:IntKind} {a b:Int} (h:a=b):DV.v (.int k a)=DV.v (.int k b):=by rw [h]
theorem xP {a b:Bool} (h:a=b):DV.v (.bool a)=DV.v (.bool b):=by rw [h]
def bL:List Sl→List Sl→List Sl
 |[],l=>l
 |x::r,l=>x::bL r l
def nC:List XOp→List Sl
 |[]=>[]
 |⟨some s,_,_⟩::r=>s::nC r
 |⟨none,_,_⟩::r=>nC r
def x9:XC→List Sl
 |.skip=>[]
 |.ret=>[]
 |.region xs=>nC xs
 |.regionD _ xs=>nC xs
 |.seq a b=>bL (x9 a) (x9 b)
 |.cond _ a b=>bL (x9 a) (x9 b)
 |.block _ a=>x9 a
 |.loop a=>x9 a
 |.exit _=>[]
def ln:Env→List Sl→Env
 |e,[]=>e
 |e,s::r=>ln (e.set s .any) r
def sv:Env→List (Sl×DV)→Env
 |e,[]=>e
 |e,(s,d)::r=>sv (e.set s d) r
theorem zw {Γ:Gm} {P:Program} {N:Nat} {R:St→Prop} {k:List KI} {st:St} {α:Type} {x:XC} (sl:α→List (Sl×DV)) (ho:α→List (Nat×Option zj)) (gn:α→Nat) (m:α→Nat) (pre:α→Prop) (a0:α) (h0:pre a0)
  (hle:Le st ⟨sv (ln st.tm (x9 x)) (sl a0),xu st.H (ho a0),gn a0⟩)
  (round:∀a,pre a→Go Γ P N R x (.loop (fun s=>∃a',pre a'∧m a'<m a∧Le s ⟨sv (ln st.tm (x9 x)) (sl a'),xu st.H (ho a'),gn a'⟩)::k) ⟨sv (ln st.tm (x9 x)) (sl a),xu st.H (ho a),gn a⟩):Go Γ P N R (.loop x) k st:=
 Wx (fun a=>⟨sv (ln st.tm (x9 x)) (sl a),xu st.H (ho a),gn a⟩) m pre a0 h0 hle round
theorem zr {Γ:Gm} {st:St} (hW:∀g,¬Γ.W0 g) (s:Sl) {k n sz lo len:Nat} {full:Bool} {o:zj} (hs:st.tm.get s=.sl k n sz lo len full) (ho:zd st.H k=some o) (hid:o.n=n∧o.sz=sz∧lo+len≤o.xs.length) :
  LeG Γ st ⟨st.tm.set s (.snap sz (zN (zV o.xs lo) len) full),y4 st.H k none,st.gen⟩:=by
 intro N K a w hR
 obtain ⟨i1,i2,i3⟩:=hid
 have hI:=hR.inv
 have hv:=hR.tm s
 rw [hs] at hv
 rw [zB,yh]
 have hdrop:Inv Γ K (zd (y4 st.H k none)) w:=qI hI (fun j p hp=>by
  rw [zY] at hp
  by_cases e:j=k
  ·rw [if_pos e] at hp;cases hp
  ·rw [if_neg e] at hp;exact hp)
 have hlen:((o.xs.drop lo).take len).length=len:=by simp;omega
 by_cases hmp:jk K w o
 ·refine ⟨K,hdrop,hR.fresh,hR.g0,hR.size,hR.defers,fun q=>?_⟩
  show ze K w ((st.tm.set s _).get q) _
  rw [Env.get_set]
  by_cases e:q=s
  ·subst e
   rw [if_pos rfl]
   generalize a.tmps.getD q.nat undef=v at hv
   cases hv with
   |@sl _ _ _ _ _ _ A cap hlc hf h=>
    rcases h with h|⟨_,_,_,_,_,hcl,_⟩
    ·have hl0:len=0:=by omega
     subst hl0
     refine .snap (fun _ _=>undef) (by simp) hlc hf (fun x hx=>by simp at hx) (fun h=>by omega) (fun ad i x j d _ hx _=>by simp at hx) (fun i x j d hx=>by simp at hx)
    ·exact hmp.out (by rw [i1];exact hcl)
  ·rw [if_neg e];exact hR.tm q
 rcases (hI.obj k o ho).two hmp with ⟨q1,q2⟩|⟨q1,cs,tt,frz,nfz,q3,q4,q5,q6⟩
 ·refine ⟨K,hdrop,hR.fresh,hR.g0,hR.size,hR.defers,fun q=>?_⟩
  show ze K w ((st.tm.set s _).get q) _
  rw [Env.get_set]
  by_cases e:q=s
  ·subst e
   rw [if_pos rfl]
   generalize a.tmps.getD q.nat undef=v at hv
   have hl0:len=0:=by rw [q2] at i3;simp at i3;omega
   cases hv with
   |@sl _ _ _ _ _ _ A cap hlc hf h=>
    subst hl0
    refine .snap (fun _ _=>undef) (by simp) hlc hf (fun x hx=>by simp at hx) (fun h=>by omega) (fun ad i x j d _ hx _=>by simp at hx) (fun i x j d hx=>by simp at hx)
  ·rw [if_neg e];exact hR.tm q
 ·let K':Kr:=⟨K.dom,K.real,K.μ,fun g=>K.M g∧g≠K.μ o.n⟩
  have hm:yF K w K' w:=⟨Ext.refl _ _,fun m h=>⟨h,rfl⟩,fun g _ h=>h.1⟩
  have hb:Γ.w0.heap.size≤K.μ o.n:=((hI.own k o ho q1).2).resolve_right (hW _)
  have hk:∀j p,zd (y4 st.H k none) j=some p→j≠k∧zd st.H j=some p:=by
   intro j p hp
   rw [zY] at hp
   by_cases e:j=k
   ·rw [if_pos e] at hp;cases hp
   ·rw [if_neg e] at hp;exact ⟨e,hp⟩
  refine ⟨K',⟨hdrop.ext,⟨hI.base.dom,hI.base.old,hI.base.keep,fun g hg=>?_⟩,fun j p hp=>(hdrop.obj j p hp).mono hm id (fun _=>rfl),hdrop.inj,hI.dr,hI.lt,hdrop.dobj,fun j p hp hr=>?_,hI.gl⟩,hR.fresh,hR.g0,hR.size,hR.defers,fun q=>?_⟩
  ·rw [←hI.base.M g hg]
   exact ⟨fun h=>h.1,fun h=>⟨h,by omega⟩⟩
  ·obtain ⟨hj,hp'⟩:=hk j p hp
   have:=hI.own j p hp' hr
   exact ⟨⟨this.1,fun e=>hj (hI.inj j k p o hp' ho hr q1 e)⟩,this.2⟩
  ·show ze K' w ((st.tm.set s _).get q) _
   rw [Env.get_set]
   by_cases e:q=s
   ·subst e
    rw [if_pos rfl]
    generalize a.tmps.getD q.nat undef=v at hv
    cases hv with
    |@sl _ _ _ _ _ _ A cap hlc hf h=>
     have hgetx:∀(i:Nat) (x:List DV),((o.xs.drop lo).take len)[i]?=some x→i<len∧o.xs[lo+i]?=some x:=by
      intro i x hx
      have hi:i<len:=by have:=(List.getElem?_eq_some_iff.1 hx).1;rw [hlen] at this;exact this
      rw [List.getElem?_take_of_lt hi,List.getElem?_drop] at hx
      exact ⟨hi,hx⟩
     have hcell:∀(i:Nat) (x:List DV) (j:Nat) (d:DV),((o.xs.drop lo).take len)[i]?=some x→x[j]?=some d→∃c,cs[(lo+i)*sz+j]?=some c∧ze K' w d c:=by
      intro i x j d hx hd
      obtain ⟨_,hx'⟩:=hgetx i x hx
      obtain ⟨c,g1,g2⟩:=q6 (lo+i) x j d hx' hd
      rw [i2] at g1
      exact ⟨c,g1,g2.mono hm⟩
     refine .snap (fun i j=>(cs[(lo+i)*sz+j]?).getD undef) hlen hlc hf (fun x hx=>?_) (fun h0=>?_) (fun ad i x j d hA hx hd=>?_) (fun i x j d hx hd=>?_)
     ·rw [←i2];exact q5 x (List.mem_of_mem_drop (List.mem_of_mem_take hx))
     ·rcases h with h|⟨hreal,hA,rest⟩
      ·omega
      ·refine ⟨_,hA,rfl,?_,?_⟩
       ·show K.μ n<_
        rw [←i1];exact hI.lt _ q1
       ·rintro ⟨_,h2⟩
        exact h2 (by rw [i1])
     ·obtain ⟨hi,_⟩:=hgetx i x hx
      obtain ⟨c,g1,_⟩:=hcell i x j d hx hd
      rcases h with h|⟨hreal,hA',rest⟩
      ·omega
      ·rw [hA] at hA'
       obtain rfl:=Option.some.inj hA'
       rw [ya,cell_of_row w _ _ cs tt frz (by rw [←i1];exact q3)]
       have e1:lo*sz+(i*sz+j)=(lo+i)*sz+j:=by rw [Nat.add_mul];omega
       rw [e1,g1]
       rfl
     ·obtain ⟨c,g1,g2⟩:=hcell i x j d hx hd
      simp only [g1,Option.getD_some]
      exact g2
   ·rw [if_neg e]
    exact (hR.tm q).mono hm
theorem ye {α:Type} (f:α→List DV):∀(l:List α) (i:Nat) (x:α),l[i]?=some x→yo (l.map f) i=f x
 |[],i,x,h=>by simp at h
 |y::r,0,x,h=>by simp at h;subst h;rfl
 |y::r,i+1,x,h=>by simpa [yo] using ye f r i x (by simpa using h)
theorem tH {l:List (List DV)} {n:Nat} (h:n=l.length):zN (zV l 0) n=l:=by rw [zB,h];cases l<;>simp [zV]
theorem zl {α:Type} {f:α→List DV} {g:Nat}:∀ {l:List α},(∀x,nfL g (f x))→yA g (l.map f)
 |[],h=>trivial
 |x::r,h=>⟨h x,zl (l:=r) h⟩
theorem bnf:(!false)=true:=rfl
theorem bnt:(!true)=false:=rfl
theorem YT (k k':IntKind) (a b:Int):tU 0 (.v (.int k a)) (.v (.int k' b))=(match xy k k' with|true=>some (decide (a=b))|false=>none):=rfl
theorem Zf (a b:Bool):tU 1 (.v (.bool a)) (.v (.bool b))=some (a == b):=rfl
theorem ZH (a b:ByteArray):tU 2 (.v (.string a)) (.v (.string b))=some (decide (a=b)):=rfl
theorem ZE:tU 3 (.v (.pointer none)) (.v (.pointer none))=some true:=rfl
theorem ZT (x:List DV):tU 3 (.rptr x) (.v (.pointer none))=some false:=rfl
theorem Xa (k n sz i j:Nat):tU 3 (.ptr k n sz i j) (.v (.pointer none))=some false:=rfl
section
variable {Γ:Gm} {P:Program} {N:Nat} {R:St→Prop} {k:List KI} {st:St}
theorem zP {x:XC} {st':St} (hle:LeG Γ st st') (h:Go Γ P N R x k st'):Go Γ P N R x k st:=by
 intro c hc K a w hR
 obtain ⟨K',hR'⟩:=hle N K a w hR
 exact h c hc K' a w hR'
end
theorem yb {Γ:Gm} {st:St} (hW:∀g,¬Γ.W0 g) (s:Sl) {k n sz i j:Nat} {o:zj} (hs:st.tm.get s=.ptr k n sz i j) (ho:zd st.H k=some o) (hid:o.n=n∧o.sz=sz∧i<o.xs.length) :
  LeG Γ st ⟨st.tm.set s (.rptr (yL (yo o.xs i) j)),y4 st.H k none,st.gen⟩:=by
 intro N K a w hR
 obtain ⟨i1,i2,i3⟩:=hid
 have hI:=hR.inv
 have hv:=hR.tm s
 rw [hs] at hv
 have hdrop:Inv Γ K (zd (y4 st.H k none)) w:=qI hI (fun j p hp=>by
  rw [zY] at hp
  by_cases e:j=k
  ·rw [if_pos e] at hp;cases hp
  ·rw [if_neg e] at hp;exact hp)
 have hmp:¬jk K w o:=fun hm=>by
  generalize a.tmps.getD s.nat undef=v at hv
  cases hv with
  |ptr _ hcl0=>
   obtain ⟨_,_,_,hcl0⟩:=hcl0
   exact hm.out (by rw [i1];exact hcl0)
 rcases (hI.obj k o ho).two hmp with ⟨q1,q2⟩|⟨q1,cs,tt,frz,nfz,q3,q4,q5,q6⟩
 ·rw [q2] at i3
  simp at i3
 ·let K':Kr:=⟨K.dom,K.real,K.μ,fun g=>K.M g∧g≠K.μ o.n⟩
  have hm:yF K w K' w:=⟨Ext.refl _ _,fun m h=>⟨h,rfl⟩,fun g _ h=>h.1⟩
  have hb:Γ.w0.heap.size≤K.μ o.n:=((hI.own k o ho q1).2).resolve_right (hW _)
  have hk:∀j p,zd (y4 st.H k none) j=some p→j≠k∧zd st.H j=some p:=by
   intro j p hp
   rw [zY] at hp
   by_cases e:j=k
   ·rw [if_pos e] at hp;cases hp
   ·rw [if_neg e] at hp;exact ⟨e,hp⟩
  refine ⟨K',⟨hdrop.ext,⟨hI.base.dom,hI.base.old,hI.base.keep,fun g hg=>?_⟩,fun j p hp=>(hdrop.obj j p hp).mono hm id (fun _=>rfl),hdrop.inj,hI.dr,hI.lt,hdrop.dobj,fun j p hp hr=>?_,hI.gl⟩,hR.fresh,hR.g0,hR.size,hR.defers,fun q=>?_⟩
  ·rw [←hI.base.M g hg]
   exact ⟨fun h=>h.1,fun h=>⟨h,by omega⟩⟩
  ·obtain ⟨hj,hp'⟩:=hk j p hp
   have:=hI.own j p hp' hr
   exact ⟨⟨this.1,fun e=>hj (hI.inj j k p o hp' ho hr q1 e)⟩,this.2⟩
  ·show ze K' w ((st.tm.set s _).get q) _
   rw [Env.get_set]
   by_cases e:q=s
   ·subst e
    rw [if_pos rfl]
    generalize a.tmps.getD q.nat undef=v at hv
    cases hv with
    |ptr hreal=>
     have hx:o.xs[i]?=some (yo o.xs i):=by rw [yV,List.getElem?_eq_getElem i3];rfl
     have hc:∀(t:Nat) (d:DV),(yL (yo o.xs i) j)[t]?=some d→∃c,cs[i*sz+(j+t)]?=some c∧ze K' w d c:=by
      intro t d hd
      rw [xd,List.getElem?_drop] at hd
      obtain ⟨c,g1,g2⟩:=q6 i (yo o.xs i) (j+t) d hx hd
      rw [i2] at g1
      exact ⟨c,g1,g2.mono hm⟩
     refine .rptr (fun t=>(cs[i*sz+(j+t)]?).getD undef) rfl ?_ ?_ (fun t d hd=>?_) (fun t d hd=>?_)
     ·show K.μ n<_
      rw [←i1];exact hI.lt _ q1
     ·rintro ⟨_,h2⟩
      exact h2 (by rw [i1])
     ·obtain ⟨c,g1,_⟩:=hc t d hd
      rw [ya,cell_of_row w _ _ cs tt frz (by rw [←i1];exact q3),Nat.add_assoc,g1]
      rfl
     ·obtain ⟨c,g1,g2⟩:=hc t d hd
      simp only [g1,Option.getD_some]
      exact g2
   ·rw [if_neg e]
    exact (hR.tm q).mono hm
end Go.Proofs.YtaiileiodjicpaaGreatDoor
