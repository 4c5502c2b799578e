import Derived.Test.YtmibknbmhcnemaaDoorTm47
import Derived.Lib.LaidTab
import Derived.Lib.LaidU8
import Derived.LaidLaws
import Derived.Test.YtmibknbmhcnemaaDoorRows
import Derived.Test.YtmibknbmhcnemaaDoorTie
import Derived.Test.YtmibknbmhcnemaaDoorCards
import Derived.SevenTiedAt
import Derived.LaidHandle
import Derived.LaidMore
import Derived.MakeChecks
import Derived.OpenShut
import Derived.Stop.Joined
import Derived.Shelf.Vars
import Derived.Lay
import Derived.Test.YtmibknbmhcnemaaDoorTm19
set_option linter.unusedVariables false
set_option linter.unusedSimpArgs false
namespace Go.Proofs.YtmibknbmhcnemaaDoor
open Go.RowKit
def TS:Sh→Type
 |.int _=>Int
 |.bool=>Bool
 |.str=>ByteArray
 |.nil=>Unit
 |.cons s r=>TS s×TS r
 |.slice _ _ e=>List (TS e)
def ul:(s:Sh)→TS s→List DV
 |.int k,n=>[.v (.int k n)]
 |.bool,b=>[.v (.bool b)]
 |.str,t=>[.v (.string t)]
 |.nil,_=>[]
 |.cons s r,(x,y)=>ul s x++ul r y
 |.slice _ n e,(l:List (TS e))=>[.snap n (l.map (ul e)) false]
def wfS:(s:Sh)→TS s→Prop
 |.int k,n=>(Lit.int k n).wf=true
 |.bool,_=>True
 |.str,t=>t.size≤140737488351232
 |.nil,_=>True
 |.cons s r,(x,y)=>wfS s x∧wfS r y
 |.slice b _ e,(l:List (TS e))=>l.length*b≤140737488351232∧l.length≤maxLen∧∀x∈l,wfS e x
def Sh.posB:Sh→Bool
 |.cons s r=>s.posB&&r.posB
 |.slice _ n e=>decide (0<n)&&decide (n=e.size)&&e.posB
 |_=>true
def K0:Kr:=⟨fun _=>False,fun _=>False,fun _=>0,fun _=>False⟩
theorem xS:∀(s:Sh) (x:TS s),(ul s x).length=s.size
 |.int k,x=>rfl
 |.bool,x=>rfl
 |.str,x=>rfl
 |.nil,x=>rfl
 |.cons s r,(x,y)=>by simp [ul,Sh.size,xS s x,xS r y]
 |.slice b n e,x=>rfl
theorem so {w:World}:∀(s:Sh) (cs:List Value),s.posB=true→opn w w.heap.size s cs→∃x:TS s,cs.length=s.size∧wfS s x∧∀(i:Nat) (d:DV) (c:Value),(ul s x)[i]?=some d→cs[i]?=some c→z9 K0 w d c
 |.int k,cs,_,h=>by
  obtain ⟨n,rfl,hw⟩:=h
  refine ⟨n,rfl,hw,fun i d c hd hc=>?_⟩
  cases i with
  |zero=>simp [ul] at hd hc;rw [←hd,←hc];exact .v _
  |succ i=>simp at hc
 |.bool,cs,_,h=>by
  obtain ⟨n,rfl⟩:=h
  refine ⟨n,rfl,trivial,fun i d c hd hc=>?_⟩
  cases i with
  |zero=>simp [ul] at hd hc;rw [←hd,←hc];exact .v _
  |succ i=>simp at hc
 |.str,cs,_,h=>by
  obtain ⟨n,rfl,hw⟩:=h
  refine ⟨n,rfl,hw,fun i d c hd hc=>?_⟩
  cases i with
  |zero=>simp [ul] at hd hc;rw [←hd,←hc];exact .v _
  |succ i=>simp at hc
 |.nil,cs,_,h=>by
  have h':cs=[]:=h
  subst h'
  exact ⟨(),rfl,trivial,fun i d c hd hc=>by simp at hc⟩
 |.cons s r,cs,hp,h=>by
  simp only [Sh.posB,Bool.and_eq_true] at hp
  obtain ⟨c1,c2,rfl,hl,h1,h2⟩:=h
  obtain ⟨x,x1,x2,x3⟩:=so s c1 hp.1 h1
  obtain ⟨y,y1,y2,y3⟩:=so r c2 hp.2 h2
  refine ⟨(x,y),by simp [Sh.size,x1,y1],⟨x2,y2⟩,fun i d c hd hc=>?_⟩
  simp only [ul] at hd
  have e:(ul s x).length=c1.length:=by rw [xS,x1]
  by_cases hi:i<c1.length
  ·rw [List.getElem?_append_left (by omega)] at hd
   rw [List.getElem?_append_left hi] at hc
   exact x3 i d c hd hc
  ·rw [List.getElem?_append_right (by omega),e] at hd
   rw [List.getElem?_append_right (by omega)] at hc
   exact y3 _ d c hd hc
 |.slice b n e,cs,hp,h=>by
  simp only [Sh.posB,Bool.and_eq_true,decide_eq_true_eq] at hp
  obtain ⟨⟨hn,hne⟩,hpe⟩:=hp
  obtain ⟨A,len,cap,rfl,hlc,hb,hm,hA,had⟩:=h
  have hel:∀i,i<len→∃x:TS e,wfS e x∧∀ad,A=some ad→∀(j:Nat) (d:DV),(ul e x)[j]?=some d→∃c,w.cell? (ad.add (i*n+j))=some c∧z9 K0 w d c:=by
   intro i hi
   cases A with
   |none=>have:=hA rfl;omega
   |some ad=>
    obtain ⟨_,h2⟩:=had ad rfl
    obtain ⟨es,h3,h4,h5⟩:=h2 i hi
    obtain ⟨x,x1,x2,x3⟩:=so e es hpe h5
    refine ⟨x,x2,fun ad' e' j d hd=>?_⟩
    obtain rfl:=Option.some.inj e'
    have hj:j<n:=by rw [hne,←xS e x];exact (List.getElem?_eq_some_iff.1 hd).1
    have hj2:j<es.length:=by omega
    exact ⟨es[j],by rw [h4 j hj];exact List.getElem?_eq_getElem hj2,x3 j d _ hd (List.getElem?_eq_getElem hj2)⟩
  obtain ⟨l,hl,hx⟩:=qQ len hel
  refine ⟨l,rfl,⟨by rw [hl];exact Nat.le_trans (Nat.mul_le_mul_right _ hlc) hb,by rw [hl];omega,fun x hx'=>?_⟩,fun i d c hd hc=>?_⟩
  ·obtain ⟨i,hi,rfl⟩:=List.mem_iff_getElem.1 hx'
   exact (hx i hi).1
  ·cases i with
   |succ i=>simp at hc
   |zero=>
    simp [ul] at hd hc
    subst hd hc
    have key:∀(ad:Addr) (i:Nat) (x:List DV) (j:Nat) (d:DV),A=some ad→(l.map (ul e))[i]?=some x→x[j]?=some d→∃c,w.cell? (ad.add (i*n+j))=some c∧z9 K0 w d c:=by
     intro ad i x j d hA hx' hd
     rw [List.getElem?_map] at hx'
     cases hq:l[i]? with
     |none=>rw [hq] at hx';cases hx'
     |some y=>
      rw [hq] at hx'
      obtain rfl:=Option.some.inj hx'
      obtain ⟨hi,he⟩:=List.getElem?_eq_some_iff.1 hq
      have:=(hx i hi).2 ad hA j d (by rw [he];exact hd)
      exact this
    refine .snap (fun i j=>match A with|some ad=>(w.cell? (ad.add (i*n+j))).getD undef|none=>undef) (by simp [hl]) hlc (fun h=>by cases h) (fun x hx'=>?_) (fun h0=>?_) (fun ad i x j d hA hx' hd=>?_) (fun i x j d hx' hd=>?_)
    ·obtain ⟨y,_,rfl⟩:=List.mem_map.1 hx'
     rw [xS,hne]
    ·cases A with
     |none=>have:=hA rfl;omega
     |some ad=>
      refine ⟨ad,rfl,?_,(had ad rfl).1 h0,fun h=>h⟩
      obtain ⟨es,h3,h4,h5⟩:=(had ad rfl).2 0 h0
      have h6:=h4 0 hn
      rw [Nat.zero_mul,List.getElem?_eq_getElem (by omega:0<es.length)] at h6
      have h7:ad.add 0=ad:=by simp [Addr.add]
      rw [h7] at h6
      unfold World.cell? at h6
      split at h6
      ·split at h6
       ·cases h6
       ·rename_i hsp;simpa using hsp
      ·cases h6
    ·obtain ⟨c,e1,e2⟩:=key ad i x j d hA hx' hd
     subst hA
     simp [e1]
    ·have hi:i<len:=by
      have:=(List.getElem?_eq_some_iff.1 hx').1
      simpa [hl] using this
     cases A with
     |none=>have:=hA rfl;omega
     |some ad=>
      obtain ⟨c,e1,e2⟩:=key ad i x j d rfl hx' hd
      simp only [e1,Option.getD_some]
      exact e2
def YD:(s:Sh)→TS s→DV
 |.int k,n=>.v (.int k n)
 |.bool,b=>.v (.bool b)
 |.str,t=>.v (.string t)
 |.nil,_=>.any
 |.cons s r,(x,y)=>.agg (ul s x++ul r y)
 |.slice _ n e,(l:List (TS e))=>.snap n (l.map (ul e)) false
theorem fN {w:World} {s:Sh} {cs:List Value} (hp:s.posB=true) (hs:s≠.nil) (h:opn w w.heap.size s cs):∃x:TS s,wfS s x∧z9 K0 w (YD s x) (s.val cs):=by
 obtain ⟨x,x1,x2,x3⟩:=so s cs hp h
 refine ⟨x,x2,?_⟩
 have one:s.size=1→(ul s x).length=1→z9 K0 w ((ul s x).headD .any) (cs.headD undef):=by
  intro h1 h2
  obtain ⟨d,hd⟩:=List.length_eq_one_iff.1 h2
  obtain ⟨c,hc⟩:=List.length_eq_one_iff.1 (x1.trans h1)
  rw [hd,hc] at x3 ⊢
  exact x3 0 d c rfl rfl
 cases s with
 |nil=>exact absurd rfl hs
 |cons s r=>
  obtain ⟨y,z⟩:=x
  have hl:=xS (.cons s r) (y,z)
  exact .agg (ds:=ul s y++ul r z) (by simp only [List.size_toArray];rw [x1,←hl];rfl) (fun i d c hd hc=>x3 i d c hd (by simpa using hc))
 |int k=>exact one rfl rfl
 |bool=>exact one rfl rfl
 |str=>exact one rfl rfl
 |slice b n e=>exact one rfl rfl
def TSs:List Sh→Type
 |[]=>Unit
 |s::r=>TS s×TSs r
def ry:(ss:List Sh)→TSs ss→List DV
 |[],_=>[]
 |s::r,(x,y)=>YD s x::ry r y
def Yz:(ss:List Sh)→TSs ss→Prop
 |[],_=>True
 |s::r,(x,y)=>wfS s x∧Yz r y
def Sh.okB:Sh→Bool
 |.nil=>false
 |s=>s.posB
theorem nZ {w:World}:∀(ss:List Sh) (vs:List Value),ss.all Sh.okB=true→qw w w.heap.size ss vs→∃x:TSs ss,Yz ss x∧zr K0 w (ry ss x) vs.toArray
 |[],vs,_,h=>by
  have h':vs=[]:=h
  subst h'
  exact ⟨(),trivial,rfl,fun i d v hd=>by simp [ry] at hd⟩
 |s::r,vs,hp,h=>by
  simp only [List.all_cons,Bool.and_eq_true] at hp
  obtain ⟨cs,vr,rfl,h1,h2⟩:=h
  have hs:s≠.nil:=by rintro rfl;simp [Sh.okB] at hp
  have hp1:s.posB=true:=by have:=hp.1;cases s<;>first|exact absurd rfl hs|exact this
  obtain ⟨x,x1,x2⟩:=fN hp1 hs h1
  obtain ⟨y,y1,y2,y3⟩:=nZ r vr hp.2 h2
  refine ⟨(x,y),⟨x1,y1⟩,by simpa [ry] using y2,fun i d v hd hv=>?_⟩
  cases i with
  |zero=>simp [ry] at hd hv;rw [←hd,←hv];exact x2
  |succ i=>exact y3 i d v (by simpa [ry] using hd) (by simpa using hv)
theorem bZ {P:Program} {f:FuncId} {shs:List Sh} {W:World} {args:Array Value} (hok:shs.all Sh.okB=true) (h:qw W W.heap.size shs args.toList) (hspec:∀x:TSs shs,Yz shs x→zf P f (ry shs x) (.v (.bool true))) (hgl:ZO W:=by exact globW_nil _) :
  Calls P f args W fun e W'=>e=.returned (.bool true)∧Below W.heap.size W W':=by
 obtain ⟨x,hx,ha⟩:=nZ shs args.toList hok h
 have ha':zr (K0.cut W) W (ry shs x) args:=wN (by simpa using ha)
 have hI:Inv (yM K0 W 0 []) (K0.cut W) (z8 []) W:=⟨Ext.refl _ _,⟨fun n h=>h.elim,fun n h=>h.elim,fun n h=>h.elim,fun g _=>Iff.rfl⟩,fun k o h=>by simp [z8] at h,fun k k' o o' h=>by simp [z8] at h,fun n h=>h,fun n h=>h.elim,fun k o h=>by simp [z8] at h,fun k o h=>by simp [z8] at h,fun g cs hg=>⟨fun ⟨_,_,q,_⟩=>by simp [z8] at q,fun q=>q.1,hgl g cs hg⟩⟩
 refine ((hspec x hx).2 K0 W args 0 hI (fun n h=>h.elim) ha').mono ?_
 rintro e w' ⟨v,d,H1,rfl,⟨rfl,rfl⟩,hI',hv⟩
 refine ⟨by rw [zh hv],hI'.ext.os,hI'.ext.tape,hI'.ext.output,hI'.ext.size,fun k hk=>hI'.ext.keep k hk ?_⟩
 rintro ⟨j,o,h,_⟩
 simp [yM,z8] at h
end Go.Proofs.YtmibknbmhcnemaaDoor
namespace Go.Proofs.YtmibknbmhcnemaaDoor
open Go.RowKit
theorem bi {P:Program} {W:World} {n:String} {g:Nat} {arr:Array Value} (hg:P.globalNamed n=some g) (h:W.var? P n=some arr):g<W.heap.size∧∀i,W.cell? ⟨g,i,none⟩=arr[i]?:=by
 refine ⟨?_,World.var?_cell hg h⟩
 simp only [World.var?,hg,Option.bind_some] at h
 rcases Nat.lt_or_ge g W.heap.size with h'|h'
 ·exact h'
 ·simp [Array.getElem?_eq_none h'] at h
theorem bq {W:World} {g:Nat} {arr:Array Value} (hc:∀i,W.cell? ⟨g,i,none⟩=arr[i]?) {cs:List Value} (h:arr.toList=cs) (hn:∀c∈cs,qn c=true):lJ W g cs:=by
 subst h
 refine ⟨fun i c hi=>.inl ⟨hn c (List.mem_of_getElem? hi),?_⟩,?_⟩
 ·rw [hc i,←Array.getElem?_toList]
  exact hi
 ·rw [hc]
  simp
theorem dv {P:Program} {laid:List (String×DataW Unit)} {W:World} (h:laidMet P laid W) {name:String} {k:IntKind} {zs:List Int} (hm:(name,Lib.tabData k zs)∈laid) {g:Nat} {t e:TypeId} {n:Nat}
  (hg:P.globalNamed name=some g) (hty:(P.globals[g]?).map (·.type)=some t) (ht:P.underlying t=some (.array n e)) (he:P.underlying e=some (.int k)) (hce:P.cellsOf e=1) (hct:P.cellsOf t=n):g<W.heap.size∧lJ W g (zs.map (Value.int k)):=by
 obtain ⟨g',t',cs,fuel,p,hg',ht',hvar,hd⟩:=Lib.laidMet.reads h hm
 obtain rfl:=Option.some.inj (hg.symm.trans hg')
 obtain rfl:=Option.some.inj (hty.symm.trans ht')
 obtain ⟨h1,h2⟩:=bi hg hvar
 exact ⟨h1,bq h2 (Lib.cells_of_tab ht he hce hct hd) (fun c hc=>by
  obtain ⟨z,-,rfl⟩:=List.mem_map.1 hc
  rfl)⟩
end Go.Proofs.YtmibknbmhcnemaaDoor
namespace Go.Proofs.YtmibknbmhcnemaaDoor
open Go.ChangeShapes Go.WideShapes Go.ChangeAt Go.RowKit
theorem sW {H:Type} {enc:TypeId×Value→H} {C:Checked} {os:Os} {f:FuncId} {fn:Func} {s:ChangeSpec} {X:World→Array Value→Prop}
  (hX:∀(w w':World) (args:Array Value),w.heap=w'.heap→X w args→X w' args)
  (own:ownKnob C.prog.godebug=none) (started:os.Started) (noInit:C.prog.inits.idxOf? f=none) (hfn:C.prog.funcs[f]?=some fn)
  (witness:∃ (w:World) (tape:Tape) (i:Input),w.os=os∧(w.forCall tape i).Shaped C.prog∧i.vars=[]∧Input.okWide C.prog (w.forCall tape i) .any w.heap.size f i∧
   ((s.pre enc C.prog fn [] false (w.forCall tape i).memory i.args∧X (w.forCall tape i).memory i.args)∧sizedMet enc C.prog fn (OpenSpec.ofChange s) false (w.forCall tape i).memory i.args)∧({}:Assume).holds C.prog (lone (Frame.enter C.prog f i.args .normal) [] (w.forCall tape i)))
  (contract:∀(W:World) (base:Nat) (args:Array Value) (ds gs:List (DataW H)) (before:List MemPlace),
   (∀(j:Nat) t v,fn.params[j]?=some t→args[j]?=some v→Value.okWide C.prog W .any base t v)→
   DataW.Whole enc C.prog fn.params.toList s.vars false W args.toList ds gs before→
   ([]:List PathCond).all (PathCond.test C.prog ⟨fn.params.toList,ds,s.plain.varTypes C.prog,gs⟩)=true→
   (DataW.weightsEach C.prog (fn.params.toList++s.plain.varTypes C.prog) (ds++gs)).all (·≤reachBytes)=true→X W args→W.ShapedOpen C.prog→
   Calls C.prog f args W fun e W'=>∃v,e=.returned v∧s.post enc C.prog fn false true false false W args v W') :
  ReturnsInHanded {} C os f .any (fun w args=>(s.pre enc C.prog fn [] false w args∧X w args)∧sizedMet enc C.prog fn (OpenSpec.ofChange s) false w args) (s.post enc C.prog fn false true false false):=by
 refine returnsInHanded_of_calls own started noInit witness ?_
 intro w tape i _ hsh _ hok hpre _
 obtain ⟨_,_,_,fn',hfn',_,_,_,_,hval⟩:=hok
 have e:fn'=fn:=Option.some.inj (hfn'.symm.trans hfn)
 subst e
 obtain ⟨⟨⟨ds,gs,before,hw,hc⟩,hx⟩,hz⟩:=hpre
 have hw':=DataW.Whole.of_heap (w':=w.forCall tape i) (by rfl) hw
 refine (contract (w.forCall tape i) w.heap.size i.args ds gs before hval hw' hc (hz.weights hw) (hX _ _ _ (by rfl) hx) hsh).mono fun e W' ⟨v,he,hp⟩=>?_
 subst he
 exact ChangeSpec.post_blind hp
theorem qj {C:Checked} {os:Os} {f:FuncId} {fn:Func} {s:ChangeSpec} {H:Type} {enc:TypeId×Value→H} {laid:List (String×DataW Unit)} (own:ownKnob C.prog.godebug=none) (started:os.Started) (noInit:C.prog.inits.idxOf? f=none) (hfn:C.prog.funcs[f]?=some fn)
  (witness:∃ (w:World) (tape:Tape) (i:Input),w.os=os∧(w.forCall tape i).Shaped C.prog∧i.vars=[]∧Input.okWide C.prog (w.forCall tape i) .any w.heap.size f i∧
   ((s.pre enc C.prog fn [] false (w.forCall tape i).memory i.args∧laidMetH C.prog laid (w.forCall tape i).memory)∧sizedMet enc C.prog fn (OpenSpec.ofChange s) false (w.forCall tape i).memory i.args)∧({}:Assume).holds C.prog (lone (Frame.enter C.prog f i.args .normal) [] (w.forCall tape i)))
  (shs:List Sh) (hsz:shs.length=fn.params.toList.length) (hfit:(List.range shs.length).all (fun i=>match shs[i]?,fn.params.toList[i]? with|some s,some t=>s.fit C.prog none t|_,_=>false)=true)
  (hvars:s.vars=[]) (hspec:∀ds:List (DataW H),ds.length=shs.length→(s.fn H (ds++[])).results=[.lit (.bool true)]∧(s.fn H (ds++[])).args=ds∧(s.fn H (ds++[])).vars=[]) (tb:TypeId) (hres:fn.resultTypes = #[tb]) (htb:C.prog.underlying tb=some .bool)
  (hl:laidOutB C.prog=true) (hrd:fn.params.toList.all (fun t=>C.prog.readableRec t&&decide (t<C.prog.types.size))=true)
  (core:∀(W:World) (args:Array Value),laidMetH C.prog laid W→W.ShapedOpen C.prog→qw W W.heap.size shs args.toList→Calls C.prog f args W fun e W'=>e=.returned (.bool true)∧Below W.heap.size W W') :
  ReturnsInHanded {} C os f .any (fun w args=>(s.pre enc C.prog fn [] false w args∧laidMetH C.prog laid w)∧sizedMet enc C.prog fn (OpenSpec.ofChange s) false w args) (s.post enc C.prog fn false true false false):=by
 refine sW (X:=fun w _=>laidMetH C.prog laid w) (fun _ _ _ hh h=>h.of_heap hh) own started noInit hfn witness ?_
 intro W base args ds gs before hval hW hcnd hwt hL hsh
 have hlt:∀p∈before,p.block<W.heap.size:=fun p hp=>hW.lt p hp
 have hW':=hW
 obtain ⟨p,q,hA,hV,rfl,hfz,hnd⟩:=hW
 rw [hvars] at hV
 obtain ⟨rfl,rfl⟩:=trodVars_none hV
 have hlen:=s5 hA
 obtain ⟨s1,s2,s3⟩:=hspec ds (by rw [hlen,hsz])
 have hwt':(DataW.weightsEach C.prog fn.params.toList ds).all (·≤reachBytes)=true:=by
  have hv:s.plain.varTypes C.prog=[]:=by
   show s.vars.filterMap _=[]
   rw [hvars];rfl
  rw [hv,List.append_nil,List.append_nil] at hwt
  exact hwt
 have hop:=nP (B:=W.heap.size) (shs:=shs) hsz (fun i s' t' hi ht=>by
  have h:=List.all_eq_true.1 hfit i (List.mem_range.2 (List.getElem?_eq_some_iff.1 hi).1)
  simp only [hi,ht] at h
  exact h) (fun j t v hj hv=>hval j t v (by simpa using hj) (by simpa using hv)) hA hwt' (fun x hx=>hlt x (List.mem_append.2 (.inl hx)))
 refine (core W args hL hsh hop).mono fun e W' ⟨he,hb⟩=>?_
 subst he
 refine ⟨_,rfl,ds,[],_,[],p,[],hW',?_,?_,?_,hb.frame _,fun h=>by cases h⟩
 ·rw [hres,s1]
  exact trodAll_cons_mk (shut_bool htb _) trodAll_mk0
 ·rw [s2]
  exact md hl hb hrd hA (fun x hx=>hlt x (List.mem_append.2 (.inl hx)))
 ·rw [s3,hvars]
  rfl
end Go.Proofs.YtmibknbmhcnemaaDoor
namespace Go.Proofs.YtmibknbmhcnemaaDoor
open Go.ChangeShapes Go.WideShapes Go.ChangeAt Go.RowKit
theorem fM {W:World} {laid:List (String×DataW Unit)} (hm:("math/bits.deBruijn64tab",Lib.tabData .u8 (iV.map fun (n:Nat)=>(n:Int)))∈laid) (hp:laidMetH Tryd.prog laid W→laidMet Tryd.prog laid W) (h:laidMetH Tryd.prog laid W):ZO W:=by
 intro g cs hg
 unfold jC at hg
 simp only [List.mem_cons,List.not_mem_nil,or_false,Prod.mk.injEq] at hg
 obtain ⟨rfl,rfl⟩:=hg
 exact dv (hp h) (name := "math/bits.deBruijn64tab") (k:=.u8) (zs:=iV.map fun (n:Nat)=>(n:Int)) (n:=64) (e:=5) (t:=178) hm (by kernel_rfl) (by kernel_rfl) Tryd.underlying178 Tryd.underlying5 (by kernel_rfl) (by kernel_rfl)
end Go.Proofs.YtmibknbmhcnemaaDoor
