import Derived.Test.YtdiobdlinjgakaaGreatDoorDh03
set_option linter.unusedVariables false
set_option linter.unusedSimpArgs false
set_option maxHeartbeats 8000000
set_option maxRecDepth 100000
open Go.Proofs.Tryz
open List renaming getElem?_eq_getElem->_a,getElem?_eq_some_iff->_b,mem_of_getElem?->_c,mem_cons->_f,getElem?_eq_none->_i,getElem_mem->_j,not_mem_nil->_m,getElem?_take->_p,getElem?_drop->_q,ext_getElem?->_s,take_length->_t,take_left'->_u,map_cons->_v,mem_map->_x,range'->_A
open Bool renaming and_eq_true->_d
open Array renaming getElem?_eq_getElem->_e,replicate->_g
open Option.some renaming inj->_h,injEq->_n
open Nat renaming add_sub_cancel_left->_k,zero_add->_l,le_refl->_o,lt_of_lt_of_le->_r,add_assoc->_w,lt_or_ge->_y,le_trans->_z,zero_le->_B
namespace Go.Proofs.YtdiobdlinjgakaaGreatDoor
section
variable {Γ:bw} {P:Program} {N:Nat} {R:bb->Prop} {k:List jR} {st:bb}
theorem w3.mono{x:dI}{b f:Exit->bb->Prop}(h:w3 Γ P N x b st)(g:∀e s,b e s->f e s):w3 Γ P N x f st:=fun c j=>(h c j).mono g
theorem abS{α:Type}(f:α->bb)(c:α->Prop){x y:dI}(h1:Go Γ P N R x (.loop (fun s=>∃a,c a/\fP s (f a))::k) st)(h2:∀a,c a->Go Γ P N R y k (f a)):Go Γ P N R (.seq x y) k st:=by
 refine j8 (w3.mono h1 ?_);intro e s b;cases e with
 |normal=>
  obtain⟨a,g,j⟩:=b;exact eJ j (h2 a g)
 |exit i=>exact b
 |ret=>exact b
 |goto l=>exact b
 |panic m=>exact b
 |outgrown=>exact b
theorem ahx{xs:List cP}{y:dI}(h:Go Γ P N R (.region xs) (.code y::k) st):Go Γ P N R (.seq (.region xs) y) k st:=j8 h
theorem alJ{ps:List Nat}{xs:List cP}{y:dI}(h:Go Γ P N R (.uf ps xs) (.code y::k) st):Go Γ P N R (.seq (.uf ps xs) y) k st:=j8 h
theorem ad4{i:Nat}{x y:dI}(h:Go Γ P N R (.block i x) (.code y::k) st):Go Γ P N R (.seq (.block i x) y) k st:=j8 h
theorem adp{xs:List cP}{i:Nat}{x y:dI}(h:Go Γ P N R (.seq (.region xs) (.block i x)) (.code y::k) st):Go Γ P N R (.seq (.seq (.region xs) (.block i x)) y) k st:=j8 h
theorem EG{α:Type}(aG:α->List (bK×O))(b:α->List (Nat×Option aR))(c:α->Nat)(f:α->Prop){x y:dI}
 (h1:Go Γ P N R x (.loop (fun s=>∃a,f a/\fP s ⟨nL (nc st.tm (j6 x)) (aG a),d_ st.H (b a),c a⟩)::k) st)
 (h2:∀a,f a->Go Γ P N R y k ⟨nL (nc st.tm (j6 x)) (aG a),d_ st.H (b a),c a⟩):Go Γ P N R (.seq x y) k st:=
 abS (fun a=>⟨nL (nc st.tm (j6 x)) (aG a),d_ st.H (b a),c a⟩) f h1 h2
end
theorem ai7{Γ:bw}{K:aO}{H:Nat->Option aR}{w:World}(aI:Inv Γ K H w){k:Nat}{o:aR}(I:H k=some o)(v:Nat)(J:0<o.sz):Inv Γ K (fun j=>if j=k then some ⟨o.n,o.sz,o.xs.take v⟩else H j) w:=by
 have bq:∀j p,(if j=k then some (⟨o.n,o.sz,o.xs.take v⟩:aR)else H j)=some p->∃b,H j=some b/\b.n=p.n/\b.sz=p.sz/\p.xs=b.xs.take (if j=k then v else b.xs.length)/\(j=k->0<b.sz):=by
  intro j p h;by_cases e:j=k
  .rw[if_pos e]at h;obtain rfl:=_h h;exact⟨o,by rw[e];exact I,rfl,rfl,by rw[if_pos e],fun _=>J⟩
  rw[if_neg e]at h;exact⟨p,h,rfl,rfl,by rw[if_neg e,_t],fun q=>absurd q e⟩
 refine⟨aI.ext,aI.base,fun j p h=>?_,fun Lw Cz lM lF h1 h2 aw aY bu=>?_,aI.db,aI.lt,fun j p h=>?_,fun j p h aT=>?_,aI.ga⟩
 .obtain⟨b,a_,a8,g,f,M⟩:=bq j p h;rcases aI.obj j b a_ with⟨m,u⟩|⟨m,O,t,Q,U,u,z,C,X⟩|⟨m,u,Y,Z,z,C⟩
  .exact .inl ⟨by rw[<-a8];exact m,by rw[f,u];simp⟩
  rotate_left
  .have aa:j≠k:=fun q=>by have:=M q;omega
   rw[if_neg aa,_t]at f;exact .inr (.inr ⟨by rw[<-a8];exact m,by rw[<-g];exact u,Y,Z,by rw[<-a8];exact z,by rw[f];exact C⟩)
  refine .inr (.inl ⟨by rw[<-a8];exact m,O,t,Q,(by rw[<-g];exact U),by rw[<-a8];exact u,?_,fun x c=>?_,fun i x Cz d c ab=>?_⟩)
  .rw[f,<-g];exact _z (Nat.mul_le_mul_right _ kF) z
  .rw[f]at c;rw[<-g];exact C x (List.mem_of_mem_take c)
  rw[f,_p]at c;have ac:b.xs[i]?=some x:=by
   revert c;generalize (if j=k then v else b.xs.length)=q;intro c;by_cases G:i<q
   .rw[if_pos G]at c;exact c
   rw[if_neg G]at c;cases c
  rw[<-g];exact X i x Cz d ac ab
 .exact PN
 .exact Zu
 exact QD
theorem UI{st:bb}{o:aR}(k c:Nat)(f:aB st.H k=some o)(g:0<o.sz:=by first|exact Hs|omega):fP st ⟨st.tm,cl st.H k (some ⟨o.n,o.sz,cp o.xs c⟩),st.gen⟩:=by
 intro Γ N K a w b;refine⟨K,?_,b.fresh,b.g0,b.size,b.defers,b.tm⟩;have:=ai7 b.inv f c g;have e:aB (cl st.H k (some ⟨o.n,o.sz,cp o.xs c⟩))=fun j=>if j=k then some ⟨o.n,o.sz,o.xs.take c⟩else aB st.H j:=by
  funext j;rw[lS,hh]
 show Inv Γ K (aB (cl st.H k _)) w;rw[e];exact this
theorem abj{K:aO}{w:World}{k n sz len:Nat}{v:Value}(h:aJ K w (.eA k n sz len) v):aJ K w (.aG k n sz 0 len false) v:=by
 cases h with
 |eA b c h=>
  obtain⟨f,t,ax,h1,h2⟩:=h;refine .aG b (fun h=>ha) (.inr ⟨c,by rw[Nat.zero_mul],f,t,ax,h1,by rw[_l,h2];exact hT,fun _=>by rw[_l,h2]⟩)
theorem o9{K:aO}{w:World}{k j n sz f len:Nat}{g:Bool}{v:Value}(h:aJ K w (.aG k n sz f len g) v):aJ K w (.aG j n sz f len g) v:=by
 cases h with
 |aG a b c=>exact .aG a b c
theorem j2{α:Type}{f:α->List O}(h:∀x,l7 (f x)=true):∀(l:List α),eW (l.map f)=true
 |[]=>rfl
 |x::r=>by
  have:=j2 h r;simp only[_v,eW,h x,jI,this]
theorem IA{P:Program}{f:FuncId}{g:List O}{j:aV}{D D':Nat->O}{L:Nat->aV}(h:ml P f g j (fun n d H=>d=D n/\H=L n))(ec:∀K w n v,aJ K w (D n) v->aJ K w (D' n) v):ml P f g j (fun n d H=>d=D' n/\H=L n):=by
 refine⟨h.1,fun K w m g0 a b c=>(h.2 K w m g0 a b c).mono ?_⟩;rintro e M ⟨v,q,u⟩;refine⟨v,q,fun n x=>?_⟩;obtain⟨z,d,Q,⟨rfl,rfl⟩,C,G,I,J⟩:=u n x;exact⟨z,D' n,L n,⟨rfl,rfl⟩,C,G,I,ec _ _ _ _ J⟩
theorem xp{P:Program}{f:FuncId}{g:List O}{j:aV}{D D':O}{L:aV}(h:b1 P f g j (fun d H=>d=D/\H=L))(ec:∀K w v,aJ K w D v->aJ K w D' v):b1 P f g j (fun d H=>d=D'/\H=L):=by exact TD
theorem vg{P:Program}{f:FuncId}{j m:List O}{q:aV}{R:O->aV->Prop}(h:b1 P f m q R)(u:∀K w g,dS K w j g->dS K w m g):b1 P f j q R:=
 ⟨h.1,fun K w g g0 a b c=>h.2 K w g g0 a b (u _ _ _ c)⟩
theorem aie{K:aO}{w:World}{b c:List O}{f:Array Value}(h:dS K w b f)(hl:b.length=c.length)(m:∀(i:Nat)(d e:O),b[i]?=some d->c[i]?=some e->∀v,aJ K w d v->aJ K w e v):dS K w c f:=
 ⟨h.1.trans hl,fun i e v g q=>by
  have j:i<b.length:=by rw[hl];exact(_b.1 g).1
  exact m i b[i] e (_a j) g v (h.2 i _ v (_a j) q)⟩
theorem BM{K:aO}{w:World}{d e:O}{b:List O}{c:Array Value}(g:∀v,aJ K w d v->aJ K w e v)(h:dS K w (d::b) c):dS K w (e::b) c:=
 ⟨h.1,fun i x v aP f=>by
  cases i with
  |zero=>simp at aP;rw[<-aP];exact g v (h.2 0 d v rfl f)
  |succ i=>exact h.2 (i+1) x v xZ f⟩
theorem re{K:aO}{w:World}{k c n sz i j:Nat}{v:Value}(h:aJ K w (.ptr k n sz i j) v):aJ K w (.ptr c n sz i j) v:=by
 cases h with
 |ptr a b=>exact .ptr a b
theorem jw{P:Program}{f:FuncId}{n sz b len:Nat}{c:Bool}{g:List O}{j:aV}{R:O->aV->Prop}(k:Nat)(h:b1 P f (.aG 0 n sz b len c::g) j R):b1 P f (.aG k n sz b len c::g) j R:=
 vg h (fun K w q m=>BM (fun v=>o9) m)
theorem dN{P:Program}{f:FuncId}{n sz i j:Nat}{b:List O}{c:aV}{R:O->aV->Prop}(k:Nat)(h:b1 P f (.ptr 0 n sz i j::b) c R):b1 P f (.ptr k n sz i j::b) c R:=
 vg h (fun K w m g=>BM (fun v=>re) g)
theorem aeU{P:Program}{f:FuncId}{g:List O}{D D':O}(h:Spec P f g D)(ec:∀K w v,aJ K w D v->aJ K w D' v):Spec P f g D':=by exact TD
mutual
def hy:O->O->Prop
 |.agg b,e=>match e with
  |.agg c=>qD b c
  |_=>False
 |.aS b,e=>match e with
  |.aS c=>qD b c
  |_=>False
 |.v x,e=>e=.v x\/(x=.slice none 0 0/\∃sz,e=.snap sz [] false)
 |d,e=>e=d
def qD:List O->List O->Prop
 |[],l=>l=[]
 |d::r,l=>match l with
  |e::s=>hy d e/\qD r s
  |[]=>False
end
theorem Jw:∀ {c f:List O},qD c f->c.length=f.length/\∀(i:Nat)(d e:O),c[i]?=some d->f[i]?=some e->hy d e
 |[],l,h=>by
  simp only[qD]at h;exact uB
 |d::r,[],h=>by simp[qD]at h
 |d::r,e::s,h=>by
  simp only[qD]at h;obtain⟨h1,h2⟩:=Jw h.2;exact uE
theorem Ix{K:aO}{w:World}{d:O}{v:Value}(h:aJ K w d v):∀e,hy d e->aJ K w e v:=by
 induction h with
 |any x=>intro e g;simp only[hy]at g;rw[g];exact .any x
 |dY b=>intro e g;simp only[hy]at g;rw[g];exact .dY b
 |e7 t x=>intro e g;simp only[hy]at g;rw[g];exact .e7 t x
 |v x=>
  intro e g;simp only[hy]at g;rcases g with rfl|⟨rfl,sz,rfl⟩
  .exact .v x
  exact .snap (fun _ _=>undef) rfl (_o _) (fun h=>ha) (fun x aP=>k4) (fun h=>G) (fun ad i x j d _ aP _=>k4) (fun i x j d aP=>k4)
 |@agg ho C hl h js=>
  intro e g;cases e with
  |agg I=>
   simp only[hy]at g;obtain⟨h1,h2⟩:=Jw g;exact y7
  |_=>simp[hy]at g
 |@aS ho C hl h js=>
  intro e g;cases e with
  |aS I=>
   simp only[hy]at g;obtain⟨h1,h2⟩:=Jw g;exact Bb
  |_=>simp[hy]at g
 |ptr q J=>intro e g;simp only[hy]at g;rw[g];exact .ptr q J
 |mp q=>intro e g;simp only[hy]at g;rw[g];exact .mp q
 |ch q bn=>intro e g;simp only[hy]at g;rw[g];exact .ch q bn
 |eZ h1 h2=>intro e g;simp only[hy]at g;rw[g];exact .eZ h1 h2
 |gA q h=>intro e g;simp only[hy]at g;rw[g];exact .gA q h
 |bY f h1 h2 m u z=>intro e g;simp only[hy]at g;rw[g];exact .bY f h1 h2 m u z
 |aG h1 h2 m=>intro e g;simp only[hy]at g;rw[g];exact .aG h1 h2 m
 |eA h1 h2 m=>intro e g;simp only[hy]at g;rw[g];exact .eA h1 h2 m
 |snap f h1 h2 m u z M Q=>intro e g;simp only[hy]at g;rw[g];exact .snap f h1 h2 m u z M Q
 |fn h1 h2 m u=>intro e g;simp only[hy]at g;rw[g];exact .fn h1 h2 m u
theorem nh{P:Program}{f:FuncId}{b:List O}{D D':O}(h:Spec P f b D)(ec:hy D D'):Spec P f b D':=aeU h (fun K w v c=>Ix c D' ec)
theorem ach{st:bb}(s:bK){k n sz len:Nat}(aj:st.tm.get s=.eA k n sz len):fP st ⟨st.tm.set s (.aG k n sz 0 len false),st.H,st.gen⟩:=by
 intro Γ N K a w b;refine⟨K,b.inv,b.fresh,b.g0,b.size,b.defers,fun q=>?_⟩;show aJ K w ((st.tm.set s _).get q) _;rw[bQ.iP];by_cases e:q=s
 .rw[if_pos e,e];have:=b.tm s;rw[aj]at this;exact abj this
 rw[if_neg e];exact b.tm q
theorem afu{Γ:bw}{st:bb}{m:aV}(x:∀g,Γ.W0 g->∃k o,aB m k=some o/\Γ.K0.real o.n/\Γ.K0.aD o.n=g)(s:bK){k n sz i j:Nat}{o:aR}(aj:st.tm.get s=.ptr k n sz i j)(bX:aB st.H k=some o)(hid:o.n=n/\o.sz=sz/\i<o.xs.length)
 (a6:∀q p,aB m q=some p->∃b f,b≠k/\aB st.H b=some f/\f.n=p.n):lh Γ st ⟨st.tm.set s (.bY (fT (cf o.xs i) j)),cl st.H k none,st.gen⟩:=by
 intro N K a w e2;by_cases an:Γ.W0 (K.aD o.n)/\K.real o.n
 .exfalso;obtain⟨q,p,h1,h2,u⟩:=x _ an.1;obtain⟨b,f,z,C,I⟩:=a6 q p h1;have bq:=e2.inv.base.keep _ h2;rw[<-I]at bq u;exact z (e2.inv.inj b k f o C bX bq.1 an.2 (bq.2.trans u))
 let U:bw:={Γ with W0:=fun g=>Γ.W0 g/\g≠K.aD o.n}
 have aI:=e2.inv;obtain⟨fc,ic,yA⟩:=hid;have eX:=e2.tm s;rw[aj]at eX;have Ad:Inv Γ K (aB (cl st.H k none)) w:=wP aI (fun j p a6=>by
  exact G_)
 have J:¬rb K w o:=fun bg=>by exact VL
 rcases(aI.obj k o bX).two J with⟨bp,Q⟩|⟨bp,eC,u6,oD,X,e8,Y,Z,oQ⟩
 .rw[Q]at yA;simp at yA
 let cH:aO:=⟨K.bG,K.real,K.aD,fun g=>K.M g/\g≠K.aD o.n⟩
 have bg:dH K w cH w:=⟨cN.refl _ _,fun aa h=>⟨h,rfl⟩,fun g _ h=>h.1⟩;have ab:Γ.w0.heap.size<=K.aD o.n:=((aI.own k o bX bp).2).resolve_right (fun h=>an ⟨h,bp⟩);exact Pl
theorem ab9{Γ:bw}{st:bb}{c f:Nat}{m u:List (List O)}(v:∀g,Γ.W0 g->∃k o,aB [some (⟨c,f,m⟩:aR)] k=some o/\Γ.K0.real o.n/\Γ.K0.aD o.n=g)(s:bK){k n sz i j:Nat}{o:aR}(aj:st.tm.get s=.ptr (k+1) n sz i j)(x:aB st.H (k+1)=some o)(hid:o.n=n/\o.sz=sz/\i<o.xs.length)
 (z:aB st.H 0=some ⟨c,f,u⟩):lh Γ st ⟨st.tm.set s (.bY (fT (cf o.xs i) j)),cl st.H (k+1) none,st.gen⟩:=
 afu v s aj x hid (fun q p b=>by
  cases q with
  |zero=>
   simp only[aB,_n]at b;subst b;exact⟨0,_,G,z,rfl⟩
  |succ q=>simp[aB]at b)
mutual
def gE (o:aR):O->O->Prop
 |.agg b,e=>match e with
  |.agg c=>nk o b c
  |_=>False
 |.aS b,e=>match e with
  |.aS c=>nk o b c
  |_=>False
 |.aG k n sz f len g,e=>(o.n=n/\o.sz=sz/\f+len<=o.xs.length/\e=.snap sz (cp (cC o.xs f) len) false)\/e=.aG k n sz f len g
 |.ptr k n sz i j,e=>(o.n=n/\o.sz=sz/\i<o.xs.length/\e=.bY (fT (cf o.xs i) j))\/e=.ptr k n sz i j
 |d,e=>e=d
def nk (o:aR):List O->List O->Prop
 |[],l=>l=[]
 |d::r,l=>match l with
  |e::s=>gE o d e/\nk o r s
  |[]=>False
end
theorem Cd{o:aR}:∀ {c f:List O},nk o c f->c.length=f.length/\∀(i:Nat)(d e:O),c[i]?=some d->f[i]?=some e->gE o d e
 |[],l,h=>by
  simp only[nk]at h;exact uB
 |d::r,[],h=>by simp[nk]at h
 |d::r,e::s,h=>by
  simp only[nk]at h;obtain⟨h1,h2⟩:=Cd h.2;exact uE
def aO.off(K:aO)(n:Nat):aO:=⟨K.bG,K.real,K.aD,fun g=>K.M g/\¬(K.real n/\g=K.aD n)⟩
theorem Cw(K:aO)(w:World)(n:Nat):dH K w (K.off n) w:=⟨cN.refl _ _,fun b h=>⟨h,rfl⟩,fun g _ h=>h.1⟩
theorem EZ{K:aO}{w:World}{o:aR}(Q:mQ K w o)(aN:K.real o.n->K.aD o.n<w.heap.size){d:O}{v:Value}(h:aJ K w d v):∀e,gE o d e->aJ (K.off o.n) w e v:=by
 have bg:=Cw K w o.n;induction h with
 |any x=>intro e g;simp only[gE]at g;rw[g];exact .any x
 |dY b=>intro e g;simp only[gE]at g;rw[g];exact .dY b
 |e7 t x=>intro e g;simp only[gE]at g;rw[g];exact .e7 t x
 |v x=>intro e g;simp only[gE]at g;rw[g];exact .v x
 |@agg ho eC hl h js=>
  intro e g;cases e with
  |agg X=>
   simp only[gE]at g;obtain⟨h1,h2⟩:=Cd g;exact y7
  |_=>simp[gE]at g
 |@aS ho eC hl h js=>
  intro e g;cases e with
  |aS X=>
   simp only[gE]at g;obtain⟨h1,h2⟩:=Cd g;exact Bb
  |_=>simp[gE]at g
 |@ptr k n sz i j dm C=>
  intro e g;simp only[gE]at g;rcases g with⟨fc,ic,q,rfl⟩|rfl
  .rcases Q with⟨bp,I⟩|⟨bp,eC,u6,oD,Y,e8,Z,nd,oQ⟩|J
   .rw[I]at q;simp at q
   .have aP:o.xs[i]?=some (cf o.xs i):=by rw[lZ,_a q];rfl
    have U:∀(t:Nat)(d:O),(fT (cf o.xs i) j)[t]?=some d->∃c,eC[i*sz+j+t]?=some c/\aJ (K.off o.n) w d c:=fun t d u=>by
     rw[oc,_q]at u;obtain⟨c,ez,cR⟩:=oQ i _ (j+t) d aP u;rw[ic]at ez;exact⟨c,by rw[_w];exact ez,cR.mono bg⟩
    refine .bY (fun t=>(eC[i*sz+j+t]?).getD undef) rfl ?_ ?_ (fun t d u=>?_) (fun t d u=>?_)
    .exact HQ
    .exact ND
    .obtain⟨c,ez,_⟩:=U t d u;rw[addr_add,cell_of_row w _ _ eC u6 oD B3,ez];rfl
    obtain⟨c,ez,cR⟩:=U t d u;exact IE
   obtain⟨_,_,_,aa⟩:=C;exact J.out (by rw[fc];exact aa)
  exact(aJ.ptr dm C).mono bg
 |mp dm=>intro e g;simp only[gE]at g;rw[g];exact(aJ.mp dm).mono bg
 |ch dm bn=>intro e g;simp only[gE]at g;rw[g];exact(aJ.ch dm bn).mono bg
 |eZ h1 h2=>intro e g;simp only[gE]at g;rw[g];exact(aJ.eZ h1 h2).mono bg
 |gA dm h=>intro e g;simp only[gE]at g;rw[g];exact(aJ.gA dm h).mono bg
 |bY f h1 h2 m z M=>intro e g;simp only[gE]at g;rw[g];exact(aJ.bY f h1 h2 m z M).mono bg
 |eA h1 h2 m=>intro e g;simp only[gE]at g;rw[g];exact(aJ.eA h1 h2 m).mono bg
 |snap f h1 h2 m z M ab ac=>intro e g;simp only[gE]at g;rw[g];exact(aJ.snap f h1 h2 m z M ab ac).mono bg
 |fn h1 h2 m z=>intro e g;simp only[gE]at g;rw[g];exact(aJ.fn h1 h2 m z).mono bg
 |@aG k n sz jB len af A cap r_ ae h=>
  intro e g;simp only[gE]at g;rcases g with⟨fc,ic,q,rfl⟩|rfl
  .rw[hh,kH];have fa:((o.xs.drop jB).take len).length=len:=c7;have Ko:∀(i:Nat)(x:List O),((o.xs.drop jB).take len)[i]?=some x->i<len/\o.xs[jB+i]?=some x:=by exact NN
   rcases Q with⟨bp,I⟩|⟨bp,eC,u6,oD,Y,e8,Z,nd,oQ⟩|J;rotate_right
   .rcases h with h|⟨_,_,_,_,_,C,_⟩
    .have CN:len=0:=by omega
     exact Xa
    exact J.out (by rw[fc];exact C)
   .have CN:len=0:=by rw[I]at q;simp at q;omega
    exact Xa
   have JP:∀(i:Nat)(x:List O)(j:Nat)(d:O),((o.xs.drop jB).take len)[i]?=some x->x[j]?=some d->∃c,eC[(jB+i)*sz+j]?=some c/\aJ (K.off o.n) w d c:=by exact QY
   refine .snap (fun i j=>(eC[(jB+i)*sz+j]?).getD undef) fa r_ (fun h=>ha) (fun x aP=>?_) (fun ag=>?_) (fun ad i x j d b5 aP bf=>?_) (fun i x j d aP bf=>?_)
   .exact Wm
   .rcases h with h|⟨dm,b5,ue⟩
    .omega
    refine⟨_,b5,rfl,?_,?_⟩
    .exact HQ
    exact ND
   .exact aae
   exact QE
  exact(aJ.aG r_ ae h).mono bg
theorem Ox{Γ:bw}{st:bb}(s:bK){d e:O}(k:Nat){o:aR}(an:∀N K a w,ft Γ N st K a w->K.real o.n->¬Γ.W0 (K.aD o.n))(aj:st.tm.get s=d)(bX:aB st.H k=some o)(v:gE o d e):lh Γ st ⟨st.tm.set s e,cl st.H k none,st.gen⟩:=by
 intro N K a w e2;have aI:=e2.inv;have b:Inv Γ K (aB (cl st.H k none)) w:=wP aI (fun j p a6=>by
  exact G_)
 have f:=Cw K w o.n;have x:∀j p,aB (cl st.H k none) j=some p->j≠k/\aB st.H j=some p:=by exact Ji
 refine⟨K.off o.n,⟨b.ext,⟨aI.base.bG,aI.base.cn,aI.base.keep,fun g b8=>?_⟩,fun j p a6=>(b.obj j p a6).mono f id (fun _=>rfl),b.inj,aI.db,aI.lt,b.dz,fun j p a6 c=>?_,aI.ga⟩,e2.fresh,e2.g0,e2.size,e2.defers,fun q=>?_⟩
 .exact RX
 .obtain⟨z,m⟩:=x j p a6;have:=aI.own j p m c;exact⟨⟨this.1,fun e=>z (aI.inj j k p o m bX c e.1 e.2)⟩,this.2⟩
 show aJ (K.off o.n) w ((st.tm.set s _).get q) _;rw[bQ.iP];by_cases h:q=s
 .rw[if_pos h,h];have u:=e2.tm s;rw[aj]at u;exact EZ (aI.obj k o bX) (fun c=>aI.lt _ c) u e v
 rw[if_neg h];exact(e2.tm q).mono f
theorem FO{Γ:bw}{st:bb}(an:∀g,¬Γ.W0 g)(s:bK){d e:O}(k:Nat){o:aR}(aj:st.tm.get s=d)(b:aB st.H k=some o)(c:gE o d e):lh Γ st ⟨st.tm.set s e,cl st.H k none,st.gen⟩:=Ox s k (fun _ _ _ _ _ _=>an _) aj b c
def kN(o:aR):List (List O)->List (List O)->Prop
 |[],l=>l=[]
 |x::r,l=>match l with
  |y::s=>nk o x y/\kN o r s
  |[]=>False
theorem Sr{o:aR}:∀ {c f:List (List O)},kN o c f->c.length=f.length/\∀(i:Nat)(d e:List O),c[i]?=some d->f[i]?=some e->nk o d e
 |[],l,h=>by
  simp only[kN]at h;exact uB
 |d::r,[],h=>by simp[kN]at h
 |d::r,e::s,h=>by
  simp only[kN]at h;obtain⟨h1,h2⟩:=Sr h.2;exact uE
def HY(d:O):Prop:=d=.dY\/∃v,d=.v v
theorem TX{o:aR}:∀ {x y:List O},(∀d∈x,HY d)->nk o x y->y=x
 |[],y,_,h=>by simpa[nk]using h
 |d::x,[],_,h=>by simp[nk]at h
 |d::x,e::y,b,h=>by
  simp only[nk]at h;have h1:=h.1;rw[TX (fun d c=>b d (by simp[c])) h.2];congr 1
  rcases b d aF with rfl|⟨v,rfl⟩
  .simpa[gE]using h1
  simpa[gE]using h1
theorem aaj{o:aR}:∀ {xs ys:List (List O)},(∀x∈xs,∀d∈x,HY d)->kN o xs ys->ys=xs
 |[],ys,_,h=>by simpa[kN]using h
 |x::xs,[],_,h=>by simp[kN]at h
 |x::xs,y::ys,b,h=>by
  simp only[kN]at h;rw[aaj (fun x aP=>b x oT) h.2,TX (b x aF) h.1]
theorem al3{K:aO}{w:World}{o:aR}(h:rb K w o):∀x∈o.xs,∀d∈x,HY d:=by
 obtain⟨_,_,g,j,_,h|⟨m,s,r,h,hl⟩⟩:=h
 .intro x c d f;rw[h]at c;obtain⟨e,_,rfl⟩:=_x.1 c;simp[iu]at f;rcases f with rfl|rfl
  .exact yq
  exact yq
 intro x c d f;rw[h]at c;rcases _f.1 c with rfl|c
 .simp at f;rcases f with rfl|rfl|rfl
  .exact .inl rfl
  .exact yq
  exact yq
 obtain⟨a,b,rfl,_⟩:=hl.rows x c;simp at f;rcases f with rfl|rfl
 .exact yq
 exact yq
theorem agt{Γ:bw}{st:bb}(j k:Nat){o p:aR}{ys:List (List O)}(an:∀N K a w,ft Γ N st K a w->K.real o.n->¬Γ.W0 (K.aD o.n))(bX:aB st.H k=some o)(Y:aB st.H j=some p)(Z:kN o p.xs ys):lh Γ st ⟨st.tm,cl (cl st.H j (some ⟨p.n,p.sz,ys⟩)) k none,st.gen⟩:=by
 intro N K a w e2;have aI:=e2.inv;have aa:=Cw K w o.n;obtain⟨f1,f2⟩:=Sr Z;have U:∀q r,aB (cl (cl st.H j (some ⟨p.n,p.sz,ys⟩)) k none) q=some r->q≠k/\((q=j/\r=⟨p.n,p.sz,ys⟩)\/(q≠j/\aB st.H q=some r)):=by
  intro q r b;rw[lS]at b;by_cases e:q=k
  .rw[if_pos e]at b;cases b
  rw[if_neg e,lS]at b;refine⟨e,?_⟩;by_cases m:q=j
  .rw[if_pos m]at b;exact .inl ⟨m,(_h b).symm⟩
  rw[if_neg m]at b;exact .inr ⟨m,b⟩
 have z:∀q r,aB (cl (cl st.H j (some ⟨p.n,p.sz,ys⟩)) k none) q=some r->∃f,aB st.H q=some f/\f.n=r.n:=by
  intro q r b;rcases(U q r b).2 with⟨rfl,rfl⟩|⟨_,h⟩
  .exact⟨p,Y,rfl⟩
  exact⟨r,h,rfl⟩
 refine⟨K.off o.n,⟨aI.ext,⟨aI.base.bG,aI.base.cn,aI.base.keep,fun g b8=>?_⟩,fun q r b=>?_,fun ab ac aw aY h1 h2 ak al am=>?_,aI.db,aI.lt,fun q r b=>?_,fun q r b C=>?_,aI.ga⟩,e2.fresh,e2.g0,e2.size,e2.defers,fun q=>(e2.tm q).mono aa⟩
 .exact RX
 .rcases(U q r b).2 with⟨rfl,rfl⟩|⟨_,h⟩
  .rcases aI.obj _ p Y with⟨u,v⟩|⟨u,ao,t,ap,aq,v,G,I,ar⟩|⟨u,v,ae,af,G,I⟩
   .rw[v]at f1;exact .inl ⟨u,List.eq_nil_of_length_eq_zero f1.symm⟩
   rotate_left
   .have e:=aaj (al3 ⟨u,v,ae,af,G,I⟩) Z;exact .inr (.inr ⟨u,v,ae,af,G,by rw[e];exact I⟩)
   refine .inr (.inl ⟨u,ao,t,ap,aq,v,by rw[<-f1];exact G,fun y J=>?_,fun i y X d J ag=>?_⟩)
   .obtain⟨i,ah⟩:=List.mem_iff_getElem?.1 J;have Q:i<p.xs.length:=by rw[f1];exact(_b.1 ah).1
    have:=Cd (f2 i _ y (_a Q) ah);rw[<-this.1];exact I _ (_j Q)
   have Q:i<p.xs.length:=by rw[f1];exact(_b.1 J).1
   have ai:=_a Q;obtain⟨au,av⟩:=Cd (f2 i _ y ai J);have aj:X<(p.xs[i]).length:=by rw[au];exact(_b.1 ag).1
   obtain⟨c,ax,ay⟩:=ar i _ X _ ai (_a aj);exact⟨c,ax,EZ (aI.obj k o bX) (fun C=>aI.lt _ C) ay d (av X _ d (_a aj) ag)⟩
  exact(aI.obj q r h).mono aa id (fun _=>rfl)
 .obtain⟨az,x,bW⟩:=z ab aw h1;obtain⟨aA,m,dq⟩:=z ac aY h2;exact aI.inj ab ac az aA x m (by rw[bW];exact ak) (by rw[dq];exact al) (by rw[bW,dq];exact am)
 .obtain⟨f,x,bW⟩:=z q r b;have:=aI.dz q f x;rw[bW]at this;exact this
 obtain⟨f,x,bW⟩:=z q r b;have:=aI.own q f x (by rw[bW];exact C);rw[bW]at this;refine⟨⟨this.1,fun e=>?_⟩,this.2⟩;have aC:=(U q r b).1;exact aC (aI.inj q k f o x bX (by rw[bW];exact C) e.1 (by rw[bW];exact e.2))
theorem j_{Γ:bw}{st:bb}(an:∀g,¬Γ.W0 g)(j k:Nat)(m:j≠k){o p:aR}{ys:List (List O)}(b:aB st.H k=some o)(c:aB st.H j=some p)(f:kN o p.xs ys):lh Γ st ⟨st.tm,cl (cl st.H j (some ⟨p.n,p.sz,ys⟩)) k none,st.gen⟩:=
 agt j k (fun _ _ _ _ _ _=>an _) b c f
theorem af0{Γ:bw}{st:bb}{j:aV}(v:∀g,Γ.W0 g->∃k o,aB j k=some o/\Γ.K0.real o.n/\Γ.K0.aD o.n=g){k:Nat}{o:aR}(x:aB st.H k=some o)
 (z:∀q p,aB j q=some p->∃b c,b≠k/\aB st.H b=some c/\c.n=p.n):∀N K a w,ft Γ N st K a w->K.real o.n->¬Γ.W0 (K.aD o.n):=by
 intro N K a w m C an;obtain⟨q,p,h1,h2,u⟩:=v _ an;obtain⟨b,c,G,I,J⟩:=z q p h1;have f:=m.inv.base.keep _ h2;rw[<-J]at f u;exact G (m.inv.inj b k c o I x f.1 C (f.2.trans u))
theorem adP{Γ:bw}{K:aO}{H:Nat->Option aR}{w:World}(aI:Inv Γ K H w){k:Nat}{o:aR}(c:H k=some o){ys:List (List O)}(aT:mQ K w ⟨o.n,o.sz,ys⟩):Inv Γ K (fun j=>if j=k then some ⟨o.n,o.sz,ys⟩else H j) w:=by
 have bq:∀j p,(if j=k then some (⟨o.n,o.sz,ys⟩:aR)else H j)=some p->∃b,H j=some b/\b.n=p.n/\((j=k/\p=⟨o.n,o.sz,ys⟩)\/p=b):=by
  intro j p h;by_cases e:j=k
  .rw[if_pos e]at h;obtain rfl:=_h h;exact⟨o,by rw[e];exact c,rfl,.inl ⟨e,rfl⟩⟩
  rw[if_neg e]at h;exact⟨p,h,rfl,.inr rfl⟩
 refine⟨aI.ext,aI.base,fun j p h=>?_,fun Lw Cz lM lF h1 h2 aw aY bu=>?_,aI.db,aI.lt,fun j p h=>?_,fun j p h aT=>?_,aI.ga⟩
 .obtain⟨b,a_,_,⟨_,rfl⟩|rfl⟩:=bq j p h
  .exact aT
  exact aI.obj j _ a_
 .exact PN
 .exact Zu
 exact QD
theorem Vb{st:bb}(s:bK){sz:Nat}{xs:List (List O)}{c:Bool}(aj:st.tm.get s=.snap sz xs c):fP st ⟨st.tm.set s (.snap sz xs false),st.H,st.gen⟩:=by
 intro Γ N K a w b;refine⟨K,b.inv,b.fresh,b.g0,b.size,b.defers,fun q=>?_⟩;show aJ K w ((st.tm.set s _).get q) _;rw[bQ.iP];by_cases e:q=s
 .rw[if_pos e,e];have:=b.tm s;rw[aj]at this;generalize a.tmps.getD s.nat undef=v at this;cases this with
  |snap f h1 h2 x g j m u=>exact .snap f h1 h2 (fun q=>tG) g j m u
 rw[if_neg e];exact b.tm q
theorem j1{Γ:bw}{st b:bb}(h:fP st b):lh Γ st b:=fun N K a w c=>h Γ N K a w c
theorem alo{A B r s:List (List O)}{b:Nat}(h:A.length+B.length=b):cp (cp (A++(B++r)) b++s) b=A++B:=by
 have h2:(A++B).length=b:=hc;have h1:(A++B++r).take b=A++B:=_u h2;rw[hh,hh,<-List.append_assoc,h1];exact _u h2
theorem iT{Γ:bw}{c:List fy}{D:O}{st:bb}{n sz:Nat}{xs ys:List (List O)}(h1:hQ st c)(h2:dn Γ.g0 (hp (fB st c)))(g:hp (fB st c)=D)(b:aB st.H 0=some ⟨n,sz,xs⟩)(j:n<Γ.g0)(m:c1 Γ.g0 ys)(q:xs=ys):nq Γ c 1 (fun d H=>d=D/\H=[some ⟨n,sz,ys⟩]) st:=by
 subst q;have e:fC 1 st.H=[some ⟨n,sz,xs⟩]:=by
  cases f:st.H with
  |nil=>rw[f]at b;cases b
  |cons x r=>rw[f]at b;simp only[aB]at b;simp[fC,b]
 refine NF ⟨h1,h2,?_,g,e⟩;rw[e];exact⟨⟨j,m⟩,trivial⟩
theorem ua{Γ:bw}{b:List fy}{R:Nat->O->aV->Prop}{st:bb}(c:Nat){bW sz:Nat}{xs:List (List O)}(D:Nat->O)(h1:hQ st b)(f:aB st.H c=some ⟨bW,sz,xs⟩)(g:Γ.g0<=bW)(j:c1 Γ.g0 xs)(m:∀n,ij Γ.g0 bW n (hp (fB st b)) (D n))(q:∀n,R n (D n) [some ⟨n,sz,xs⟩]):sC Γ b 0 R st:=
 afs ⟨h1,trivial,c,bW,sz,xs,D,f,_B _,g,j,fun n=>⟨m n,q n⟩⟩
theorem KM{α:Type}{b:ef}{f:α->Value×Value}(h:∀x,cF b (f x).1=true):∀(l:List α),pP b (l.map (fun x=>[.v (f x).1,.v (f x).2]))=true
 |[]=>rfl
 |x::l=>by simp only[_v,pP,my];exact⟨h x,KM h l⟩
mutual
def sg:O->Bool
 |.v _=>true
 |.dY=>true
 |.e7=>true
 |.any=>true
 |.agg b=>CC b
 |.aS b=>CC b
 |_=>false
def CC:List O->Bool
 |[]=>true
 |d::r=>sg d&&CC r
end
theorem KE:∀ {l:List O},CC l=true->∀d∈l,sg d=true
 |[],_,d,h=>fE
 |x::r,h,d,b=>by
  simp only[CC,_d]at h;rcases _f.1 b with rfl|b
  .exact h.1
  exact KE h.2 d b
theorem WI{K q:aO}{w u:World}{d:O}{v:Value}(h:aJ K w d v):sg d=true->aJ q u d v:=by
 induction h with
 |any x=>intro _;exact .any x
 |dY b=>intro _;exact .dY b
 |e7 t x=>intro _;exact .e7 t x
 |v x=>intro _;exact .v x
 |agg hl h j=>
  intro f;simp only[sg]at f;exact .agg hl (fun i d c g m=>j i d c g m (KE f d (_c g)))
 |aS hl h j=>
  intro f;simp only[sg]at f;exact .aS hl (fun i d c g m=>j i d c g m (KE f d (_c g)))
 |ptr=>intro f;cases f
 |bY=>intro f;cases f
 |aG=>intro f;cases f
 |eA=>intro f;cases f
 |snap=>intro f;cases f
 |fn=>intro f;cases f
 |mp=>intro f;cases f
 |ch=>intro f;cases f
 |eZ=>intro f;cases f
 |gA=>intro f;cases f
theorem JM{Γ:bw}{K:aO}{j:Nat->Option aR}{w m:World}(b:Inv Γ K j w)(h:cN (fun _=>False) w m):Inv Γ K j m:=
 ⟨Iv b h,b.base,fun k o q=>(b.obj k o q).mono ⟨h.weaken (fun _ _ f=>f.elim),fun n c=>⟨c,rfl⟩,fun g _ u=>u⟩ (fun c=>c) (fun v=>h.keep _ (b.lt _ v) (fun f=>f)),b.inj,b.db,fun n c=>_r (b.lt n c) h.size,b.dz,b.own,b.ga⟩
theorem ait{P:Program}{f:FuncId}{sz len:Nat}{full:Bool}{xs:List (List O)}{u:List O}{D:O}(h:Spec P f (.snap sz xs false::u) D)(ec:sg D=true)(G:xs.length=len)(k n:Nat):
 b1 P f (.aG k n sz 0 len full::u) [some ⟨n,sz,xs⟩] (fun d H=>d=D/\H=[some ⟨n,sz,xs⟩]):=by
 refine⟨h.1,fun K w z g0 c I x=>?_⟩;have J:=c.obj 0 ⟨n,sz,xs⟩ rfl;have M:=Cw (K.cut w) w n;have Q:dS ((K.cut w).off n) w (.snap sz xs false::u) z:=by
  refine⟨x.1,fun i d v bf m=>?_⟩;cases i with
  |zero=>
   simp at bf;subst bf;exact EZ (o:=⟨n,sz,xs⟩) J (fun U=>c.lt _ U) (x.2 0 _ v rfl m) _ (Or.inl ⟨rfl,rfl,iS,by dsimp only;rw[e1 G.symm]⟩)
  |succ i=>exact(x.2 (i+1) d v vP m).mono M
 have X:Inv (cz ((K.cut w).off n) w g0 []) (((K.cut w).off n).cut w) (aB []) w:=
  ⟨cN.refl _ _,⟨fun j b=>.inl b,fun j b _=>b,fun j b=>⟨b,rfl⟩,fun g _=>Iff.rfl⟩,fun k o h=>mT,fun k ac o ae h=>mT,fun j b=>c.db j b,fun j b=>c.lt j b,fun k o h=>mT,fun k o h=>mT,fun g af C=>⟨fun⟨_,_,q,_⟩=>by simp[aB]at q,fun q=>(c.mC C).1 ⟨q.1.1.1,q.2⟩,(c.mC C).2⟩⟩
 refine(h.2 ((K.cut w).off n) w z g0 X I (s_ Q)).mono ?_;rintro e Y ⟨v,d,ag,rfl,⟨rfl,rfl⟩,Z,m⟩;have aa:cN (fun _=>False) w Y:=Z.ext.weaken (fun g _ ⟨k,o,ab,_⟩=>by simp[aB]at ab);exact⟨v,d,[some ⟨n,sz,xs⟩],rfl,⟨rfl,rfl⟩,JM c aa,WI m ec⟩
mutual
def hE (o:aR):O->O->Prop
 |.agg m,e=>match e with
  |.agg q=>kV o m q
  |_=>False
 |.aS m,e=>match e with
  |.aS q=>kV o m q
  |_=>False
 |.aG k n sz u len v,e=>(o.n=n/\o.sz=sz/\u+len<=o.xs.length/\e=.snap sz (cp (cC o.xs u) len) false)\/e=.aG k n sz u len v
 |.ptr k n sz i j,e=>(o.n=n/\o.sz=sz/\i<o.xs.length/\e=.bY (fT (cf o.xs i) j))\/e=.ptr k n sz i j
 |.fn f a b,e=>match e with
  |.fn g c d=>f=g/\kV o a c/\kV o b d
  |_=>False
 |d,e=>e=d
def kV (o:aR):List O->List O->Prop
 |[],l=>l=[]
 |d::r,l=>match l with
  |e::s=>hE o d e/\kV o r s
  |[]=>False
end
theorem vL{o:aR}:∀ {c f:List O},kV o c f->c.length=f.length/\∀(i:Nat)(d e:O),c[i]?=some d->f[i]?=some e->hE o d e
 |[],l,h=>by
  simp only[kV]at h;exact uB
 |d::r,[],h=>by simp[kV]at h
 |d::r,e::s,h=>by
  simp only[kV]at h;obtain⟨h1,h2⟩:=vL h.2;exact uE
theorem ahK{K:aO}{w:World}{o:aR}(X:mQ K w o)(aN:K.real o.n->K.aD o.n<w.heap.size){d:O}{v:Value}(h:aJ K w d v):∀e,hE o d e->aJ (K.off o.n) w e v:=by
 have q:=Cw K w o.n;induction h with
 |any x=>intro e m;simp only[hE]at m;rw[m];exact .any x
 |dY b=>intro e m;simp only[hE]at m;rw[m];exact .dY b
 |e7 t x=>intro e m;simp only[hE]at m;rw[m];exact .e7 t x
 |v x=>intro e m;simp only[hE]at m;rw[m];exact .v x
 |@agg ho G hl h js=>
  intro e m;cases e with
  |agg ab=>
   simp only[hE]at m;obtain⟨h1,h2⟩:=vL m;exact y7
  |_=>simp[hE]at m
 |@aS ho G hl h js=>
  intro e m;cases e with
  |aS ab=>
   simp only[hE]at m;obtain⟨h1,h2⟩:=vL m;exact Bb
  |_=>simp[hE]at m
 |@ptr k n sz i j u Y=>
  intro e m;simp only[hE]at m;rcases m with⟨fc,ac,J,rfl⟩|rfl
  .obtain⟨_,_,_,ae⟩:=Y;rcases X.two (fun af=>af.out (by rw[fc];exact ae))with⟨bp,M⟩|⟨bp,G,ag,ah,ap,e8,aq,ar,ai⟩
   .rw[M]at J;simp at J
   have z:o.xs[i]?=some (cf o.xs i):=by rw[lZ,_a J];rfl
   have bn:∀(t:Nat)(d:O),(fT (cf o.xs i) j)[t]?=some d->∃c,G[i*sz+(j+t)]?=some c/\aJ (K.off o.n) w d c:=by
    intro t d bf;rw[oc,_q]at bf;obtain⟨c,ez,cR⟩:=ai i (cf o.xs i) (j+t) d z bf;rw[ac]at ez;exact⟨c,ez,cR.mono q⟩
   refine .bY (fun t=>(G[i*sz+(j+t)]?).getD undef) rfl ?_ ?_ (fun t d bf=>?_) (fun t d bf=>?_)
   .exact HQ
   .exact ND
   .obtain⟨c,ez,_⟩:=bn t d bf;rw[addr_add,cell_of_row w _ _ G ag ah B3,_w,ez];rfl
   obtain⟨c,ez,cR⟩:=bn t d bf;exact IE
  exact(aJ.ptr u Y).mono q
 |mp u=>intro e m;simp only[hE]at m;rw[m];exact(aJ.mp u).mono q
 |ch u bn=>intro e m;simp only[hE]at m;rw[m];exact(aJ.ch u bn).mono q
 |eZ h1 h2=>intro e m;simp only[hE]at m;rw[m];exact(aJ.eZ h1 h2).mono q
 |gA u h=>intro e m;simp only[hE]at m;rw[m];exact(aJ.gA u h).mono q
 |bY f h1 h2 C I Q=>intro e m;simp only[hE]at m;rw[m];exact(aJ.bY f h1 h2 C I Q).mono q
 |eA h1 h2 C=>intro e m;simp only[hE]at m;rw[m];exact(aJ.eA h1 h2 C).mono q
 |snap f h1 h2 C I Q aj ak=>intro e m;simp only[hE]at m;rw[m];exact(aJ.snap f h1 h2 C I Q aj ak).mono q
 |@fn f a b au av h1 h2 C I al am=>
  intro e m;cases e with
  |fn g c d=>
   simp only[hE]at m;obtain⟨rfl,bp,M⟩:=m;obtain⟨Z,ez⟩:=vL bp;obtain⟨aa,cR⟩:=vL M;refine .fn (h1.trans Z) (h2.trans aa) (fun i x y z U=>?_) (fun i x y z U=>?_)
   .have bF:i<a.length:=by rw[Z];exact(_b.1 z).1
    exact al i a[i] y (_a bF) U x (ez i _ _ (_a bF) z)
   have bF:i<b.length:=by rw[aa];exact(_b.1 z).1
   exact am i b[i] y (_a bF) U x (cR i _ _ (_a bF) z)
  |_=>simp[hE]at m
 |@aG k n sz aw len ax A cap an ao h=>
  intro e m;simp only[hE]at m;exact EZ X aN (.aG an ao h) e m
mutual
def sl:O->Bool
 |.v _=>true
 |.dY=>true
 |.e7=>true
 |.any=>true
 |.ptr ..=>true
 |.aG ..=>true
 |.eA ..=>true
 |.mp ..=>true
 |.ch ..=>true
 |.eZ ..=>true
 |.gA ..=>true
 |.agg b=>zt b
 |.aS b=>zt b
 |_=>false
def zt:List O->Bool
 |[]=>true
 |d::r=>sl d&&zt r
end
theorem MZ:∀ {l:List O},zt l=true->∀d∈l,sl d=true
 |[],_,d,h=>fE
 |x::r,h,d,b=>by
  simp only[zt,_d]at h;rcases _f.1 b with rfl|b
  .exact h.1
  exact MZ h.2 d b
theorem UX{K q:aO}{w:World}(aT:∀n,K.real n->q.real n/\q.aD n=K.aD n){d:O}{v:Value}(h:aJ K w d v):sl d=true->aJ q w d v:=by
 induction h with
 |any x=>intro _;exact .any x
 |dY b=>intro _;exact .dY b
 |e7 t x=>intro _;exact .e7 t x
 |v x=>intro _;exact .v x
 |agg hl h u=>
  intro f;simp only[sl]at f;exact .agg hl (fun i d c g bn=>u i d c g bn (MZ f d (_c g)))
 |aS hl h u=>
  intro f;simp only[sl]at f;exact .aS hl (fun i d c g bn=>u i d c g bn (MZ f d (_c g)))
 |@ptr k n sz i j dm bn=>
  intro _;have:=aT n dm;rw[<-this.2];exact .ptr this.1 Km
 |bY=>intro f;cases f
 |@aG k n sz C len G A cap m z h=>
  intro _;refine .aG m z ?_;exact aaV
 |@eA k n sz len cap m dm h=>
  intro _;have:=aT n dm;rw[<-this.2];exact .eA m this.1 Dc
 |snap=>intro f;cases f
 |fn=>intro f;cases f
 |@mp k n dm=>
  intro _;have:=aT n dm;exact HT
 |@eZ k n len T A cap m h=>
  intro _;refine .eZ m ?_;exact aaV
 |@ch n sz T dm bn=>
  intro _;have:=aT n dm;rw[<-this.2];exact .ch this.1 Km
 |@gA n i I dm h=>
  intro _;have:=aT n dm;exact .gA this.1 Dc
theorem pA{b:aR}:∀ {l:aV} {i:Nat} {o:aR},aB l i=some o->aB (l++[some b]) i=some o
 |[],i,o,h=>ha
 |x::r,0,o,h=>h
 |x::r,i+1,o,h=>pA (l:=r) h
theorem Rs{b:aR}:∀(l:aV),aB (l++[some b]) l.length=some b
 |[]=>rfl
 |x::r=>Rs r
theorem abO{P:Program}{f:FuncId}{ae ag:List O}{D:O}{C af:aV}{o:aR}(h:b1 P f ag C (fun d H=>d=D/\H=af))(hl:af.length=C.length)(aJ:kV o ae ag)(ec:sl D=true)(aK:∀k p,aB af k=some p->∀x∈p.xs,∀d∈x,sl d=true):
 b1 P f ae (C++[some o]) (fun d H=>d=D/\H=af++[some o]):=by
 refine⟨h.1,fun K w av g0 m aL ax=>?_⟩;have aa:aB (C++[some o]) C.length=some o:=Rs C;have ay:∀k p,aB C k=some p->k≠C.length:=fun k p b e=>by
  have:∀(l:aV)(i:Nat)(q:aR),aB l i=some q->i<l.length:=by exact Ol
  have:=this C k p b;omega
 have az:=m.obj _ o aa;let M:aO:=K.off o.n
 have aM:dH (K.cut w) w (M.cut w) w:=⟨cN.refl _ _,fun n Y=>⟨Y,rfl⟩,fun g _ G=>⟨G.1.1,G.2⟩⟩;have aN:dH ((K.cut w).off o.n) w (M.cut w) w:=⟨cN.refl _ _,fun n Y=>⟨Y,rfl⟩,fun g _ G=>⟨⟨G.1.1,G.2⟩,G.1.2⟩⟩;have aP:dS (M.cut w) w ag av:=by
  obtain⟨f1,f2⟩:=vL aJ;refine⟨ax.1.trans f1,fun i d v bf aj=>?_⟩;have aA:i<ae.length:=Ky;exact(ahK az (fun u=>m.lt _ u) (ax.2 i ae[i] v (_a aA) aj) d (f2 i _ _ (_a aA) bf)).mono aN
 have aQ:Inv (cz M w g0 C) (M.cut w) (aB C) w:=
  ⟨cN.refl _ _,⟨fun I z=>.inl z,fun I z _=>z,fun I z=>⟨z,rfl⟩,fun g _=>Iff.rfl⟩,fun k p b=>(m.obj k p (pA b)).mono aM id (fun _=>rfl),
   fun k aS p aT h1 h2 aw aY J=>m.inj k aS p aT (pA h1) (pA h2) aw aY J,fun I z=>m.db I z,fun I z=>m.lt I z,fun k p b=>m.dz k p (pA b),
   fun k p b u=>⟨⟨⟨(m.own k p (pA b) u).1.1,fun q=>ay k p b (m.inj k C.length p o (pA b) aa u q.1 q.2)⟩,m.lt _ u⟩,.inr ⟨k,p,b,u,rfl⟩⟩,fun g aC G=>⟨fun⟨k,p,Q,U,ab⟩=>(m.mC G).1 (ab▸(m.own k p (pA Q) U).1),fun q=>(m.mC G).1 ⟨q.1.1,q.2⟩,(m.mC G).2⟩⟩
 refine(h.2 M w av g0 aQ aL aP).mono ?_;rintro e aU ⟨v,d,Z,rfl,⟨rfl,rfl⟩,X,aj⟩;have aE:∀g,(cz M w g0 C).W0 g->(cz K w g0 (C++[some o])).W0 g:=fun g ⟨k,p,b,u,J⟩=>⟨k,p,pA b,u,J⟩
 have aF:K.real o.n->¬(cz M w g0 C).W0 (K.aD o.n):=fun ak ⟨k,p,b,u,J⟩=>ay k p b (m.inj k C.length p o (pA b) aa u ak J)
 have z:dH (K.cut w) w (K.cut w) aU:=⟨X.ext.weaken (fun g G ⟨k,p,b,u,J⟩=>by
  have:=(m.own k p (pA b) u).1;rw[<-J];exact this),fun n Y=>⟨Y,rfl⟩,fun g _ G=>G⟩
 have aG:∀n,(M.cut w).real n->(K.cut w).real n/\(K.cut w).aD n=(M.cut w).aD n:=fun n Y=>⟨Y,rfl⟩
 have ac:∀k p,aB (Z++[some o]) k=some p->(k<Z.length/\aB Z k=some p)\/(k=C.length/\p=o):=fun k p b=>by
  rcases HI o Z k p b with q|⟨Q,U⟩
  .exact .inl q
  exact .inr ⟨by rw[Q,hl],U⟩
 have aH:∀k p,k<Z.length->aB Z k=some p->K.real p.n->K.real o.n->K.aD p.n≠K.aD o.n:=fun k p aW b u ak J=>by
  rcases(X.own k p b u).2 with q|q
  .have:=m.lt _ u;have al:w.heap.size<=K.aD p.n:=q;have a5:K.aD p.n<w.heap.size:=this;omega
  have al:(cz M w g0 C).W0 (K.aD p.n):=q;rw[J]at al;exact aF ak al
 refine⟨v,d,Z++[some o],rfl,⟨rfl,rfl⟩,⟨X.ext.weaken (fun g _ G=>aE g G),⟨fun I z=>.inl z,fun I z _=>z,fun I z=>⟨z,rfl⟩,fun g _=>Iff.rfl⟩,fun k p b=>?_,fun am an ao ap h1 h2 aw aY J=>?_,fun I z=>m.db I z,fun I z=>_r (m.lt I z) X.ext.size,fun k p b=>?_,fun k p b u=>?_,m.ga⟩,UX aG aj ec⟩
 .rcases ac k p b with⟨aW,b⟩|⟨rfl,rfl⟩
  .rcases X.obj k p b with⟨Q,U⟩|⟨Q,aC,t,aX,aZ,U,ab,aq,a0⟩|⟨Q,U,a1,a2,ab,aq⟩
   .exact .inl ⟨Q,U⟩
   .refine .inr (.inl ⟨Q,aC,t,aX,aZ,U,ab,aq,fun i x j d aI bf=>?_⟩);obtain⟨c,a3,a4⟩:=a0 i x j d aI bf;exact⟨c,a3,UX aG a4 (aK k p b x (_c aI) d (_c bf))⟩
   exact .inr (.inr ⟨Q,U,a1,a2,ab,aq⟩)
  exact az.mono z id (fun u=>X.ext.keep _ (m.lt _ u) (aF u))
 .rcases ac am ao h1 with⟨ar,ah⟩|⟨ar,rfl⟩<;>rcases ac an ap h2 with⟨au,ai⟩|⟨au,rfl⟩
  .exact X.inj am an ao ap ah ai aw aY J
  .exact absurd J (aH am ao ar ah aw aY)
  .exact absurd J.symm (aH an ap au ai aY aw)
  rw[ar,au]
 .rcases ac k p b with⟨_,b⟩|⟨rfl,rfl⟩
  .exact X.dz k p b
  exact m.dz _ _ aa
 rcases ac k p b with⟨_,b⟩|⟨rfl,rfl⟩
 .have:=X.own k p b u;refine⟨⟨this.1.1.1,this.1.2⟩,this.2.elim .inl (fun q=>.inr (aE _ q))⟩
 exact⟨(m.own _ _ aa u).1,.inr ⟨_,_,aa,u,rfl⟩⟩
section
variable {P:Program} {F:List cP->bb->List e6->Prop} {r:List cP} {st:bb} {dst:Option bK} {tr:List e6}
theorem gC{f:FuncId}{b c:List O}{D:O}{o:aR}(j:Nat)(g:aB st.H j=some o)(h1:Spec P f c D)(m:kV o b c)(ec:sl D=true)(h2:F r ⟨hg st.tm dst D,d_ st.H [(j,some o)],st.gen⟩ (⟨[j],[j]⟩::tr)):bc P F r st dst tr (.call f b):=
 bE j g (abO h1 rfl m ec (fun k p q=>by simp[aB]at q)) (fun _ _ _ h=>h) h2
theorem Ax{f:FuncId}{q:List O}{D D':O}{o p g m:Option aR}(j k:Nat)(u:j≠k)(x:aB st.H j=o)(z:aB st.H k=p)(h1:b1 P f q [o,p] (fun d H=>d=D/\H=[g,m]))(ec:∀K w v,aJ K w D v->aJ K w D' v)(h2:F r ⟨hg st.tm dst D',d_ st.H [(j,g),(k,m)],st.gen⟩ (⟨[j,k],[j,k]⟩::tr)):bc P F r st dst tr (.call f q):=by
 refine .inl ⟨[j,k],q,D',[g,m],fun _ _ _ h=>h,by simp[u],rfl,⟨h1.1,fun K w C g0 a b c=>?_⟩,h2⟩;have e:fF st.H [j,k]=[o,p]:=by rw[<-x,<-z];rfl
 rw[e]at a⊢;refine(h1.2 K w C g0 a b c).mono ?_;rintro e M ⟨v,d,Q,G,⟨rfl,rfl⟩,I,J⟩;exact⟨v,D',[g,m],G,⟨rfl,rfl⟩,I,ec _ _ _ J⟩
end
def ny(g:Nat)(c:List Nat)(n a b:Nat):Prop:=(∃i,c[i]?=some a/\b=n+i)\/(a<g/\b=a)
mutual
def fo (g:Nat) (c:List Nat) (n:Nat):O->O->Prop
 |.agg q,e=>match e with
  |.agg u=>jX g c n q u
  |_=>False
 |.aS q,e=>match e with
  |.aS u=>jX g c n q u
  |_=>False
 |.aG k f sz v len x,e=>∃m b,ny g c n f b/\e=.aG m b sz v len x
 |.eA k f sz len,e=>∃m b,ny g c n f b/\e=.eA m b sz len
 |.ptr k f sz i j,e=>∃m b,ny g c n f b/\e=.ptr m b sz i j
 |.mp k f,e=>∃m b,ny g c n f b/\e=.mp m b
 |.ch f sz T,e=>∃b,ny g c n f b/\e=.ch b sz T
 |.eZ k f len T,e=>∃m b,ny g c n f b/\e=.eZ m b len T
 |d,e=>e=d/\dn g d
def jX (g:Nat) (c:List Nat) (n:Nat):List O->List O->Prop
 |[],l=>l=[]
 |d::r,l=>match l with
  |e::s=>fo g c n d e/\jX g c n r s
  |[]=>False
end
def ov(g:Nat)(b:List Nat)(n:Nat):List (List O)->List (List O)->Prop
 |[],l=>l=[]
 |x::r,l=>match l with
  |y::s=>jX g b n x y/\ov g b n r s
  |[]=>False
def qe(g:Nat)(b:List Nat)(n:Nat):aV->aV->Prop
 |[],l=>l=[]
 |none::r,l=>match l with
  |none::s=>qe g b n r s
  |_=>False
 |some o::r,l=>match l with
  |some p::s=>(ny g b n o.n p.n/\p.sz=o.sz/\ov g b n o.xs p.xs)/\qe g b n r s
  |_=>False
theorem wg{g n:Nat}{j:List Nat}:∀ {c f:List O},jX g j n c f->c.length=f.length/\∀(i:Nat)(d e:O),c[i]?=some d->f[i]?=some e->fo g j n d e
 |[],l,h=>by
  simp only[jX]at h;exact uB
 |d::r,[],h=>by simp[jX]at h
 |d::r,e::s,h=>by
  simp only[jX]at h;obtain⟨h1,h2⟩:=wg h.2;exact uE
theorem HH{g n:Nat}{c:List Nat}:∀ {xs ys:List (List O)},ov g c n xs ys->xs.length=ys.length/\∀(i:Nat)(x y:List O),xs[i]?=some x->ys[i]?=some y->jX g c n x y
 |[],l,h=>by
  simp only[ov]at h;exact uB
 |d::r,[],h=>by simp[ov]at h
 |d::r,e::s,h=>by
  simp only[ov]at h;obtain⟨h1,h2⟩:=HH h.2;exact uE
theorem Lz{g n:Nat}{c:List Nat}:∀ {H L:aV},qe g c n H L->∀(i:Nat)(p:aR),aB L i=some p->∃o,aB H i=some o/\H[i]?=some (some o)/\ny g c n o.n p.n/\p.sz=o.sz/\ov g c n o.xs p.xs
 |[],l,h,i,p,b=>by
  simp only[qe]at h;subst h;simp[aB]at b
 |none::r,[],h,i,p,b=>by simp[aB]at b
 |none::r,some q::s,h,i,p,b=>by simp[qe]at h
 |none::r,none::s,h,i,p,b=>by
  simp only[qe]at h;cases i with
  |zero=>simp[aB]at b
  |succ i=>
   simp only[aB]at b⊢;exact Lz h i p b
 |some o::r,[],h,i,p,b=>by simp[aB]at b
 |some o::r,none::s,h,i,p,b=>by simp[qe]at h
 |some o::r,some q::s,h,i,p,b=>by
  simp only[qe]at h;cases i with
  |zero=>
   simp only[aB,_n]at b⊢;subst b;exact⟨o,rfl,rfl,h.1.1,h.1.2.1,h.1.2.2⟩
  |succ i=>
   simp only[aB]at b⊢;exact Lz h.2 i p b
mutual
theorem afb {g n:Nat} {m:List Nat}:∀(d:O),dn g d->fo g m n d d
 |.any,h=>sf
 |.dY,h=>sf
 |.e7,h=>sf
 |.v x,h=>sf
 |.agg eC,h=>YV
 |.aS eC,h=>YV
 |.ptr k aq sz i j,h=>Cm
 |.bY x,h=>sf
 |.aG k aq sz q len u,h=>Cm
 |.eA k aq sz len,h=>Cm
 |.snap sz xs c,h=>sf
 |.fn f a b,h=>sf
 |.mp k aq,h=>Cm
 |.ch aq sz T,h=>by simp only[fo,dn]at h⊢;exact⟨aq,.inr ⟨h,rfl⟩,rfl⟩
 |.eZ k aq len T,h=>Cm
 |.gA aq z,h=>sf
theorem NC {g n:Nat} {m:List Nat}:∀(l:List O),eV g l->jX g m n l l
 |[],_=>by simp only[jX]
 |d::r,h=>by
  simp only[eV,jX]at h⊢
  exact⟨afb d h.1,NC r h.2⟩
end
theorem gK{g n:Nat}{b:List Nat}:∀(l:List (List O)),c1 g l->ov g b n l l
 |[],_=>by simp only[ov]
 |d::r,h=>by
  simp only[c1,ov]at h⊢;exact⟨NC d h.1,gK r h.2⟩
theorem XC{K K0:aO}{w:World}{g n:Nat}{I:List Nat}(Q:∀n,K.real n->n<g->K0.real n/\K0.aD n=K.aD n)(X:∀i a,I[i]?=some a->K.real a->K0.real (n+i)/\K0.aD (n+i)=K.aD a)(Y:∀b,b<w.heap.size->K0.M b->K.M b){d:O}{v:Value}(h:aJ K w d v):∀e,fo g I n d e->aJ K0 w e v:=by
 have cn:∀ {d v},aJ K w d v->dn g d->aJ K0 w d v:=fun h q=>zk Q Y h q
 have Ch:∀aq lG,ny g I n aq lG->K.real aq->K0.real lG/\K0.aD lG=K.aD aq:=fun aq lG h U=>by
  rcases h with⟨i,h1,rfl⟩|⟨h1,rfl⟩
  .exact X i aq h1 U
  exact Q _ U h1
 induction h with
 |any x=>intro e m;simp only[fo]at m;obtain⟨rfl,_⟩:=m;exact .any x
 |dY b=>intro e m;simp only[fo]at m;obtain⟨rfl,_⟩:=m;exact .dY b
 |e7 t x=>intro e m;simp only[fo]at m;obtain⟨rfl,_⟩:=m;exact .e7 t x
 |v x=>intro e m;simp only[fo]at m;obtain⟨rfl,_⟩:=m;exact .v x
 |@agg ho Z hl h js=>
  intro e m;cases e with
  |agg aa=>
   simp only[fo]at m;obtain⟨h1,h2⟩:=wg m;exact y7
  |_=>simp[fo]at m
 |@aS ho Z hl h js=>
  intro e m;cases e with
  |aS aa=>
   simp only[fo]at m;obtain⟨h1,h2⟩:=wg m;exact Bb
  |_=>simp[fo]at m
 |@ptr k aq sz i j dm ab=>
  intro e m;simp only[fo]at m;obtain⟨G,lG,h1,rfl⟩:=m;obtain⟨bp,en⟩:=Ch aq lG h1 dm;rw[<-en];exact .ptr bp (by rw[en];exact ab)
 |@mp k aq dm=>
  intro e m;simp only[fo]at m;obtain⟨G,lG,h1,rfl⟩:=m;obtain⟨bp,en⟩:=Ch aq lG h1 dm;rw[<-en];exact .mp bp
 |@eZ k aq len T A cap u h=>
  intro e m;simp only[fo]at m;obtain⟨G,lG,h1,rfl⟩:=m;refine .eZ u ?_;exact ZS
 |@ch aq sz T dm bn=>
  intro e m;simp only[fo]at m;obtain⟨lG,h1,rfl⟩:=m;obtain⟨bp,en⟩:=Ch aq lG h1 dm;rw[<-en];exact .ch bp (by rw[en];exact bn)
 |gA dm h=>intro e m;simp only[fo]at m;obtain⟨rfl,q⟩:=m;exact cn (.gA dm h) q
 |bY f h1 h2 z C J=>intro e m;simp only[fo]at m;obtain⟨rfl,q⟩:=m;exact cn (.bY f h1 h2 z C J) q
 |@aG k aq sz ag len ah A cap u ac h=>
  intro e m;simp only[fo]at m;obtain⟨G,lG,h1,rfl⟩:=m;refine .aG u ac ?_;exact ZS
 |@eA k aq sz len cap u dm h=>
  intro e m;simp only[fo]at m;obtain⟨G,lG,h1,rfl⟩:=m;obtain⟨bp,en⟩:=Ch aq lG h1 dm;rw[<-en];exact .eA u bp (by rw[en];exact h)
 |snap f h1 h2 z C J ae af=>intro e m;simp only[fo]at m;obtain⟨rfl,q⟩:=m;exact cn (.snap f h1 h2 z C J ae af) q
 |fn h1 h2 z C=>intro e m;simp only[fo]at m;obtain⟨rfl,q⟩:=m;exact cn (.fn h1 h2 z C) q
def UJ(f:List fy)(g0 j c:Nat)(R:Nat->O->aV->Prop)(st:bb):Prop:=
 hQ st f/\∃(g b:List Nat)(D:Nat->O)(L:Nat->aV),g.Nodup/\b.length=c/\(∀a∈b,∃k o,aB st.H k=some o/\o.n=a)/\
  ∀n,fo g0 b n (hp (fB st f)) (D n)/\qe g0 b n (fF st.H g) (L n)/\R n (D n) (L n)
def rr(Γ:bw)(f:List fy)(g c:Nat)(R:Nat->O->aV->Prop)(st:bb):Prop:=∃b,lh Γ st b/\UJ f Γ.g0 g c R b
theorem afd{Γ:bw}{b:List fy}{f c:Nat}{R:Nat->O->aV->Prop}{st:bb}(h:UJ b Γ.g0 f c R st):rr Γ b f c R st:=⟨st,fun N K a w h=>⟨K,h⟩,h⟩
theorem BF{Γ:bw}{b:List fy}{f c:Nat}{R:Nat->O->aV->Prop}{st g:bb}(h1:lh Γ st g)(h2:rr Γ b f c R g):rr Γ b f c R st:=by exact QS
theorem ZA:∀(ks:List Nat)(H:aV)(i:Nat)(o:Option aR),(fF H ks)[i]?=some o->∃k,ks[i]?=some k/\aB H k=o
 |[],H,i,o,h=>by simp[fF]at h
 |k::r,H,0,o,h=>⟨k,rfl,by simpa[fF]using h⟩
 |k::r,H,i+1,o,h=>by
  simp only[fF,List.getElem?_cons_succ]at h⊢;exact ZA r H i o h
theorem acE{g n:Nat}{q:List Nat}{xs ys:List (List O)}(h:ov g q n xs ys)(u:∀x∈xs,∀d∈x,(∃v,d=.v v)\/d=.dY):ys=xs:=by
 obtain⟨h1,h2⟩:=HH h;refine _s fun i=>?_
 rcases _y i xs.length with b|b
 .have f:i<ys.length:=by omega
  rw[_a b,_a f];obtain⟨C,z⟩:=wg (h2 i _ _ (_a b) (_a f));refine congrArg some (_s fun j=>?_);rcases _y j xs[i].length with c|c
  .have m:j<ys[i].length:=by omega
   rw[_a c,_a m];have:=z j _ _ (_a c) (_a m);rcases u _ (_j b) _ (_j c)with⟨v,e⟩|e
   .exact NY
   exact NY
  rw[_i c,_i G]
 rw[_i b,_i G]
theorem ahe{K:aO}{w:World}{o:aR}(h:rb K w o):∀x∈o.xs,∀d∈x,(∃v,d=.v v)\/d=.dY:=by
 obtain⟨_,_,g,j,_,h|⟨m,s,r,h,hl⟩⟩:=h
 .intro x c d f;rw[h]at c;obtain⟨e,_,rfl⟩:=_x.1 c;simp only[iu,_f,_m,or_false]at f;rcases f with rfl|rfl<;>exact .inl ⟨_,rfl⟩
 intro x c d f;rw[h]at c;rcases _f.1 c with rfl|c
 .simp only[_f,_m,or_false]at f;rcases f with rfl|rfl|rfl
  .exact .inr rfl
  .exact .inl ⟨_,rfl⟩
  exact .inl ⟨_,rfl⟩
 obtain⟨a,b,rfl,_⟩:=hl.rows x c;simp only[_f,_m,or_false]at f;rcases f with rfl|rfl<;>exact .inl ⟨_,rfl⟩
theorem adf{P:Program}{f:FuncId}{fn:Func}{au:Code}{x:dI}{av:List fy}{ho:List O}{u:aV}{c:Nat}{R:Nat->O->aV->Prop}(a5:P.funcs[f]?=some fn)(bO:fn.body=some au)(a6:hC P fn.ntmps au x=true)(a7:o2 P fn.results.toList av=true)(aA:ho.length<=fn.ntmps)(X:k6 P f=true)
 (a8:∀Γ:bw,(u=[]->∀g,¬Γ.W0 g)->(∀k o,aB u k=some o->o.n<Γ.g0)->(∀g,Γ.W0 g->∃k o,aB u k=some o/\Γ.K0.real o.n/\Γ.K0.aD o.n=g)->Go Γ P fn.ntmps (rr Γ av u.length c R) x [] ⟨hq ho gP eH,u,Γ.g0⟩):fi P f ho u c R:=by
 refine⟨X,?_⟩;intro K w lH g0 aI X A6;refine calls_of_wp a5 bO ?_;have sB:∀n,(K.cut w).bG n->n<g0:=X;have a9:ft (cz K w g0 u) fn.ntmps ⟨hq ho gP eH,u,g0⟩ (K.cut w) {tmps:=lH++_g (fn.ntmps-lH.size) undef,defers:=[]} w:=by exact LK
 have an:u=[]->∀g,¬(cz K w g0 u).W0 g:=by exact Dj
 refine wp_mono (a8 (cz K w g0 u) an (fun k o h=>X _ (aI.dz k o h)) (fun g h=>h) au a6 _ _ _ a9) ?_
 have iG:∀(je:Act)(gO:World)(hI:bb)(cH:aO),ft (cz K w g0 u) fn.ntmps hI cH je gO->rr (cz K w g0 u) av u.length c R hI->je.defers=[]/\∃v,(results fn je.tmps).run P gO=.ok v gO/\
  ∃J,Ending.returned v=.returned J/\∀n,(∀aq,n<=aq->aq<n+c->¬K.bG aq)->∃(z:aO)(d:O)(aP:aV),R n d aP/\(∀aq,z.bG aq↔K.bG aq\/(n<=aq/\aq<n+c))/\(∀aq,z.real aq->K.real aq\/(n<=aq/\aq<n+c))/\Inv (cz K w n u) z (aB aP) gO/\aJ z gO d J:=by
  intro je gO bR ba bc bd;obtain⟨hI,be,aw,bg,I,D,L,bh,bi,bj,bk⟩:=bd;obtain⟨cH,ky⟩:=be fn.ntmps ba je gO bc;obtain⟨v,bl,bm⟩:=Fc ky a7 aw;refine⟨ky.defers,v,bl,v,rfl,fun n aQ=>?_⟩;have bO:=ky.inv.base;have jr:=ky.inv;have aR:∀aq,n<=aq->aq<n+c->¬K.real aq:=fun aq h1 h2 h=>aQ aq h1 h2 (aI.db aq h)
  let z:aO:=⟨fun aq=>K.bG aq\/(n<=aq/\aq<n+c),fun aq=>K.real aq\/(n<=aq/\∃a,I[aq-n]?=some a/\cH.real a),fun aq=>if n<=aq/\aq<n+c then cH.aD (I.getD (aq-n) 0)else K.aD aq,fun g=>(K.cut w).M g\/∃a,a∈I/\cH.real a/\g=cH.aD a⟩
  have Y:∀(i a:Nat),I[i]?=some a->i<c:=fun i a h=>by rw[<-bi];exact(_b.1 h).1
  have vc:∀aq,K.real aq->z.aD aq=K.aD aq:=fun aq h=>by
   show(if n<=aq/\aq<n+c then cH.aD (I.getD (aq-n) 0)else K.aD aq)=K.aD aq;rw[if_neg (fun q=>aR aq q.1 q.2 h)]
  have ax:∀aq,cH.real aq->aq<g0->z.real aq/\z.aD aq=cH.aD aq:=fun aq h1 h2=>by exact X1
  have ag:∀i a,I[i]?=some a->cH.real a->z.real (n+i)/\z.aD (n+i)=cH.aD a:=fun i a h h1=>by
   have bF:=Y i a h;refine⟨.inr ⟨G,a,by rw[_k];exact h,h1⟩,?_⟩;show(if n<=n+i/\n+i<n+c then cH.aD (I.getD (n+i-n) 0)else K.aD (n+i))=cH.aD a;rw[if_pos ⟨G,G⟩,_k,List.getD_eq_getElem?_getD,h];rfl
  have aS:∀a,a∈I->cH.real a->cH.M (cH.aD a)/\(w.heap.size<=cH.aD a\/(cz K w g0 u).W0 (cH.aD a)):=fun a bn h=>by
   obtain⟨k,o,m,rfl⟩:=bj a bn;exact jr.own k o m h
  have aT:∀b,b<gO.heap.size->z.M b->cH.M b:=fun b _ h=>by
   rcases h with h|⟨a,h1,h2,rfl⟩
   .exact(bO.M b h.2).2 h
   exact(aS a h1 h2).1
  obtain⟨bo,bp,bq⟩:=bk n;have aa:∀i p,aB (L n) i=some p->∃k o,bg[i]?=some k/\aB hI.H k=some o/\ny g0 I n o.n p.n/\p.sz=o.sz/\ov g0 I n o.xs p.xs:=fun i p h=>by
   obtain⟨o,_,h2,bI,br,bs⟩:=Lz bp i p h;obtain⟨k,ah,ai⟩:=ZA _ _ _ _ h2;exact⟨k,o,ah,ai,bI,br,bs⟩
  have aU:∀k o,aB hI.H k=some o->o.n<g0->K.bG o.n:=fun k o m aN=>by
   rcases bO.bG _ (jr.dz k o m)with h|h
   .exact h
   exact absurd aN (by
    have bS:g0<=o.n:=h;omega)
  have ab:∀k o b,aB hI.H k=some o->ny g0 I n o.n b->cH.real o.n->z.real b/\z.aD b=cH.aD o.n:=fun k o b m C Q=>by
   rcases C with⟨i,h1,rfl⟩|⟨h1,rfl⟩
   .exact ag i _ h1 Q
   exact ax _ Q h1
  have ak:∀k o b,aB hI.H k=some o->ny g0 I n o.n b->z.real b->cH.real o.n:=fun k o b m C Q=>by
   rcases C with⟨i,h1,rfl⟩|⟨h1,rfl⟩
   .have bF:=Y i _ h1;rcases Q with h|⟨_,a,h2,bI⟩
    .exact absurd h (aR _ G G)
    rw[_k,h1]at h2;obtain rfl:=_h h2;exact bI
   rcases Q with h|⟨h2,a,bI,_⟩
   .exact(bO.keep _ h).1
   have bF:=Y _ _ bI;exact absurd (aU k o m h1) (aQ _ h2 G)
  refine⟨z,D n,_,bq,fun aq=>Iff.rfl,fun aq h=>?_,?_,XC ax ag aT bm _ bo⟩
  .rcases h with h|⟨h,a,h2,_⟩
   .exact .inl h
   have:=Y _ _ h2;exact .inr ⟨h,G⟩
  refine⟨jr.ext,⟨fun aq h=>?_,fun aq h aN=>?_,fun aq h=>⟨.inl h,vc aq h⟩,fun g X=>?_⟩,fun i p ac=>?_,fun bt bu bv bx h1 h2 bz bA bB=>?_,fun aq h=>?_,fun aq h=>?_,fun i p ac=>?_,fun i p ac Q=>?_,jr.ga⟩
  .exact aaA
  .exact Xr
  .constructor
   .rintro(h|⟨a,h1,h2,rfl⟩)
    .exact h
    exact(bO.M _ X).1 (aS a h1 h2).1
   exact fun h=>.inl h
  .obtain⟨k,o,_,m,C,ae,aW⟩:=aa i p ac;obtain⟨U,al⟩:=HH aW;rcases jr.obj k o m with⟨J,Z⟩|⟨J,bC,t,bD,bE,Z,am,ao,bH⟩|⟨J,Z,aX,aY,am,ao⟩
   .refine .inl ⟨fun h=>J (ak k o _ m C h),?_⟩;rw[Z]at U;exact List.length_eq_zero_iff.1 U.symm
   .obtain⟨az,aC⟩:=ab k o _ m C J;refine .inr (.inl ⟨az,bC,t,bD,by rw[ae];exact bE,by rw[aC];exact Z,by rw[<-U,ae];exact am,fun x ap=>?_,fun i x j d ap bf=>?_⟩)
    .obtain⟨i,bF⟩:=List.getElem?_of_mem ap;have af:i<o.xs.length:=by rw[U];exact(_b.1 bF).1
     have:=wg (al i _ _ (_a af) bF);rw[<-this.1,ae];exact ao _ (_j af)
    have af:i<o.xs.length:=by rw[U];exact(_b.1 ap).1
    have ay:=wg (al i _ _ (_a af) ap);have aZ:j<o.xs[i].length:=by rw[ay.1];exact(_b.1 bf).1
    obtain⟨bJ,bK,bL⟩:=bH i _ j _ (_a af) (_a aZ);exact⟨bJ,by rw[ae];exact bK,XC ax ag aT bL _ (ay.2 j _ _ (_a aZ) bf)⟩
   obtain⟨az,aC⟩:=ab k o _ m C J;have bM:=acE aW (ahe ⟨J,Z,aX,aY,am,ao⟩);exact .inr (.inr ⟨az,by rw[ae];exact Z,aX,aY,by rw[aC];exact am,by rw[bM];exact ao⟩)
  .obtain⟨aE,aF,ah,aG,a0,_,_⟩:=aa bt bv h1;obtain⟨aH,aK,ai,aL,a1,_,_⟩:=aa bu bx h2;have a2:=ak aE aF _ aG a0 bz;have a3:=ak aH aK _ aL a1 bA;have bP:=jr.inj aE aH aF aK aG aL a2 a3 ((ab aE aF _ aG a0 a2).2.symm.trans (bB.trans (ab aH aK _ aL a1 a3).2));subst bP;have U:=(_b.1 ah).1;have al:=(_b.1 ai).1;exact(List.getElem_inj (h₀:=U) (h₁:=al) bh).1 (by rw[(_b.1 ah).2,(_b.1 ai).2])
  .rcases h with h|⟨h,a,h2,_⟩
   .exact .inl (aI.db aq h)
   have:=Y _ _ h2;exact .inr ⟨h,G⟩
  .rcases h with h|⟨h,a,h2,bI⟩
   .exact PC
   have e:=(ag _ _ h2 bI).2;rw[Nat.add_sub_cancel' h]at e;rw[e];exact jr.lt _ bI
  .obtain⟨k,o,_,m,C,_,_⟩:=aa i p ac;rcases C with⟨j,h1,h2⟩|⟨h1,h2⟩
   .have:=Y j _ h1;rw[h2];exact .inr ⟨G,G⟩
   rw[h2];exact .inl (aU k o m h1)
  obtain⟨k,o,_,m,C,_,_⟩:=aa i p ac;have ar:=ak k o _ m C Q;have e:=(ab k o _ m C ar).2;rw[e];have aM:=jr.own k o m ar;refine⟨?_,aM.2⟩;rcases C with⟨j,h1,h2⟩|⟨h1,h2⟩
  .exact .inr ⟨_,_c h1,ar,rfl⟩
  have a4:K.real o.n:=bO.cn _ ar h1;have aN:K.aD o.n<w.heap.size:=aI.lt _ a4;have bQ:cH.aD o.n=K.aD o.n:=(bO.keep _ a4).2;rw[bQ]at aM ⊢;exact .inl ((bO.M _ aN).1 aM.1)
 exact LH
theorem UP{P:Program}{f:FuncId}{fn:Func}{x:dI}{q:List fy}{m:List O}{b:aV}{c:Nat}{R:Nat->O->aV->Prop}(u:P.funcs[f]?=some fn)(j:oA P f fn x q=true)
 (v:∀Γ:bw,(b=[]->∀g,¬Γ.W0 g)->(∀k o,aB b k=some o->o.n<Γ.g0)->(∀g,Γ.W0 g->∃k o,aB b k=some o/\Γ.K0.real o.n/\Γ.K0.aD o.n=g)->Go Γ P fn.ntmps (rr Γ q b.length c R) x [] ⟨hq m gP eH,b,Γ.g0⟩) (aA:Nat.ble m.length fn.ntmps=true:=by rfl):fi P f m b c R:=
 adf u (lP j).2.2.2 (lP j).1 (lP j).2.1 (Nat.le_of_ble_eq_true aA) (lP j).2.2.1 v
theorem kh{Γ:bw}{f:List fy}{j c:Nat}{D:Nat->O}{L:Nat->aV}{st:bb}(g b:List Nat)(h1:hQ st f)(h2:g.Nodup)(m:b.length=c)(q:∀a∈b,∃k o,aB st.H k=some o/\o.n=a)
 (u:∀n,fo Γ.g0 b n (hp (fB st f)) (D n)) (v:∀n,qe Γ.g0 b n (fF st.H g) (L n)):rr Γ f j c (fun n d H=>d=D n/\H=L n) st:=
 afd ⟨h1,g,b,D,L,h2,m,q,fun n=>⟨u n,v n,rfl,rfl⟩⟩
theorem XI:∀(xs:List (List O))(i:Nat)(x:List O),hv xs i x=xs.set i x
 |[],_,_=>rfl
 |_::_,0,_=>rfl
 |_::r,i+1,x=>by simp[hv,XI r i x]
theorem aj4{α:Type}(f:α->List O)(l:List α)(i:Nat)(a:α):hv (l.map f) i (f a)=(l.set i a).map f:=by rw[XI,List.map_set]
theorem nv{st:bb}{o:aR}(k g:Nat)(G:aB st.H k=some o)(ab:g≠k->aB st.H g=none):fP st ⟨st.tm,cl (cl st.H k none) g (some o),st.gen⟩:=by
 intro Γ N K a w m;refine⟨K,?_,m.fresh,m.g0,m.size,m.defers,m.tm⟩;have c:=m.inv;have q:∀j p,aB (cl (cl st.H k none) g (some o)) j=some p->∃f,aB st.H f=some p/\((j=g/\f=k)\/(j=f/\j≠g/\j≠k)):=by
  intro j p b;rw[lS]at b;by_cases e:j=g
  .rw[if_pos e]at b;obtain rfl:=_h b;exact⟨k,G,.inl ⟨e,rfl⟩⟩
  rw[if_neg e,lS]at b;by_cases x:j=k
  .rw[if_pos x]at b;cases b
  rw[if_neg x]at b;exact⟨j,b,.inr ⟨rfl,e,x⟩⟩
 refine⟨c.ext,c.base,fun j p b=>?_,fun I J z C h1 h2 aw aY M=>?_,c.db,c.lt,fun j p b=>?_,fun j p b O=>?_,c.ga⟩
 .obtain⟨f,h,_⟩:=q j p b;exact c.obj f p h
 .obtain⟨Q,U,X⟩:=q I z h1;obtain⟨Y,Z,aa⟩:=q J C h2;have:=c.inj Q Y z C U Z aw aY M;rcases X with⟨u,ah⟩|⟨u,ah,d1⟩<;>rcases aa with⟨v,ai⟩|⟨v,ai,d2⟩
  .rw[u,v]
  .exact absurd (v.trans (this.symm.trans ah)) d2
  .exact absurd (u.trans (this.trans ai)) d1
  rw[u,v,this]
 .obtain⟨f,h,_⟩:=q j p b;exact c.dz f p h
 obtain⟨f,h,_⟩:=q j p b;exact c.own f p h O
def gS(P:Program)(f:FuncId)(g:List O)(b:aV)(j:List PanicEntry)(m:aV):Prop:=k6 P f=true/\
 ∀(K:aO)(w:World)(c:Array Value)(g0:Nat),Inv (cz K w g0 b) (K.cut w) (aB b) w->(∀n,K.bG n->n<g0)->dS (K.cut w) w g c->
  Calls P f c w fun e q=>e=.panicked j/\Inv (cz K w g0 b) (K.cut w) (aB m) q
def mG(T:FuncId->List O->Prop):bA->Prop
 |.ite t x y=>match t with
  |true=>mG T x
  |false=>mG T y
 |.need p x=>p/\mG T x
 |.call f b=>T f b
 |_=>False
theorem Ur{T:FuncId->List O->Prop}{x y:bA}:mG T (.ite true x y)=mG T x:=rfl
theorem RB{T:FuncId->List O->Prop}{x y:bA}:mG T (.ite false x y)=mG T y:=rfl
def UC(P:Program)(Γ:bw)(st:bb)(f:FuncId)(g:List O):Prop:=∃(ks:List Nat)(c:List PanicEntry)(b:aV),ks.Nodup/\b.length=ks.length/\gS P f g (fF st.H ks) c b/\Γ.pq c ⟨st.tm,d_ st.H (fI ks b),st.gen⟩
def It(P:Program)(Γ:bw)(f:FuncId)(c:List O):Prop:=∃b,gS P f c [] b []/\∀st,Γ.pq b st
def Jb(P:Program)(Γ:bw)(x:cP)(st:bb)(_:List e6):Prop:=mG (UC P Γ st) (oJ st.tm (kI st x.op) x.g)
section
variable {P:Program} {Γ:bw} {N:Nat} {ops:Array Oper} {o:Oper} {st:bb} {K:aO} {a:Act} {w:World} {R:bb->Prop} {k:List jR}
theorem eT{f:FuncId}{g:List O}{c:List PanicEntry}{b:aV}(ks:List Nat)(m:ks.Nodup)(hl:b.length=ks.length){j:aV}(q:fF st.H ks=j)(h:gS P f g j c b)(u:Γ.pq c ⟨st.tm,d_ st.H (fI ks b),st.gen⟩):mG (UC P Γ st) (.call f g):=by
 subst q;exact⟨ks,c,b,m,hl,h,u⟩
theorem x_{T:FuncId->List O->Prop}{rs:List bK}{tm:bQ}:∀ {j:bA},j.all (fun d t wr g=>bh P o rs tm st.H st.gen d t wr g) (fun f b=>nm P o rs tm f b)->mG T j->∃f b,T f b/\nm P o rs tm f b
 |.ok ..,_,h=>h.elim
 |.bad,_,h=>h.elim
 |.alt ..,_,h=>h.elim
 |.ite t x y,c,h=>by
  cases t with
  |true=>exact x_ (c.1 rfl) h
  |false=>exact x_ (c.2 rfl) h
 |.need p x,c,h=>x_ (c h.1) h.2
 |.call f b,c,h=>⟨f,b,h,c⟩
theorem Ry{T:FuncId->List O->Prop}{x:cP}(m:sA P N ops o x=true)(h:mG T (oJ st.tm (kI st x.op) x.g))(aT:∀s∈x.reads,aJ K w (st.tm.get s) (a.tmps.getD s.nat undef)):
 Region.wanted o (yielded ops a.tmps)=true/\∃f u,T f u/\nm P o x.op.reads st.tm f u:=by
 simp only[sA,_d]at m;obtain⟨⟨h1,h2⟩,bI⟩:=m;have c:=NO (st:=st) h1;unfold oJ at h;split at h
 .rename_i b8;rw[b8]at bI;have z:o.guard=none:=by
   unfold Dx at bI;split at bI<;>simp_all
  exact⟨by simp[Region.wanted,z],x_ c h⟩
 rename_i s b b8;rw[b8]at bI;obtain⟨j,cB,IS⟩:∃j,o.guard=some (j,b)/\(ops[j]?).bind (·.dst)=some s.nat:=by exact Ub
 unfold yO at h;split at h
 .rename_i t bT;have v:Region.wanted o (yielded ops a.tmps)=(t==b):=by exact Pk
  cases b<;>cases t
  .exact⟨v,x_ c h⟩
  .exact h.elim
  .exact h.elim
  exact⟨v,x_ c h⟩
 .exact h.elim
 exact h.elim
theorem VK{rs:List bK}{f:FuncId}{j:List O}{m:List PanicEntry}{H:Nat->Option aR}{HS H1:aV}{ks:List Nat}{tm:bQ}{q:Exit->Act->World->Prop}{next:Act->World->Prop}(u:Inv Γ K H w){c:Nat}(z:∀n,K.bG n->n<c)(hl:nm P o rs tm f j)(C:∀s∈rs,aJ K w (tm.get s) (a.tmps.getD s.nat undef))(v:ks.Nodup)(x:∀k∈ks,H k=aB HS k)(G:H1.length=ks.length)(aj:gS P f j (fF HS ks) m H1)
 (I:∀g b,dH K w g b->(∀n,g.bG n->K.bG n)->Inv Γ g (gT H (fI ks H1)) b->q (.panic m) a b):o.wp P a w next q:=by
 obtain⟨J,M,Q⟩:=hl aj.1 K a w C;have U:=aj.2 K w J c (wU u v x c) z (s_ Q);unfold Oper.wp;rw[M];refine U.mono fun e b h=>?_
 obtain⟨rfl,X⟩:=h;obtain⟨Y,Z⟩:=E4 u v x G X;exact I (K.cut w) b Y (fun n h=>h) Z
theorem Q7:∀(l:List Oper)(xs:List cP)(i:Nat),kK P N ops l xs=true->kK P N ops (l.take i) (xs.take i)=true
 |_,_,0,_=>rfl
 |[],[],i+1,_=>rfl
 |[],_::_,_,h=>EU
 |_::_,[],_,h=>EU
 |o::l,x::xs,i+1,h=>by
  simp only[kK,_d,List.take_succ_cons]at h⊢;exact⟨h.1,Q7 l xs i h.2⟩
theorem zQ{b:List PanicEntry}{st:bb}(h:Γ.pq b st):∀(k:List jR),iE Γ P N R k (.panic b) st
 |[]=>h
 |.code _::k=>zQ h k
 |.block _::k=>zQ h k
 |.loop _::k=>zQ h k
theorem eN{xs:List cP}(i:Nat)(x:cP)(g:xs[i]?=some x)(h:run P (Jb P Γ x) 1000 (xs.take i) st []):Go Γ P N R (.region xs) k st:=by
 intro c b K a w v;simp only[hC]at b;split at b
 .rename_i id ops Z;simp only[_d,beq_iff_eq]at b;obtain⟨rfl,cw⟩:=b;refine wp_region ?_;have z:xs.length=ops.size:=HU;have C:i<ops.size:=by rw[<-z];exact(_b.1 g).1
  have m:(ops.toList.take i).length=i:=c7;have e:List.range ops.size=_A 0 (ops.toList.take i).length++(i::_A (i+1) (ops.size-(i+1))):=by
   rw[m,N3,<-List.range'_succ,show ops.size-(i+1)+1=ops.size-i from G];have:=List.range'_append_1 (s:=0) (m:=i) (n:=ops.size-i);rw[_l]at this;rw[this,show i+(ops.size-i)=ops.size from G]
  rw[e];refine F4 (Γ:=Γ) (ops:=ops) (Q:=Jb P Γ x) (fun s tr aa ab ac h1 h2=>?_) (ops.toList.take i) (xs.take i) 0 1000 st [] K a w (fun j q=>by rw[_p,if_pos (by rw[m]at q;exact q)];simp) (Q7 _ _ i cw) h v;have bX:ops[i]?=some ops[i]:=_e C;obtain⟨I,f,ae,⟨ks,af,J,M,O,aj,Q⟩,hl⟩:=Ry ((AE cw).2 i ops[i] x GZ g) h2 (fun s _=>h1.tm s);simp only[wpOps,bX,I,if_true];refine .inl (VK h1.inv h1.fresh hl (fun s _=>h1.tm s) M (fun _ _=>rfl) O aj fun U bD X Y u=>⟨⟨s.tm,d_ s.H (fI ks J),s.gen⟩,U,⟨by rw[y2]at u;exact u,fun n h=>h1.fresh n (Y n h),h1.g0,h1.size,h1.defers,fun s=>(h1.tm s).mono X⟩,zQ Q k⟩)
 cases b
inductive vZ where
 |go
 |off
 |rX
def rz(P:Program)(Γ:bw)(b:List e6->Prop):List vZ->List cP->bb->List e6->Prop
 |.go::ms,o::r,st,tr=>bc P (fun j c f=>rz P Γ b ms r c f) r st o.dst tr (oJ st.tm (kI st o.op) o.g)
 |.off::ms,_::r,st,tr=>rz P Γ b ms r st (⟨[],[]⟩::tr)
 |.rX::ms,o::r,st,tr=>mG (It P Γ) (oJ st.tm (kI st o.op) o.g)/\rz P Γ b ms r st (⟨[],[]⟩::tr)
 |[],[],_,tr=>b tr
 |_,_,_,_=>False
def Mb(P:Program)(Γ:bw)(ops:Array Oper)(st:bb)(b:Option vZ)(s:gy)(x:cP)(o:Oper):Prop:=(∀q,s.dst=some q->x.dst=some q)/\s.rs=x.reads/\
 ((b=some .go/\s.dst=x.dst/\sK P ops o s.rs st.tm st.H st.gen s.d s.t s.wr s.g)\/b=some .off\/(b=some .rX/\mG (It P Γ) (oJ st.tm (kI st x.op) x.g)))
theorem V1{b:List e6->Prop}:∀(l:List Oper)(ms:List vZ)(xs:List cP)(st:bb)(tr:List e6),kK P N ops l xs=true->rz P Γ b ms xs st tr->
 ∃S:List gy,S.length=xs.length/\ms.length=xs.length/\(∀(i:Nat)(s:gy)(x:cP)(o:Oper),S[i]?=some s->xs[i]?=some x->l[i]?=some o->Mb P Γ ops (gl st S i) ms[i]? s x o)/\b (tX S tr)
 |[],[],[],st,tr,_,h=>⟨[],rfl,rfl,fun i s x o h=>fE,h⟩
 |[],_::_,[],_,_,_,h=>by simp[rz]at h
 |[],_,_::_,_,_,cw,_=>yy
 |_::_,_,[],_,_,cw,_=>yy
 |_::_,[],_::_,_,_,_,h=>by simp[rz]at h
 |o::l,c::ms,x::xs,st,tr,cw,h=>by
  simp only[kK,_d]at cw;have step:∀(s:gy),Mb P Γ ops st (some c) s x o->rz P Γ b ms xs (Iz st s) (⟨s.t,fD s.wr⟩::tr)->∃S:List gy,S.length=(x::xs).length/\(c::ms).length=(x::xs).length/\(∀(i:Nat)(s:gy)(y:cP)(p:Oper),S[i]?=some s->(x::xs)[i]?=some y->(o::l)[i]?=some p->Mb P Γ ops (gl st S i) (c::ms)[i]? s y p)/\b (tX S tr):=fun s g f=>by
   obtain⟨S,h1,m,h2,u⟩:=V1 l ms xs _ _ cw.2 f;refine⟨s::S,wW,by simp[m],fun i q y p aj aP j=>?_,u⟩;cases i with
   |zero=>
    simp at aj aP j;subst aj aP j;exact g
   |succ i=>exact h2 i q y p BK xZ (by simpa using j)
  cases c with
  |go=>
   obtain⟨d,t,wr,g,v,f⟩:=HM cw.1 h;exact step ⟨x.dst,x.reads,d,t,wr,g⟩ ⟨fun _ h=>h,rfl,.inl ⟨rfl,rfl,v⟩⟩ f
  |off=>exact step ⟨none,x.reads,.any,[],[],0⟩ ⟨fun _ h=>ha,rfl,.inr (.inl rfl)⟩ h
  |rX=>exact step ⟨none,x.reads,.any,[],[],0⟩ ⟨fun _ h=>ha,rfl,.inr (.inr ⟨rfl,h.1⟩)⟩ h.2
def s3(ps:List Nat)(p:Nat):List vZ->Nat->Bool
 |[],_=>true
 |.go::r,i=>s3 ps p r (i+1)
 |.off::r,i=>(rR ps i).testBit p&&s3 ps p r (i+1)
 |.rX::r,i=>decide (i=p)&&s3 ps p r (i+1)
theorem Ka{ps:List Nat}{p:Nat}:∀ {ms:List vZ} {i j:Nat},s3 ps p ms i=true->(ms[j]?=some .off->(rR ps (i+j)).testBit p=true)/\(ms[j]?=some .rX->i+j=p)
 |[],_,j,_=>aF
 |m::r,i,j,h=>by
  have h2:s3 ps p r (i+1)=true:=by cases m<;>simp only[s3,_d]at h<;>first|exact h|exact h.2
  cases j with
  |zero=>cases m<;>simp[s3]at h<;>simp[h]
  |succ j=>
   have:=Ka (j:=j) h2;rw[show i+1+j=i+(j+1)from G]at this;exact oe
theorem Wl(C:P.follows .mixedOrders=true){I:List Nat}{xs:List cP}(ms:List vZ)(p:Nat)(J:ms[p]?=some .rX)(U:s3 I p ms 0=true)(h:rz P Γ (fun tr=>Br I tr.reverse xs.length=true) ms xs st []):Go Γ P N R (.uf I xs) k st:=by
 intro c b K a w M;simp only[hC]at b;split at b
 .rename_i id ops aC;simp only[_d,beq_iff_eq,decide_eq_true_eq]at b;obtain⟨⟨⟨rfl,X⟩,ae⟩,cw⟩:=b;obtain⟨S,h1,aD,h2,af⟩:=V1 ops.toList ms xs st [] cw h;have Y:xs.length=ops.size:=HU;obtain⟨hl,ag⟩:=WZ Y X ae af;refine wp_region_any C ?_;have m:=OT M;have b3:∀j,ea (_g ops.size false) j=false:=by exact TN
  have ah:p<ops.size:=by
   have:=(_b.1 J).1;omega
  refine Oh (Γ:=Γ) (W:=fun i=>ms[i]?=some .off\/ms[i]?=some .rX) hl Y cw ag M.g0 (fun i s x o ai ak dk=>?_) (fun i s aE al aG bl next am Z aI an O=>?_) (fun bd=>absurd (.inr J) (bd p ah)) ops.size _ K a _ G ?_
  .obtain⟨aa,Q,u⟩:=h2 i s x o ai ak Yy;refine⟨aa,Q,?_⟩;rcases u with g|g|g
   .exact .inr ⟨g.2.1,g.2.2⟩
   .exact .inl (.inl g)
   exact .inl (.inr g.1)
  .have ab:i<ops.size:=by rw[<-hl];exact(_b.1 Z).1
   rcases am with q|q
   .have:=Lu X i ab p (by have:=(Ka (j:=i) U).1 q;rw[_l]at this;exact this) _ aI.closed an;rw[aI.du p (.inr J)]at this;cases this
   obtain rfl:i=p:=by have:=(Ka (j:=i) U).2 q;omega
   have ac:xs[i]?=some xs[i]:=_a G;have bX:ops[i]?=some ops[i]:=_e ab;obtain⟨aa,Q,u⟩:=h2 i s xs[i] ops[i] Z ac GZ;rw[q]at u;obtain⟨-,ao⟩:=(u.resolve_left (fun q=>by cases q.1)).resolve_left (fun q=>tG);rw[Q]at O;obtain⟨ap,f,aH,⟨aJ,aj,aq⟩,ar⟩:=Ry ((AE cw).2 i ops[i] _ GZ ac) ao O;unfold wpOp;simp only[bX,ap,if_true];have v:∃z,Γ.g0<=z/\∀n,al.bG n->n<z:=by
    refine⟨oK st S S.length,_z M.g0 (p_ (st:=st) (S:=S) _ 0 (_B _) (_o _)),fun n bd=>?_⟩;exact TC
   obtain⟨z,au,v⟩:=v;exact .inl (VK (HS:=[]) (H1:=[]) (ks:=[]) aI.inv v ar (fun s aj=>O s (List.mem_append.2 (.inl aj))) List.nodup_nil (fun _ h=>ha) rfl aj fun av bD aK aw ax=>⟨⟨eH,[],z⟩,av,⟨wP ax (fun k o h=>mT),fun n h=>v n (aw n h),au,aI.yM,aI.defers,fun s=>.any _⟩,zQ (aq _) k⟩)
  have ay:∀s,nH S st (ea (_g ops.size false)) ops.size s=st.tm.get s:=by exact PT
  have az:mz S st (ea (_g ops.size false)) ops.size=aB st.H:=by exact Vs
  exact⟨fun _ _=>b3 _,aF,(fun j cB=>by rw[b3]at cB;exact absurd cB aF),by rw[az];exact m.inv,fun aA C=>.inl (m.fresh aA C),m.size,m.defers,fun s=>by rw[ay];exact m.tm s⟩
 cases b
end
theorem UM{K:aO}{w:World}{b:Array Value}{g0 N:Nat}{c:List O}{f:aV}(q:Inv (cz K w g0 f) (K.cut w) (aB f) w)(u:∀n,K.bG n->n<g0)(g:dS (K.cut w) w c b)(aA:c.length<=N):
 ft (cz K w g0 f) N ⟨hq c gP eH,f,g0⟩ (K.cut w) {tmps:=b++_g (N-b.size) undef,defers:=[]} w:=by
 refine⟨q,u,_o _,by simp[g.1];omega,rfl,?_⟩;refine HP c gP eH (fun s=>by rw[CD];exact .any _) (fun i d s m aj=>?_);have e:=aau i s aj;have j:i<b.size:=by rw[g.1];exact(_b.1 m).1
 have:(b++_g (N-b.size) undef).getD s.nat undef=b[i]:=by
  rw[e,Array.getD_eq_getD_getElem?,Array.getElem?_append_left j,_e j];rfl
 rw[this];exact g.2 i d _ m (_e j)
theorem Kw{Γ:bw}{K:aO}{H:Nat->Option aR}{w:World}{df:List Deferred}{pq:List PanicEntry->bb->Prop}(h:Inv Γ K H w):Inv {Γ with df:=df,pq:=pq} K H w:=⟨h.ext,⟨h.base.bG,h.base.cn,h.base.keep,h.base.M⟩,h.obj,h.inj,h.db,h.lt,h.dz,h.own,h.ga⟩
theorem Yt{Γ:bw}{K:aO}{H:Nat->Option aR}{w:World}{df:List Deferred}{pq:List PanicEntry->bb->Prop}(h:Inv {Γ with df:=df,pq:=pq} K H w):Inv Γ K H w:=⟨h.ext,⟨h.base.bG,h.base.cn,h.base.keep,h.base.M⟩,h.obj,h.inj,h.db,h.lt,h.dz,h.own,h.ga⟩
theorem V3{P:Program}{f:FuncId}{fn:Func}{c:Code}{u:List O}{b:aV}{x:List PanicEntry}{m:aV}(I:P.funcs[f]?=some fn)(J:fn.body=some c)(q:k6 P f=true)
 (M:∀Γ:bw,(b=[]->∀g,¬Γ.W0 g)->(∀k o,aB b k=some o->o.n<Γ.g0)->(∀st:bb,im st.H m->jb Γ.g0 m->Γ.pq x st)->wD Γ P fn.ntmps c (iE Γ P fn.ntmps (fun _=>False) []) ⟨hq u gP eH,b,Γ.g0⟩) (aA:Nat.ble u.length fn.ntmps=true:=by rfl):gS P f u b x m:=by
 have aA:=Nat.le_of_ble_eq_true aA;refine⟨q,?_⟩;intro K w z g0 v q Q;refine calls_of_wp I J ?_;let Γ:bw:={cz K w g0 b with pq:=fun c st=>c=x/\im st.H m/\jb g0 m}
 have C:=UM v q Q aA;have U:ft Γ fn.ntmps ⟨hq u gP eH,b,g0⟩ (K.cut w) {tmps:=z++Array.replicate (fn.ntmps-z.size) undef,defers:=[]} w:=⟨Kw v,q,Nat.le_refl _,C.size,rfl,C.tm⟩;have an:b=[]->∀g,¬Γ.W0 g:=by exact Dj
 refine wp_mono (M Γ an (fun k o h=>q _ (v.dz k o h)) (fun st h1 h2=>⟨rfl,h1,h2⟩) _ _ _ U) ?_;rintro e Z aa ⟨ab,ac,G,j⟩;cases e with
 |normal=>exact j.elim
 |ret=>exact j.elim
 |exit i=>exact j.elim
 |goto l=>exact j.elim
 |outgrown=>exact j.elim
 |panic c=>
  obtain⟨rfl,X,Y⟩:=j;refine⟨G.defers,rfl,xG v (Yt G.inv) (fun k o h=>wx X k o h) Y⟩
theorem adZ{P:Program}{f:FuncId}{fn:Func}{x:dI}{u:List fy}{c:List O}{b:aV}{q:List PanicEntry}{j:aV}(v:P.funcs[f]?=some fn)(m:oA P f fn x u=true)
 (z:∀Γ:bw,(b=[]->∀g,¬Γ.W0 g)->(∀k o,aB b k=some o->o.n<Γ.g0)->(∀st:bb,im st.H j->jb Γ.g0 j->Γ.pq q st)->Go Γ P fn.ntmps (fun _=>False) x [] ⟨hq c gP eH,b,Γ.g0⟩) (aA:Nat.ble c.length fn.ntmps=true:=by rfl):gS P f c b q j:=
 V3 v (lP m).2.2.2 (lP m).2.2.1 (fun Γ h1 h2 C=>z Γ h1 h2 C _ (lP m).1) aA
def pv:Code->Code
 |.seq a _=>a
 |c=>c
def l_:Code->Code
 |.seq _ b=>b
 |c=>c
theorem ajq{P:Program}{f:FuncId}{fn:Func}{x y:dI}{G:List O}{C:aV}{I:List PanicEntry}{z:aV}(Y:P.funcs[f]?=some fn)(Z:fn.body=some (.seq (pv (iV fn)) (.seq (pv (l_ (iV fn))) (l_ (l_ (iV fn))))))(aa:k6 P f=true)
 (h1:hC P fn.ntmps (pv (iV fn)) x=true) (h2:hC P fn.ntmps (pv (l_ (iV fn))) y=true)
 (ab:∀a w,a.tmps.size=fn.ntmps->(l_ (l_ (iV fn))).wp P (fun e b q=>e=.panic I/\b={a with tmps:=b.tmps}/\b.tmps.size=a.tmps.size/\q=w) a w)
 (ac:∀Γ:bw,(C=[]->∀g,¬Γ.W0 g)->(∀k o,aB C k=some o->o.n<Γ.g0)->Go Γ P fn.ntmps (fun _=>False) x [.code y,.loop (fun st=>im st.H z/\jb Γ.g0 z)] ⟨hq G gP eH,C,Γ.g0⟩) (aA:Nat.ble G.length fn.ntmps=true:=by rfl):gS P f G C I z:=by
 refine V3 Y Z aa (fun Γ ae af ag=>?_) aA;have ah:=ac Γ ae af;intro K a w ai;have aj:∀(st:bb)(u:aO)(b:Act)(q:World),ft Γ fn.ntmps st u b q->(im st.H z/\jb Γ.g0 z)->(l_ (l_ (iV fn))).wp P (fun e a w=>∃J u,ft Γ fn.ntmps J u a w/\iE Γ P fn.ntmps (fun _=>False) [] e J) b q:=by
  intro st u b q j m;refine wp_mono (ab b q j.size) ?_;rintro e M bD ⟨rfl,ak,al,rfl⟩;refine⟨⟨eH,st.H,st.gen⟩,u,⟨j.inv,j.fresh,j.g0,al.trans j.size,by rw[ak];exact j.defers,fun s=>by rw[CD];exact .any _⟩,ag _ m.1 m.2⟩
 refine wp_seq (wp_mono (ah _ h1 K a w ai) ?_);rintro e b q ⟨st,u,j,m⟩;cases e with
 |normal=>
  refine wp_seq (wp_mono (m _ h2 u b q j) ?_);rintro e M bD ⟨Q,U,X,v⟩;cases e with
  |normal=>exact aj Q U M bD X v
  |exit i=>exact v.elim
  |ret=>exact v.elim
  |goto l=>exact v.elim
  |panic c=>exact⟨Q,U,X,v⟩
  |outgrown=>exact v.elim
 |exit i=>exact m.elim
 |ret=>exact m.elim
 |goto l=>exact m.elim
 |panic c=>exact⟨st,u,j,m⟩
 |outgrown=>exact m.elim
theorem MV{Γ:bw}{P:Program}{N:Nat}{R:bb->Prop}{x:dI}{k:List jR}{st:bb}{c:Code}(h:Go Γ P N R x k st)(b:hC P N c x=true):wD Γ P N c (iE Γ P N R k) st:=h c b
end Go.Proofs.YtdiobdlinjgakaaGreatDoor
