import Derived.Test.YtdiobdlinjgakaaGreatDoorDh30
set_option linter.unusedVariables false
set_option linter.unusedSimpArgs false
set_option maxHeartbeats 8000000
set_option maxRecDepth 100000
open Go.Proofs.Tryz
open List renaming mem_iff_getElem?->_a,getElem?_eq_getElem->_b,getElem?_eq_some_iff->_c,mem_of_find?_eq_some->_i,take_length->_m,mem_reverse->_n,find?_some->_o,filter_eq_self->_q,find?_eq_none->_r,take_add_one->_s,mem_map->_t,length_map->_x,take->_z,drop->_A,length_filter_le->_B,mem_of_getElem?->_C,getElem?_take->_D,filter_append->_E,length_drop->_F,all_eq_true->_G,nil_append->_H,drop_zero->_I
open Go.IntWalk renaming i64_in->_d
open Go.IntKind renaming i64->_e,u16->_l,u64->_p
open Option.some renaming inj->_f
open Nat renaming lt_succ_self->_g,sub_lt_sub_left->_j,succ_pos->_v,zero_le->_w,zero_lt_one->_y,le_trans->_J
open Int renaming toNat_natCast->_h,le_refl->_K
open Bool renaming and_eq_true->_k,not_eq_true'->_u
namespace Go.Proofs.YtdiobdlinjgakaaGreatDoor.H
attribute [local irreducible] bc Go
theorem L6(c o n:Int)(f:0<=c/\c<=65535)(g:0<=o/\o<=65535)(M:0<=n/\n<=65535):Spec prog 254 [.v (.int .u16 c),.v (.int .u16 o),.v (.int .u16 n)] (.v (.int .u16 (65535-ck (65535-c+(65535-o)+n)))):=by
 have m:bits .xor .u16 _l.max c=65535-c:=tP c f.1 f.2;have q:bits .xor .u16 _l.max o=65535-o:=tP o g.1 g.2;have bl:_p.wrap (65535-c)=65535-c:=jo _ G G;have bD:_p.wrap (65535-o)=65535-o:=jo _ G G;have eO:_p.wrap n=n:=jo _ G G;have u:_p.wrap (65535-c+(65535-o))=65535-c+(65535-o):=jo _ G G;have z:_p.wrap (65535-c+(65535-o)+n)=65535-c+(65535-o)+n:=jo _ G G;have C:=D5 (65535-c+(65535-o)+n) G G;have j:=kc (65535-c+(65535-o)+n) G;have I:=tP (ck (65535-c+(65535-o)+n)) j.1 j.2;refine az {} 0 func254 fun Γ an=>ar ?_
 repeat' first|refine af ?_|simp only[show _l.signed=false from rfl,m,q,bl,bD,eO,u,z]|refine J C ?_|refine ag ?_|refine ab ?_ ?_<;>intro h<;>try exact aa|exact al|fail
 all_goals(refine cI ?_;first|exact cc|try simp only[cE]at *)
 all_goals exact eG I
def ju(s:List UInt8):Int:=65535-ck (65535-ao s 10+(65535-ao s 8)+(ao s 8-256))
def f_(s:List UInt8):List UInt8:=s.take 8++a1 (ao s 8-256)++a1 (ju s)++(s.drop 12).take ((ao s 2).toNat-12)
def fq(s:List UInt8):List UInt8×Int:=if¬(dP s).2=0 then([],(dP s).2)else if au s 8<2 then([],7)else(f_ s,0)
theorem R0(s:List UInt8):((dP s).2=0/\dP s=(cv s,0)/\20<=s.length/\20<=ao s 2/\ao s 2<=s.length)\/(¬(dP s).2=0):=by
 by_cases h:dc s=0
 .have e:dP s=(cv s,0):=by unfold dP;rw[if_pos h]
  refine .inl ⟨by rw[e],e,?_⟩;unfold dc at h;split at h
  .cases h
  rename_i b;split at h
  .cases h
  rename_i c;have f:69<=au s 0/\au s 0<=79:=by
   by_cases q:69<=au s 0/\au s 0<=79
   .exact q
   exact absurd (.inl q) c
  have g:¬ao s 2<(aA s:Nat):=fun q=>c (.inr (.inl q))
  have j:¬s.length<20:=fun q=>b (.inl q)
  have m:¬(s.length:Int)<ao s 2:=fun q=>b (.inr (.inr q))
  have u:20<=aA s:=D9;omega
 refine .inr ?_;unfold dP;rw[if_neg h];exact h
theorem Xu(s:List UInt8):ao s 8=256*(au s 8:Nat)+(au s 9:Nat):=rfl
theorem afp(s:List UInt8)(hl:s.length<=140737488351232):Spec prog 217 [.v (.string (I s))] (n5 (fq s)):=by
 have aT:=J2 s G;rcases R0 s with⟨c,f,cr,m,q⟩|c;rotate_left
 .have g:fq s=([],(dP s).2):=by unfold fq;rw[if_pos c]
  rw[g];unfold yS at aT;generalize (dP s).1=P at aT;generalize (dP s).2=E at aT c⊢;exact aai
 rw[f]at aT;dsimp only[yS,pR,cv,dZ.enc]at aT;have u:=eQ s 8;have z:=eQ s 9;have C:=di s 8;have M:=di s 10;have O:=Xu s;unfold fq;rw[if_neg (not_not_intro c)];generalize I (_z (aA s-20) (_A 20 s))=Q at aT;generalize I (_z ((ao s 2).toNat-aA s) (_A (aA s) s))=U at aT;generalize ao s 4=X at aT;generalize ao s 6%8192=Y at aT;generalize decide (ao s 6/16384=1)=Z at aT;generalize decide (ao s 6/8192%2=1)=ac at aT;by_cases h2:au s 8<2
 .rw[if_pos h2];exact aai
 rw[if_neg h2];have wz:(I s).extract 0 8=I (s.take 8):=r9;have PO:(I s).extract 12 (ao s 2).toNat=I ((s.drop 12).take ((ao s 2).toNat-12)):=fK _ _ _;have bp:=s0 s 8 G G 8 rfl;have en:=s0 s 10 G G 10 rfl;have e8:=s0 s 2 G G 2 rfl;have ma:=Ls (ao s 8-256);have nd:=Ls (ju s);have bl:_l.wrap (ao s 8)=ao s 8:=by rw[EW];omega
 have bD:_l.wrap (ao s 10)=ao s 10:=by rw[EW];omega
 have eO:_e.wrap (((au s 8:Nat):Int)-1)=(au s 8:Nat)-1:=_d _ G;have qk:_l.wrap (bits .or .i64 (_e.wrap ((((au s 8:Nat):Int)-1)*2 ^ min 8 _e.bits)) (au s 9:Nat))=ao s 8-256:=by
  have j:min 8 _e.bits=8:=rfl;rw[j,_d _ G,Kg 8 _ _ G G G G G G,EW];omega
 have tO:_e.wrap (ao s 8-256)=ao s 8-256:=_d _ G;have oQ:=L6 (ao s 10) (ao s 8) (ao s 8-256) G G G;have ae:0<=ju s/\ju s<=65535:=by exact Wr
 have oP:_e.wrap (ju s)=ju s:=_d _ G;have Sv:=oP;have Jh:=oQ;unfold f_;change Spec prog _ _ (.v (.int .u16 (ju s)))at oQ;generalize ju s=ah at *;generalize ao s 2=ai at *;generalize ao s 10=aj at *;refine az {} 0 func217 fun Γ an=>ar ?_
 exact Z9
theorem ad5(s:List UInt8)(hl:s.length<=140737488351232):Spec prog 127 [.v (.string (I s))] (n5 (fq s)):=by
 have aT:=SR s G;rcases R0 s with⟨c,f,cr,m,q⟩|c;rotate_left
 .have g:fq s=([],(dP s).2):=by unfold fq;rw[if_pos c]
  rw[g];unfold yS at aT;generalize (dP s).1=P at aT;generalize (dP s).2=E at aT c⊢;exact S5
 rw[f]at aT;dsimp only[yS,pR,cv,dZ.enc]at aT;have u:=eQ s 8;have z:=eQ s 9;have C:=di s 8;have M:=di s 10;have O:=Xu s;unfold fq;rw[if_neg (not_not_intro c)];generalize I (_z (aA s-20) (_A 20 s))=Q at aT;generalize I (_z ((ao s 2).toNat-aA s) (_A (aA s) s))=U at aT;generalize ao s 4=X at aT;generalize ao s 6%8192=Y at aT;generalize decide (ao s 6/16384=1)=Z at aT;generalize decide (ao s 6/8192%2=1)=ac at aT;by_cases h2:au s 8<2
 .rw[if_pos h2];exact S5
 rw[if_neg h2];have wz:(I s).extract 0 8=I (s.take 8):=r9;have PO:(I s).extract 12 (ao s 2).toNat=I ((s.drop 12).take ((ao s 2).toNat-12)):=fK _ _ _;have bp:=hk s 8 G G 8 rfl;have en:=hk s 10 G G 10 rfl;have e8:=hk s 2 G G 2 rfl;have ma:=iJ (ao s 8-256) G;have ae:=kc (65535-ao s 10+(65535-ao s 8)) G;have oQ:=BW (65535-ao s 10) (65535-ao s 8) G G;have Jh:=BW (ck (65535-ao s 10+(65535-ao s 8))) (ao s 8-256) G G;rw[DN _ _ G G]at Jh;have j:0<=ju s/\ju s<=65535:=by exact Wr
 have nd:=iJ (ju s) j.1;have bl:_e.wrap (ao s 8-256)=ao s 8-256:=_d _ G;have bD:_e.wrap (65535-ao s 10)=65535-ao s 10:=_d _ G;have eO:_e.wrap (65535-ao s 8)=65535-ao s 8:=_d _ G;have qk:_e.wrap (65535-ck (65535-ao s 10+(65535-ao s 8)+(ao s 8-256)))=ju s:=_d _ (by
  have:=kc (65535-ao s 10+(65535-ao s 8)+(ao s 8-256)) G;omega)
 have tO:=qk;have oP:=qk;have Sv:=qk;unfold f_;generalize ck (65535-ao s 10+(65535-ao s 8)+(ao s 8-256))=ah at *;generalize ck (65535-ao s 10+(65535-ao s 8))=ai at *;generalize ju s=aj at *;generalize ao s 2=ak at *;generalize ao s 10=am at *;refine az {} 0 func127 fun Γ an=>ar ?_
 exact Z9
end Go.Proofs.YtdiobdlinjgakaaGreatDoor.H
namespace Go.Proofs.YtdiobdlinjgakaaGreatDoor
def ld(b:bj)(a now n:Int):List aZ×Bool:=
 match b.ms.find? (fun c=>decide (c.ad=a))with
 |some f=>(b.ms.filter (fun c=>!decide (c.ad=a))++[p4 a f now n],qx f now n)
 |none=>(b.ms.drop (b.ms.length-63)++[p4 a ⟨a,b.p.ra,b.p.mo,b.p.mo,now⟩ now n],qx ⟨a,b.p.ra,b.p.mo,b.p.mo,now⟩ now n)
theorem ajm{a b c d:Int}(h:o1 a b c d=0):a=0/\b=0/\c=0/\d=0:=by
 unfold o1 at h;split at h
 .exact absurd h uV
 split at h
 .exact absurd h uV
 split at h
 .exact absurd h uV
 exact⟨ql,ql,ql,h⟩
theorem qS{b:bj}(h:iA b=0):R.eD b.p=0/\T.et b.tr=0/\pB b.n=0/\oS b=true/\eb (hx b.p.ra b.p.mo) [] b.ms=true:=by
 rw[MM]at h;obtain⟨h1,h2,f,c⟩:=ajm h;refine⟨h1,h2,f,?_⟩;unfold tT at c;split at c
 .rename_i q;rw[_k]at q;exact q
 cases c
theorem En{b:bj}(h:oS b=true):b.ms.length<=64:=by
 unfold oS at h;rw[_k,decide_eq_true_eq]at h;exact h.1
theorem uv{ra mo:Int}{l:List aZ}(f:eb (hx ra mo) [] l=true){i:Nat}{b:aZ}(g:l[i]?=some b):B.gV b.ra b.mo b.aj b.tm=0/\b.ra=ra/\b.mo=mo/\∀y∈l.take i,y.tm<=b.tm/\¬y.ad=b.ad:=by
 have h:=A9 f g;unfold hx at h;simp only[_k,decide_eq_true_eq,_G,_u,decide_eq_false_iff_not,_H]at h;exact⟨h.1,h.2.1,h.2.2.1,fun y c=>⟨by have:=(h.2.2.2 y c).1;omega,(h.2.2.2 y c).2⟩⟩
theorem Fi{ra mo:Int}{l:List aZ}(f:eb (hx ra mo) [] l=true){b:aZ}(g:b∈l):b.tm<=ix l/\0<=ix l:=by
 obtain⟨i,bF⟩:=_a.1 g;have q:=(_c.1 bF).1;obtain⟨c,b3⟩:∃c,l[l.length-1]?=some c:=⟨_,_b G⟩;have h1:ix l=c.tm:=by unfold ix;rw[b3]
 obtain⟨j,u,v,m⟩:=uv f b3;have x:=B.rq j;rw[h1];refine⟨?_,G⟩;by_cases e:i=l.length-1
 .exact MA
 exact(m b (_a.2 ⟨i,Mc⟩)).1
theorem Ac{ra mo:Int}{l:List aZ}(b:eb (hx ra mo) [] l=true):0<=ix l:=by
 cases l with
 |nil=>exact _K 0
 |cons x r=>exact(Fi b (List.mem_cons_self (a:=x) (l:=r))).2
theorem Su{r b now:Int}(h1:0<=r/\r<=1000000)(h2:1<=b/\b<=1000000000)(c:0<=now/\now<=1099511627776):B.gV r b b now=0:=by
 unfold B.gV;rw[if_neg G,if_neg G]
theorem HK{r b x a now n:Int}(h:B.gV r b x a=0)(h1:a<=now/\now<=1099511627776)(h2:0<=n/\n<=1000000000):B.j0 r b x a now n=0:=by
 unfold B.j0;rw[if_neg (not_not_intro h),if_neg G]
theorem N2{p:R.b6}(h:R.eD p=0):(0<=p.ra/\p.ra<=1000000)/\(1<=p.mo/\p.mo<=1000000000)/\R.hF p.rs=0:=by
 unfold R.eD at h;split at h
 .rename_i q;unfold R.Cj at q;simp only[_k,decide_eq_true_eq]at q;exact⟨q.2.2.2.1,q.2.2.2.2,h⟩
 cases h
theorem W3{ra mo:Int}{l:List aZ}(f:eb (hx ra mo) [] l=true){i:Nat}{b:aZ}(bF:l[i]?=some b):l.filter (fun x=>!decide (x.ad=b.ad))=l.take i++l.drop (i+1):=by
 have g:=(_c.1 bF).1;have e:l=l.take i++b::l.drop (i+1):=by conv=>lhs;rw[<-List.take_append_drop i l,List.drop_eq_getElem_cons g,show l[i]=b from _f ((_b g).symm.trans bF)]
 have h1:(l.take i).filter (fun x=>!decide (x.ad=b.ad))=l.take i:=_q.2 (fun y c=>by simp[((uv f bF).2.2.2 y c).2]);have h2:(l.drop (i+1)).filter (fun x=>!decide (x.ad=b.ad))=l.drop (i+1):=_q.2 (fun y c=>by
  obtain⟨j,m⟩:=_a.1 c;rw[List.getElem?_drop]at m;have u:b∈l.take (i+1+j):=_a.2 ⟨i,Mc⟩;have:=((uv f m).2.2.2 b u).2;simp only[_u,decide_eq_false_iff_not];exact fun q=>this q.symm)
 conv=>lhs;rw[e]
 rw[_E,h1,List.filter_cons,if_neg aF,h2]
theorem Rd(b:bj)(J:iA b=0)(f:ew)(t:List UInt8)(now:Int)(M:h4 b<=now/\now<=1099511627776)(aa:t.length<=65535)(n c:Nat):
 fi prog 218 [.ptr 0 n 23 0 0] [some ⟨n,23,[jC b (.aG 1 c 5 0 b.ms.length false) f t now]⟩,some ⟨c,5,b.ms.map aZ.enc⟩] 1 (fun q d H=>d=.v (.bool (ld b f.ax now (t.length:Nat)).2)/\H=G9 b f t now n q (ld b f.ax now (t.length:Nat)).1):=by
 obtain⟨O,-,-,Q,j⟩:=qS J;have hl:=En Q;have m:b.ms.length<=maxLen:=fg;have ab:ix b.ms<=now:=by unfold h4 at M;omega
 have ac:=Ac j;obtain⟨U,X,-⟩:=N2 O;unfold ld;rcases A.H0 (fun c:aZ=>decide (c.ad=f.ax)) b.ms with⟨g,u⟩|⟨i,x,g,u,z⟩
 .rw[u];dsimp only;have C:B.j0 b.p.ra b.p.mo b.p.mo now now (t.length:Nat)=0:=HK (Su U X G) G G;by_cases Y:b.ms.length=64
  .rw[show b.ms.length-63=1 from G];exact abl b f t now m ⟨f.ax,b.p.ra,b.p.mo,b.p.mo,now⟩ rfl rfl rfl rfl g Y C n c
  rw[show b.ms.length-63=0 from G,_I];exact ael b f t now m ⟨f.ax,b.p.ra,b.p.mo,b.p.mo,now⟩ rfl rfl rfl rfl g G C n c
 rw[z];dsimp only;have Z:=uv j g;have I:x.ad=f.ax:=by have:=_o z;simpa using this
 have ae:=Fi j (_C g);rw[<-I,W3 j g,I];exact adL b f t now m i x g u hl (HK Z.1 G G) n c
theorem X7{tm:bQ}{T:aV}{g n m len:Nat}(u:bj)(f:ew)(t:List UInt8)(now:Int)(xs:List (List O)):fP ⟨tm,some ⟨n,23,[jC u (.aG 1 m 5 0 len false) f t now]⟩::some ⟨m,5,xs⟩::T,g⟩ ⟨tm,some ⟨n,23,[jC u (.aG 4 g 5 0 len false) f t now]⟩::some ⟨g,5,xs⟩::T,g+1⟩:=by
 refine T9 (st:=⟨tm,some ⟨n,23,[jC u (.aG 1 m 5 0 len false) f t now]⟩::some ⟨m,5,xs⟩::T,g⟩) (fun _=>m) 1 (fun k p b=>?_);match k,b with
 |0,b=>
  obtain rfl:=_f b;refine⟨_,rfl,.inr ⟨.inl rfl,_v _,rfl,rfl,fun i y c=>?_⟩⟩;match i,c with
  |0,c=>
   obtain rfl:=_f c;refine⟨_,rfl,rfl,fun j e bu=>?_⟩;by_cases v:j=8
   .subst v;obtain rfl:=_f bu;exact⟨_,rfl,.inr ⟨0,1,4,5,0,len,false,_y,rfl,rfl⟩⟩
   have x:jC u (.aG 4 g 5 0 len false) f t now=(jC u (.aG 1 m 5 0 len false) f t now).set 8 (.aG 4 g 5 0 len false):=rfl;rw[x,List.getElem?_set_ne (fun q=>v q.symm)]at bu;exact te
  |i+1,c=>simp at c
 |1,b=>
  obtain rfl:=_f b;exact⟨_,rfl,.inr ⟨.inr ⟨0,_y,rfl,rfl⟩,_v _,rfl,rfl,fun i y c=>⟨y,c,rfl,fun j e bu=>⟨e,bu,.inl rfl⟩⟩⟩⟩
 |k+2,b=>exact⟨p,b,.inl rfl⟩
def h5(b:bj)(f:Bool)(s:List UInt8)(now:Int):bj×ew×List UInt8×List UInt8×Int:=
 if(bC s).2≠0 then(b,(bC s).1,[],[],1)
 else if f=false/\(bC s).1.to≠b.p.ou then(b,(bC s).1,[],[],4)
 else if(H.fq s).2≠0 then(b,(bC s).1,(H.fq s).1,[],2)
 else
  let c:=ld b (bC s).1.ax now ((H.fq s).1.length:Nat)
  if c.2=false then({b with ms:=c.1},(bC s).1,(H.fq s).1,[],3)
  else if f then
   let r:=oC b (bC s).1 (H.fq s).1 now
   ({b with ms:=c.1,tr:=r.1,n:=r.2.1},(bC s).1,(H.fq s).1,r.2.2.1,r.2.2.2)
  else
   let r:=rU b (bC s).1 (H.fq s).1 now
   ({b with ms:=c.1,tr:=r.1},(bC s).1,(H.fq s).1,r.2.1,r.2.2)
abbrev adk(r:bj×ew×List UInt8×List UInt8×Int)(now:Int)(n q:Nat):aV:=[some ⟨n,23,[jC r.1 (.aG 4 q 5 0 r.1.ms.length false) r.2.1 r.2.2.1 now]⟩,none,some ⟨q,5,r.1.ms.map aZ.enc⟩]
theorem DI{s:List UInt8}(h:(bC s).2=0):LO (bC s).1:=by
 unfold bC at h⊢;split at h
 .rename_i h1;rw[if_pos h1];have ah:0<=(cv s).ax/\(cv s).ax<4294967296:=nN _ _;have ai:0<=(cv s).to/\(cv s).to<4294967296:=nN _ _;unfold jA at h⊢;generalize cv s=p at *;split at h
  .cases h
  rename_i h2;rw[if_neg h2];split at h
  .cases h
  rename_i f;rw[if_neg f];split at h
  .rename_i c;rw[if_pos c];split at h
   .rename_i b;rw[if_pos b];exact⟨.inl rfl,ah,ai⟩
   rename_i b;exact absurd h b
  rename_i c;rw[if_neg c];split at h
  .rename_i b;rw[if_pos b];exact⟨.inr rfl,ah,ai⟩
  rename_i b;exact absurd h b
 rename_i h1;exact absurd h h1
attribute [local irreducible] bc Go
theorem IF(n:iD)(h:n.wf)(pr out now:Int):0<=(iv n pr out now).1/\(iv n pr out now).1<4294967296:=by
 have b:(0:Int)<=0/\(0:Int)<4294967296:=ae;unfold iv A.ta;split
 .exact b
 split
 .exact b
 split
 .exact b
 unfold A.jS;split
 .rename_i c f;exact h.ad c (_i f)
 exact b
theorem Z_{s:List UInt8}(h:(H.fq s).2=0):(H.fq s).1.length<=65535:=by
 have c:=di s 2;unfold H.fq at h⊢;split at h
 .rename_i q;exact absurd h q
 rename_i q;rw[if_neg q];split at h
 .cases h
 rename_i b;rw[if_neg b];show(H.f_ s).length<=65535;unfold H.f_;simp only[List.length_append,List.length_take,_F,a1,List.length_cons,List.length_nil];omega
theorem acU(aC:bj)(c:aC.wf)(z:iA aC=0)(g:Bool)(s:List UInt8)(aj:s.length<=140737488351232)(now:Int)(C:h4 aC<=now/\now<=1099511627776)(n aq:Nat):
 fi prog 162 [.ptr 0 n 23 0 0,.v (.bool g),.v (.string (I s))] [some ⟨n,23,[jC aC (.aG 1 aq 5 0 aC.ms.length false) hA [] now]⟩,some ⟨aq,5,aC.ms.map aZ.enc⟩] 1 (fun q d H=>d=.aS [.v (.string (I (h5 aC g s now).2.2.2.1)),.v (.int .i64 (h5 aC g s now).2.2.2.2)]/\H=adk (h5 aC g s now) now n q):=by
 have bu:=Dh s aj;have eY:=H.afp s aj;have G:=DI (s:=s);have sY:=Z_ (s:=s);unfold h5;generalize bC s=E at *;obtain⟨f,e⟩:=E;generalize H.fq s=O at *;obtain⟨t,M⟩:=O;dsimp only at *;obtain⟨ax,to,bx,bZ,b2⟩:=f;dsimp only at *;by_cases h1:e=0;rotate_left
 .rw[if_pos h1];exact PM
 subst h1;rw[if_neg (not_not_intro rfl)];cases g with
 |false=>
  by_cases h2:to=aC.p.ou;rotate_left
  .rw[if_pos ⟨rfl,h2⟩];exact PM
  rw[if_neg (fun q=>q.2 h2)];by_cases bI:M=0;rotate_left
  .exact Ux
  subst bI;rw[if_neg (not_not_intro rfl)];have h3:=Rd aC z ⟨ax,to,bx,bZ,b2⟩ t now C (sY rfl) n aq;have j:t.length<=140737488351232:=yh;have m:=G rfl;dsimp only at h3⊢;generalize ld aC ax now (t.length:Nat)=ey at *;obtain⟨l,ok⟩:=ey;dsimp only at h3⊢;have sy:=QK aC c l ⟨ax,to,bx,bZ,b2⟩ m t j now 4 n;have ib:=ZL aC c l ⟨ax,to,bx,bZ,b2⟩ m t j now (IF aC.n c.n _ _ _) 4 n;generalize oC aC ⟨ax,to,bx,bZ,b2⟩ t now=u at *;generalize rU aC ⟨ax,to,bx,bZ,b2⟩ t now=x at *;obtain⟨Q,U,X,Y⟩:=u;obtain⟨bl,bD,eO⟩:=x;dsimp only at sy ib⊢;cases ok with
  |false=>
   rw[if_pos rfl];exact Fg
  |true=>
   rw[if_neg ae,if_neg ae];exact Fg
 |true=>
  rw[if_neg (fun q=>Bool.noConfusion q.1)];by_cases bI:M=0;rotate_left
  .exact Ux
  subst bI;rw[if_neg (not_not_intro rfl)];have h3:=Rd aC z ⟨ax,to,bx,bZ,b2⟩ t now C (sY rfl) n aq;have j:t.length<=140737488351232:=yh;have m:=G rfl;dsimp only at h3⊢;generalize ld aC ax now (t.length:Nat)=ey at *;obtain⟨l,ok⟩:=ey;dsimp only at h3⊢;have sy:=QK aC c l ⟨ax,to,bx,bZ,b2⟩ m t j now 4 n;have ib:=ZL aC c l ⟨ax,to,bx,bZ,b2⟩ m t j now (IF aC.n c.n _ _ _) 4 n;generalize oC aC ⟨ax,to,bx,bZ,b2⟩ t now=u at *;generalize rU aC ⟨ax,to,bx,bZ,b2⟩ t now=x at *;obtain⟨Q,U,X,Y⟩:=u;obtain⟨bl,bD,eO⟩:=x;dsimp only at sy ib⊢;cases ok with
  |false=>
   rw[if_pos rfl];exact Fg
  |true=>
   rw[if_neg ae,if_pos ae];exact Fg
theorem UL(l:List aZ)(b q:Nat):gE ⟨q,5,l.map aZ.enc⟩ (.aG b q 5 0 l.length false) (om l):=.inl ⟨rfl,rfl,aF,kP⟩
theorem acI(b:bj)(l:List aZ)(c q:Nat):kN ⟨q,5,l.map aZ.enc⟩ [b.row (.aG c q 5 0 l.length false)] [b.row (om l)]:=⟨⟨rfl,rfl,rfl,rfl,rfl,rfl,rfl,rfl,UL l c q,rfl,rfl,rfl,rfl,rfl,rfl,rfl,rfl⟩,rfl⟩
theorem agd(b:bj)(f:ew)(t:List UInt8)(now:Int)(l:List aZ)(c q:Nat):kN ⟨q,5,l.map aZ.enc⟩ [jC b (.aG c q 5 0 l.length false) f t now] [jC b (om l) f t now]:=⟨⟨rfl,rfl,rfl,rfl,rfl,rfl,rfl,rfl,UL l c q,rfl,rfl,rfl,rfl,rfl,rfl,rfl,rfl,rfl,rfl,rfl,rfl,rfl,rfl,rfl⟩,rfl⟩
theorem EF(s:bK){Γ:bw}{P:Program}{N:Nat}{R:bb->Prop}{o:sW}{g:Option (bK×Bool)}{l:List cP}{k:List jR}{st:bb}(h:Go Γ P N R (.region (⟨some s,o,g⟩::l)) k st):Go Γ P N R (.region (⟨some s,o,g⟩::l)) k st:=h
def cb(b:bj)(c:Bool)(s:List UInt8)(now:Int):bj×List UInt8×Int×Int:=
 if iA b≠0 then(b,[],0,iA b)else if now<h4 b\/1099511627776<now then(b,[],0,1)
 else((h5 b c s now).1,(h5 b c s now).2.2.2.1,(h5 b c s now).2.2.2.2,0)
abbrev agc(r:bj×List UInt8×Int×Int):O:=.aS [fZ r.1,.v (.string (I r.2.1)),.v (.int .i64 r.2.2.1),.v (.int .i64 r.2.2.2)]
theorem tU(g:Nat)(b:bj):eV g (b.row (om b.ms)):=⟨trivial,trivial,trivial,trivial,trivial,trivial,u2 _ _,trivial,px _ _,Bn _ _,trivial,trivial,trivial,trivial,trivial,A.kl _ _,trivial⟩
theorem E9(aC:bj)(j:aC.wf)(m:Bool)(s:List UInt8)(aj:s.length<=140737488351232)(now:Int):Spec prog 103 [fZ aC,.v (.bool m),.v (.string (I s)),.v (.int .i64 now)] (agc (cb aC m s now)):=by
 have Xn:=akL aC j;have fe:=aew aC j;have z:=fun g=>tU g aC
 unfold cb;by_cases c:iA aC=0;rotate_left
 .rw[if_pos c];generalize iA aC=e at *;have Jv:True:=trivial;exact PE
 rw[if_neg (not_not_intro c)];have Jv:=akI aC j (Ac (qS c).2.2.2.2);rw[c]at fe;by_cases q:now<h4 aC\/1099511627776<now
 .rw[if_pos q];clear c;generalize h4 aC=L at *;exact PE
 rw[if_neg q];have u:=acU aC j c m s aj now G;generalize h4 aC=L at *;generalize h5 aC m s now=r at *;obtain⟨v,f,t,o,y⟩:=r;dsimp only at u⊢;have C:=fun g=>tU g v
 refine az {} 0 func103 fun Γ an=>ar ?_
 repeat' first|(with_reducible refine EF ⟨.d0,.d5,.d2⟩ ?_);(refine dv (j_ an 2 11 ae (ys:=[jC v (om v.ms) f t now]) rfl rfl (agd v f t now v.ms 4 _)) ?_)|refine af ?_|(with_reducible refine aL 159 ?_);(refine gb [] [10] [10] rfl ae rfl rfl Xn ?_)|(with_reducible refine aL 160 ?_);(refine aX [10] ae rfl rfl (AJ rfl fe 1 _) ?_)|(with_reducible refine aL 161 ?_);(refine aX [10] ae rfl rfl (AJ rfl Jv 1 _) ?_)|(with_reducible refine aL 162 ?_);(refine gb [2,10] [11] [2,10,11] rfl ae rfl rfl (Z5 2 (u _ _)) ?_)|refine ag ?_|refine ab ?_ ?_<;>intro h<;>try exact aa|exact al|fail
 all_goals try (exfalso;simp_all;done)
 all_goals exact b0
def kR(l:List Int)(a:Int):Int:=l.foldl max a
theorem KI{α:Type}(f:α->Int)(l:List α)(k:Nat)(t:α)(h:l[k]?=some t)(a:Int):kR ((l.take (k+1)).map f) a=max (kR ((l.take k).map f) a) (f t):=by
 rw[_s,h];simp[kR]
theorem CL:∀(l:List Int)(a b:Int),(∀x∈l,x<=b)->(b∈l\/b<=a)->kR l a=max a b
 |[],a,b,_,h=>by
  rcases h with h|h
  .cases h
  show a=max a b;omega
 |x::r,a,b,h1,h2=>by
  show kR r (max a x)=max a b;have g:=h1 x aF;by_cases c:b∈r
  .rw[CL r (max a x) b (fun y bB=>h1 y u7) (.inl c)];omega
  have f:b<=max a x:=by
   rcases h2 with h2|h2
   .rcases List.mem_cons.1 h2 with h2|h2
    .omega
    exact absurd h2 c
   omega
  rw[CL r (max a x) b (fun y bB=>h1 y u7) (.inr f)];omega
theorem aix{l:List T.aE}(c:T.gM [] l=true):∀t∈l,t.x<=T.fV l:=by
 intro t f;obtain⟨i,bF⟩:=_a.1 f;have g:=(_c.1 bF).1;obtain⟨b,b3⟩:∃b,l[l.length-1]?=some b:=⟨_,_b G⟩;rw[T.tZ l (l.length-1) b b3 G];by_cases e:i=l.length-1
 .exact MA
 have h:=T.Gq c b3;unfold T.ke at h;simp only[_k,_G,_u,decide_eq_false_iff_not,_H]at h;have:=(h.2 t (_a.2 ⟨i,Mc⟩)).1;omega
theorem aiJ{ah ai:Int}{ms:List A.Mp}(f:A.kE ah ai ms):∀g∈ms,g.tm<=A.dh ms:=by
 intro t j;obtain⟨i,bF⟩:=_a.1 j;have c:=(_c.1 bF).1;obtain⟨b,b3⟩:∃b,ms[ms.length-1]?=some b:=⟨_,_b G⟩;have m:A.dh ms=b.tm:=by unfold A.dh;rw[b3]
 rw[m];by_cases e:i=ms.length-1
 .exact MA
 have h:=List.pairwise_iff_getElem.1 f.ir i (ms.length-1) c G G;rw[show ms[i]=t from _f ((_b c).symm.trans bF),show ms[ms.length-1]=b from _f ((_b G).symm.trans b3)]at h;unfold A.mR at h;rw[decide_eq_false_iff_not]at h;omega
theorem Ir{α:Type}(f:α->Int){l:List α}{b:Int}(h:∀t,l[l.length-1]?=some t->f t=b)(g:l=[]->b=0):b∈l.map f\/b<=0:=by
 cases l with
 |nil=>exact .inr (by rw[g rfl];exact Bt)
 |cons x r=>
  obtain⟨t,c⟩:∃t,(x::r)[(x::r).length-1]?=some t:=⟨_,_b aF⟩;exact .inl (_t.2 ⟨t,_C c,h t c⟩)
theorem ab6(b:bj)(j:b.wf)(J:iA b=0):Spec prog 74 [fZ b] (.v (.int .i64 (h4 b))):=by
 obtain⟨-,f,M,-,I⟩:=qS J;have ac:=j.ms.1;have ae:=j.tr.1;have ah:=j.n.ey.1;unfold maxLen at ac ae ah;have O:kR (b.ms.map (·.tm)) 0=max 0 (ix b.ms):=CL _ _ _ (fun x m=>by obtain⟨C,u,rfl⟩:=_t.1 m;exact(Fi I u).1) (Ir _ (fun t h=>by unfold ix;rw[h]) (fun q=>by rw[q];rfl));have Q:kR (b.tr.map (·.x)) (max 0 (ix b.ms))=max (max 0 (ix b.ms)) (T.fV b.tr):=CL _ _ _ (fun x m=>by obtain⟨C,u,rfl⟩:=_t.1 m;exact aix (T.gX f).2 C u) ((Ir _ (fun t h=>(T.tZ _ _ _ h (by have:=(_c.1 h).1;omega)).symm) (fun q=>by rw[q];rfl)).imp id (fun q=>G));have U:kR (b.n.ms.map (·.tm)) (max (max 0 (ix b.ms)) (T.fV b.tr))=max (max (max 0 (ix b.ms)) (T.fV b.tr)) (A.dh b.n.ms):=CL _ _ _ (fun x m=>by obtain⟨C,u,rfl⟩:=_t.1 m;exact aiJ (A.oU j.n.t1 j.n.t2 M).2.2.1 C u) ((Ir _ (fun t h=>by unfold A.dh;rw[h]) (fun q=>by rw[q];rfl)).imp id (fun q=>G));have X:h4 b=max (max (max 0 (ix b.ms)) (T.fV b.tr)) (A.dh b.n.ms):=by
  have:=Ac I;unfold h4;omega
 rw[X,<-U,<-Q,<-O];clear O Q U X J M f I;refine az {} 0 func74 fun Γ an=>ar ?_
 repeat' first|refine af ?_|refine ag ?_|refine ab ?_ ?_<;>intro h<;>try exact aa|exact al|fail
 refine bS (α:=Nat×Nat) (fun x=>[(⟨.d0,.d1,.d5⟩,.v (.int .i64 (x.1:Nat))),(⟨.d0,.d0,.d3⟩,.v (.int .i64 (kR ((b.ms.take x.1).map (·.tm)) 0)))]) (fun _=>[(1,none)]) (fun x=>x.2) (fun x=>b.ms.length-x.1) (fun x=>x.1<=b.ms.length) (0,Γ.g0+1) (_w _) ?_ ?_
 .exact bs
 rintro⟨k,Y⟩ g;dsimp only at g⊢;refine bz ?_;by_cases c:k<b.ms.length
 .obtain⟨t,f⟩:∃t,b.ms[k]?=some t:=⟨_,_b c⟩;have z:=h7 aZ.enc b.ms k t f;have aj:=KI (·.tm) b.ms k t f 0;repeat' first|refine af ?_|refine ag ?_|refine ab ?_ ?_<;>intro h<;>try exact aa|simp only[_h,z]|exact al|fail
  refine br ⟨(k+1,Y+1),c,_j c (_g k),?_⟩;exact IC
 obtain rfl:k=b.ms.length:=G;rw[_m];clear g c;repeat' first|refine af ?_|refine ag ?_|refine ab ?_ ?_<;>intro h<;>try exact aa|exact al|fail
 refine bS (α:=Nat×Nat) (fun x=>[(⟨.d0,.d3,.d2⟩,.v (.int .i64 (x.1:Nat))),(⟨.d0,.d0,.d3⟩,.v (.int .i64 (kR ((b.tr.take x.1).map (·.x)) (kR (b.ms.map (·.tm)) 0))))]) (fun _=>[(2,none)]) (fun x=>x.2) (fun x=>b.tr.length-x.1) (fun x=>x.1<=b.tr.length) (0,Y) (_w _) ?_ ?_
 .exact bs
 rintro⟨k,Z⟩ g;dsimp only at g⊢;refine bz ?_;by_cases c:k<b.tr.length
 .obtain⟨t,f⟩:∃t,b.tr[k]?=some t:=⟨_,_b c⟩;have z:=h7 T.aE.enc b.tr k t f;have aj:=KI (·.x) b.tr k t f (kR (b.ms.map (·.tm)) 0);repeat' first|refine af ?_|refine ag ?_|refine ab ?_ ?_<;>intro h<;>try exact aa|simp only[_h,z]|exact al|fail
  refine br ⟨(k+1,Z+1),c,_j c (_g k),?_⟩;exact IC
 obtain rfl:k=b.tr.length:=G;rw[_m];clear g c;repeat' first|refine af ?_|refine ag ?_|refine ab ?_ ?_<;>intro h<;>try exact aa|exact al|fail
 refine bS (α:=Nat×Nat) (fun x=>[(⟨.d0,.d4,.d7⟩,.v (.int .i64 (x.1:Nat))),(⟨.d0,.d0,.d3⟩,.v (.int .i64 (kR ((b.n.ms.take x.1).map (·.tm)) (kR (b.tr.map (·.x)) (kR (b.ms.map (·.tm)) 0)))))]) (fun _=>[(3,none)]) (fun x=>x.2) (fun x=>b.n.ms.length-x.1) (fun x=>x.1<=b.n.ms.length) (0,Z) (_w _) ?_ ?_
 .exact bs
 rintro⟨k,ai⟩ g;dsimp only at g⊢;refine bz ?_;by_cases c:k<b.n.ms.length
 .obtain⟨t,f⟩:∃t,b.n.ms[k]?=some t:=⟨_,_b c⟩;have z:=h7 A.Mp.enc b.n.ms k t f;have aj:=KI (·.tm) b.n.ms k t f (kR (b.tr.map (·.x)) (kR (b.ms.map (·.tm)) 0));repeat' first|refine af ?_|refine ag ?_|refine ab ?_ ?_<;>intro h<;>try exact aa|simp only[_h,z]|exact al|fail
  refine br ⟨(k+1,ai+1),c,_j c (_g k),?_⟩;exact IC
 obtain rfl:k=b.n.ms.length:=G;rw[_m];clear g c;exact o3
end Go.Proofs.YtdiobdlinjgakaaGreatDoor
namespace Go.Proofs.YtdiobdlinjgakaaGreatDoor.T
attribute [local irreducible] bc Go
theorem FA(l:List aE)(a b c d aM now:Int):Spec prog 183 [.snap 7 (l.map aE.enc) false,gz a b c d,.v (.int .i64 aM),.v (.int .i64 now)] (ec (qz l a b c d aM now)):=
 L4 (Q:=fun r=>Spec prog 183 [.snap 7 (l.map aE.enc) false,gz a b c d,.v (.int .i64 aM),.v (.int .i64 now)] (ec r)) (fun h=>ak7 l a b c d aM now h) (fun h z=>aba l a b c d aM now h z)
  (fun f g j u h1 h2 m q=>ahT l a b c d aM now h1 h2 f g j u m q) (fun f g j u i t h1 h2 m q x=>by
    cases u with
    |true=>exact alR l a b c d aM now h1 h2 f g j m i t q x
    |false=>exact ai_ l a b c d aM now h1 h2 f g j m i t q x)
theorem abk(t:aE)(g:t.form=true)(a b c d now:Int)(j:0<=now/\now<=1099511627776):Spec prog 181 [.agg t.enc,.bY [.v (.int .u32 a),.v (.int .u32 b),.v (.int .i64 c),.v (.int .i64 d)],.bY [.v (.int .i64 now)]] (.v (.bool (t.along a b c d && !t.cn now))):=by
 have f:=tK g;have h1:=MB t.a t.b t.c t.d t.s t.o t.x a b c d;have h2:=RM t.a t.b t.c t.d t.s t.o t.x now f.1 f.2 j;unfold aE.along aE.cn;generalize qL t.a t.b t.c t.d a b c d=A at *;refine az {} 0 func181 fun Γ an=>ar ?_
 repeat' first|refine af ?_|refine J h1 ?_|refine J h2 ?_|refine ag ?_|refine ab ?_ ?_<;>intro h<;>try exact aa|exact al|fail
 all_goals exact SY
theorem alh{α:Type}(p:α->Bool)(l:List α):decide (0<=bU p l 0)=l.any p:=by
 rcases oz p l 0 with⟨h1,h2⟩|⟨i,t,h1,h2,c,fr⟩
 .rw[h1,List.any_eq_false.2 (fun x b=>by simp[h2 x b])];rfl
 exact XW
theorem ado{g:FuncId}{caps:List O}(p:aE->Bool)(l:List aE)(c:Bool)(hl:l.length<=maxLen)(j:∀t∈l,Spec prog g (.agg (aE.enc t)::caps) (.v (.bool (p t)))):Spec prog 180 [.snap 7 (l.map aE.enc) c,.fn (.func g) [] caps] (.v (.bool (l.any p))):=by
 have h1:=RE (g:=g) (caps:=caps) p l c hl j;have h2:=alh p l;generalize l.any p=B at *;generalize bU p l 0=f at *;refine az {} 0 func180 fun Γ an=>ar ?_
 repeat' first|refine af ?_|refine J h1 ?_|refine ag ?_|refine ab ?_ ?_<;>intro h<;>try exact aa|exact al|fail
 all_goals(refine cI ?_;first|exact cc|try simp only[cE]at *)
 all_goals exact fA h2
end Go.Proofs.YtdiobdlinjgakaaGreatDoor.T
namespace Go.Proofs.YtdiobdlinjgakaaGreatDoor
attribute [local irreducible] bc Go
theorem Um(f:bj)(m:T.et f.tr=0)(a b c d now:Int)(q:0<=now/\now<=1099511627776):Spec prog 130 [fZ f,T.gz a b c d,.v (.int .i64 now)] (.v (.bool (T.iz f.tr a b c d now))):=by
 have g:=T.gX m;have u:T.iz f.tr a b c d now=f.tr.any (fun t=>t.along a b c d && !t.cn now):=by
  have:T.pF f.tr now=0:=by have:=T.IH f.tr now;omega
  unfold T.iz;rw[decide_eq_true this,Bool.true_and]
 have j:=T.ado (g:=181) (caps:=[.bY [.v (.int .u32 a),.v (.int .u32 b),.v (.int .i64 c),.v (.int .i64 d)],.bY [.v (.int .i64 now)]]) (fun t=>t.along a b c d && !t.cn now) f.tr false (by have:=g.1;unfold maxLen;omega) (fun t z=>T.abk t (T.qu g.2 z) a b c d now q);rw[<-u]at j;generalize T.iz f.tr a b c d now=K at *;refine az {} 0 func130 fun Γ an=>ar ?_
 repeat' first|(with_reducible refine EF ⟨.d0,.d0,.d7⟩ ?_);(refine dv (hn an ⟨.d0,.d0,.d4⟩ rfl rfl ⟨rfl,rfl,_v _⟩) ?_)|(with_reducible refine EF ⟨.d0,.d0,.d7⟩ ?_);(refine dv (hn an ⟨.d0,.d0,.d5⟩ rfl rfl ⟨rfl,rfl,_v _⟩) ?_)|refine af ?_|refine J j ?_|refine ag ?_|refine ab ?_ ?_<;>intro h<;>try exact aa|exact al|fail
 all_goals exact bM
def yr(c K:Bool)(b:bj)(tk:List T.aE×Bool):bj×Bool:=if c=true/\K=false then(b,false)else({b with tr:=tk.1},tk.2)
theorem FA(f:bj)(q:T.et f.tr=0)(a b c d aM now:Int)(u:0<=now/\now<=1099511627776)(j:Bool):Spec prog 131 [fZ f,T.gz a b c d,.v (.int .i64 aM),.v (.int .i64 now),.v (.bool j)] (.aS [fZ (yr j (T.iz f.tr a b c d now) f (ll f.tr a b c d aM now)).1,.v (.bool (yr j (T.iz f.tr a b c d now) f (ll f.tr a b c d aM now)).2)]):=by
 have h1:=Um f q a b c d now u;have h2:=T.FA f.tr a b c d aM now;generalize T.iz f.tr a b c d now=K at *;unfold ll;generalize T.qz f.tr a b c d aM now=R at *;obtain⟨aw,aY,z⟩:=R;dsimp only at *;have G:=fun g=>tU g f
 have C:=fun g=>tU g {f with tr:=aw}
 dsimp only at C;by_cases m:z=0
 .subst m;rw[if_pos rfl];cases j<;>cases K
  all_goals unfold yr
  all_goals dsimp only
  all_goals first|rw[if_pos ⟨rfl,rfl⟩]|rw[if_neg ae]
  all_goals
   refine az {} 0 func131 fun Γ an=>ar ?_
   exact K_
 rw[if_neg m];cases j<;>cases K
 all_goals unfold yr
 all_goals dsimp only
 all_goals first|rw[if_pos ⟨rfl,rfl⟩]|rw[if_neg ae]
 all_goals
  refine az {} 0 func131 fun Γ an=>ar ?_
  repeat' first|refine af ?_|refine J h1 ?_|refine J h2 ?_|refine ag ?_|refine ab ?_ ?_<;>intro h<;>try exact aa|exact al|fail
  all_goals try (exfalso;simp_all;done)
  all_goals exact bM
def ei(l:List aZ)(a:Int)(d:aZ):aZ:=(l.reverse.find? (fun b=>decide (b.ad=a))).getD d
theorem abp(l:List aZ)(k:Nat)(t:aZ)(h:l[k]?=some t)(a:Int)(d:aZ):ei (l.take (k+1)) a d=if t.ad=a then t else ei (l.take k) a d:=by
 unfold ei;rw[_s,h];simp only[Option.toList_some,List.reverse_append,List.reverse_singleton,List.singleton_append,List.find?_cons];by_cases q:t.ad=a
 .simp[q]
 simp[q]
theorem agQ{ra mo:Int}{l:List aZ}(f:eb (hx ra mo) [] l=true){x y:aZ}(g:x∈l)(m:y∈l)(h:x.ad=y.ad):x=y:=by
 obtain⟨i,b⟩:=_a.1 g;obtain⟨j,c⟩:=_a.1 m;rcases Nat.lt_trichotomy i j with q|q|q
 .exact absurd h ((uv f c).2.2.2 x (_a.2 ⟨i,by rw[_D,if_pos q];exact b⟩)).2
 .rw[q,c]at b;exact(_f b).symm
 exact absurd h.symm ((uv f b).2.2.2 y (_a.2 ⟨j,by rw[_D,if_pos q];exact c⟩)).2
theorem akW(l:List aZ)(k:Nat)(t:aZ)(h:l[k]?=some t)(a:Int):(l.take (k+1)).filter (fun b=>!decide (b.ad=a))=if t.ad=a then(l.take k).filter (fun b=>!decide (b.ad=a))else(l.take k).filter (fun b=>!decide (b.ad=a))++[t]:=by
 rw[_s,h,_E];by_cases q:t.ad=a
 .simp[q]
 simp[q]
abbrev lI(l:List aZ)(a:Int):List aZ:=l.filter (fun b=>!decide (b.ad=a))
abbrev e_(b:bj)(a now:Int):aZ:=⟨a,b.p.ra,b.p.mo,b.p.mo,now⟩
theorem aem{b:bj}(I:iA b=0)(a now n:Int):ld b a now n=((lI b.ms a).drop ((lI b.ms a).length-63)++[p4 a (ei b.ms a (e_ b a now)) now n],qx (ei b.ms a (e_ b a now)) now n):=by
 obtain⟨Q,-,-,J,u⟩:=qS I;have hl:=En J;unfold ld ei;cases j:b.ms.find? (fun c=>decide (c.ad=a))with
 |none=>
  have v:=_r.1 j;rw[_r.2 (fun x m=>v x (_n.1 m))];rw[show lI b.ms a=b.ms from _q.2 (fun x m=>by have:=v x m;simpa using this)];rfl
 |some M=>
  have q:=_i j;have f:=_o j;obtain⟨g,h1⟩:∃g,b.ms.reverse.find? (fun c=>decide (c.ad=a))=some g:=by
   cases h:b.ms.reverse.find? (fun c=>decide (c.ad=a))with
   |some g=>exact⟨g,rfl⟩
   |none=>exact absurd f (_r.1 h M (_n.2 q))
  have O:=_n.1 (_i h1);have z:=_o h1;simp only[decide_eq_true_eq]at f z;obtain rfl:=agQ u q O (f.trans z.symm);rw[h1];obtain⟨i,C⟩:=_a.1 q;have U:(lI b.ms a).length<=63:=by
   have X:=(_c.1 C).1;unfold lI;rw[<-f,W3 u C];simp;omega
  rw[show(lI b.ms a).length-63=0 from G,_I];rfl
theorem aeL{l:List aZ}{a:Int}{d:aZ}:(ei l a d∈l/\(ei l a d).ad=a)\/ei l a d=d:=by
 unfold ei;cases h:l.reverse.find? (fun b=>decide (b.ad=a))with
 |none=>exact .inr rfl
 |some b=>exact .inl ⟨_n.1 (_i h),by have:=_o h;simpa using this⟩
theorem VT(c:bj)(aO:c.wf)(I:iA c=0)(a now:Int)(n:Int)(X:h4 c<=now/\now<=1099511627776)(aA:0<=n/\n<=1000000000):Spec prog 128 [fZ c,.v (.int .u32 a),.v (.int .i64 n),.v (.int .i64 now)] (.aS [om (ld c a now n).1,.v (.bool (ld c a now n).2)]):=by
 rw[aem I];obtain⟨Y,-,-,Z,q⟩:=qS I;have hl:=En Z;have ap:ix c.ms<=now:=by unfold h4 at X;omega
 have aq:=Ac q;obtain⟨ac,ae,-⟩:=N2 Y;have au:B.gV (ei c.ms a (e_ c a now)).ra (ei c.ms a (e_ c a now)).mo (ei c.ms a (e_ c a now)).aj (ei c.ms a (e_ c a now)).tm=0/\(ei c.ms a (e_ c a now)).tm<=now/\(ei c.ms a (e_ c a now)).ad=a:=by
  rcases aeL (l:=c.ms) (a:=a) (d:=e_ c a now)with⟨h1,h2⟩|h1
  .obtain⟨i,av⟩:=_a.1 h1;exact⟨(uv q av).1,by have:=(Fi q h1).1;omega,h2⟩
  rw[h1];exact⟨Su ac ae (show 0<=now/\now<=1099511627776 from G),_K _,rfl⟩
 obtain⟨ah,ai,aw⟩:=au;have M:=HK (n:=n) ah ⟨ai,X.2⟩ aA;have aP:(lI c.ms a).length<=64:=_J (_B _ _) hl;have O:=B.agl (ei c.ms a (e_ c a now)).ra (ei c.ms a (e_ c a now)).mo (ei c.ms a (e_ c a now)).aj (ei c.ms a (e_ c a now)).tm now n;unfold p4 qx;clear I Y Z q aq ac ae ah ai ap;refine az {} 0 func128 fun Γ an=>ar ?_
 repeat' first|refine af ?_|refine ag ?_|refine ab ?_ ?_<;>intro h<;>try exact aa|fail
 refine dv (j1 (gU ⟨.d0,.d1,.d2⟩ 4 5 rfl rfl)) ?_;refine bS (α:=Nat×Nat×Nat) (fun x=>[(⟨.d0,.d3,.d7⟩,.v (.int .i64 (x.1:Nat))),(⟨.d0,.d1,.d2⟩,.aG 4 x.2.1 5 0 (lI (c.ms.take x.1) a).length false)]) (fun x=>[(1,some ⟨Γ.g0+1,5,[(ei (c.ms.take x.1) a (e_ c a now)).enc]⟩),(2,none),(3,none),(4,some ⟨x.2.1,5,(lI (c.ms.take x.1) a).map aZ.enc⟩)]) (fun x=>x.2.2) (fun x=>c.ms.length-x.1) (fun x=>x.1<=c.ms.length/\x.2.1<x.2.2) (0,Γ.g0+2,Γ.g0+3) ⟨_w _,_g _⟩ ?_ ?_
 .exact bs
 rintro⟨k,ax,g⟩ ⟨aC,ak⟩;dsimp only at aC ak⊢;refine bz ?_;by_cases j:k<c.ms.length
 .obtain⟨t,Q⟩:∃t,c.ms[k]?=some t:=⟨_,_b j⟩;have am:=vs Q;have u:=abp c.ms k t Q a (e_ c a now);have z:lI (c.ms.take (k+1)) a=if t.ad=a then lI (c.ms.take k) a else lI (c.ms.take k) a++[t]:=akW c.ms k t Q a
  have aQ:(lI (c.ms.take k) a).length<=64:=_J (_B _ _) kF;have ao:_e.wrap ((k:Int)+1)=((k+1:Nat):Int):=(_d _ G).trans G;by_cases ay:t.ad=a
  .rw[if_pos ay]at u z;repeat' first|refine af ?_|refine ag ?_|refine ab ?_ ?_<;>intro h<;>try exact aa|simp only[_h,am]|exact al|fail
   all_goals try (exfalso;simp_all;done)
   refine br ⟨(k+1,ax,g+1),⟨j,Nat.lt_succ_of_lt ak⟩,_j j (_g k),?_⟩;dsimp only;rw[u,z,ao];exact bs
  rw[if_neg ay]at u z;generalize lI (c.ms.take k) a=f at *;have C:f.map aZ.enc++[t.enc]=(f++[t]).map aZ.enc:=nu;have aD:(f.map aZ.enc).length+1=(f++[t]).length:=aF;repeat' first|refine af ?_|refine ag ?_|refine ab ?_ ?_<;>intro h<;>try exact aa|simp only[_h,am]|exact al|fail
  all_goals try (exfalso;simp_all;done)
  rw[C,aD];refine br ⟨(k+1,g+2,g+3),⟨j,_g _⟩,_j j (_g k),?_⟩;dsimp only;rw[u,z,ao];exact bs
 obtain rfl:k=c.ms.length:=G;simp only[_m];have aE:Spec prog 177 [B.hX (ei c.ms a (e_ c a now)).ra (ei c.ms a (e_ c a now)).mo (ei c.ms a (e_ c a now)).aj (ei c.ms a (e_ c a now)).tm,.v (.int .i64 now),.v (.int .i64 n)] (.aS [B.hX (ei c.ms a (e_ c a now)).ra (ei c.ms a (e_ c a now)).mo (B.mB (ei c.ms a (e_ c a now)).ra (ei c.ms a (e_ c a now)).mo (ei c.ms a (e_ c a now)).aj (ei c.ms a (e_ c a now)).tm now n) now,.v (.bool (decide (n<=B.gI (ei c.ms a (e_ c a now)).ra (ei c.ms a (e_ c a now)).mo (ei c.ms a (e_ c a now)).aj (ei c.ms a (e_ c a now)).tm now))),.v (.int .i64 0)]):=by
  rw[show B.pT (ei c.ms a (e_ c a now)).ra (ei c.ms a (e_ c a now)).mo (ei c.ms a (e_ c a now)).aj (ei c.ms a (e_ c a now)).tm now n=B.hX (ei c.ms a (e_ c a now)).ra (ei c.ms a (e_ c a now)).mo (B.mB (ei c.ms a (e_ c a now)).ra (ei c.ms a (e_ c a now)).mo (ei c.ms a (e_ c a now)).aj (ei c.ms a (e_ c a now)).tm now n) now by unfold B.pT;rw[if_pos M],M]at O;exact O
 clear O M;generalize ei c.ms a (e_ c a now)=ey at *;generalize B.mB ey.ra ey.mo ey.aj ey.tm now n=U at *;generalize B.gI ey.ra ey.mo ey.aj ey.tm now=aR at *;generalize lI c.ms a=f at *;have aH:(f.map aZ.enc).length=f.length:=_x _;have aI:_e.wrap ((f.length:Int)-63)=(f.length:Int)-63:=_d _ G;have aJ:max 0 ((f.length:Int)-63)=((f.length-63:Nat):Int):=G;have aL:cp (cC (f.map aZ.enc) (0+(f.length-63))) ((f.length:Int)-((f.length-63:Nat):Int)).toNat=(f.drop (f.length-63)).map aZ.enc:=by rw[Nat.zero_add,hh,kH,<-List.map_drop,List.take_of_length_le (by rw[_x,_F];omega)]
 have aM:eW ((f.drop (f.length-63)).map aZ.enc)=true:=j2 (fun x=>rfl) _;have aT:(f.drop (f.length-63)).length<=64:=yi;generalize f.drop (f.length-63)=m at *;have aN:(m.map aZ.enc).length=m.length:=_x _;have C:m.map aZ.enc++[aZ.enc ⟨a,ey.ra,ey.mo,U,now⟩]=(m++[(⟨a,ey.ra,ey.mo,U,now⟩:aZ)]).map aZ.enc:=nu;rw[<-aw]at C⊢;repeat' first|refine af ?_|refine J aE ?_|with_reducible refine hZ ?_|refine ag ?_|refine ab ?_ ?_<;>intro h<;>try exact aa|simp only[aH,aI,aJ,_h,aL,aN,aM]|refine aK ⟨.inl _y,trivial,trivial,Aw⟩ ?_|exact al|fail
 rw[C];refine ev (fG an ⟨.d0,.d1,.d0⟩ rfl rfl ⟨rfl,rfl,aF⟩) ?_;rw[e1 aF];have aU:=fun g=>px g (m++[(⟨ey.ad,ey.ra,ey.mo,U,now⟩:aZ)])
 all_goals exact bM
end Go.Proofs.YtdiobdlinjgakaaGreatDoor
