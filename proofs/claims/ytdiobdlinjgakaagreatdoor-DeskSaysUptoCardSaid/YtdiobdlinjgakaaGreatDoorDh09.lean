import Derived.Test.YtdiobdlinjgakaaGreatDoorDh07
set_option linter.unusedVariables false
set_option linter.unusedSimpArgs false
set_option maxHeartbeats 8000000
set_option maxRecDepth 100000
open Go.Proofs.Tryz
open List renaming getElem?_eq_getElem->_a,length_map->_c,drop_eq_getElem_cons->_d,drop_length->_h,getElem?_eq_some_iff->_n,map_cons->_o,all_nil->_q
open Bool renaming and_eq_true->_b,true_and->_g
open Nat renaming zero_le->_e,sub_lt_sub_left->_k,lt_succ_self->_m,succ_pos->_p
open Int renaming toNat_natCast->_f
open Go.IntWalk renaming i64_in->_i
open Option.some renaming inj->_j
open Go.IntKind renaming i64->_l
namespace Go.Proofs.YtdiobdlinjgakaaGreatDoor.A
attribute [local irreducible] bc Go
abbrev ru(l ah:Int)(t1:Nat)(ai:Int)(t2:Nat)(ms:List Mp):List O:=[.v (.int .i64 l),.v (.int .i64 ah),.v (.int .u64 (t1:Int)),.v (.int .i64 ai),.v (.int .u64 (t2:Int)),.snap 5 (ms.map Mp.enc) false]
def iL(pr:Int)(n k:Nat):O:=if pr=17 then .ptr k n 6 0 1 else if pr=6 then .ptr k n 6 0 3 else .v (.pointer none)
theorem u4(n:Nat)(l ah:Int)(t1:Nat)(ai:Int)(t2:Nat)(ms:List Mp)(pr:Int):b1 prog 249 [.ptr 0 n 6 0 0,.v (.int .i64 pr)] [some ⟨n,6,[ru l ah t1 ai t2 ms]⟩] (fun d H=>d=iL pr n 0/\H=[some ⟨n,6,[ru l ah t1 ai t2 ms]⟩]):=by
 by_cases pD:pr=17
 .have e:iL pr n 0=.ptr 0 n 6 0 1:=by unfold iL;rw[if_pos pD]
  exact LD
 by_cases n1:pr=6
 .have e:iL pr n 0=.ptr 0 n 6 0 3:=by unfold iL;rw[if_neg pD,if_pos n1]
  exact LD
 have e:iL pr n 0=.v (.pointer none):=U1;exact LD
theorem RZ{g:FuncId}{caps:List O}(p:Mp->Bool)(l:List Mp)(c:Bool)(hl:l.length<=maxLen)(b8:∀t∈l,Spec prog g (.agg (Mp.enc t)::caps) (.v (.bool (p t)))):Spec prog 187 [.snap 5 (l.map Mp.enc) c,.fn (.func g) [] caps] (.v (.int .i64 (bU p l 0))):=by
 unfold maxLen at hl;refine az {} 0 func187 fun Γ an=>ar ?_
 repeat' first|refine af ?_|refine ag ?_|refine ab ?_ ?_<;>intro h<;>try exact aa|fail
 refine bS (α:=Nat) (fun k=>[(⟨.d0,.d1,.d0⟩,.v (.int .i64 (k:Nat)))]) (fun _=>[]) (fun _=>Γ.g0) (fun k=>l.length-k) (fun k=>k<=l.length/\bU p l 0=bU p (l.drop k) k) 0 ⟨_e _,rfl⟩ ?_ ?_
 .exact bs
 rintro k ⟨f,a6⟩;refine bz ?_;by_cases aN:k<l.length
 .obtain⟨t,bT⟩:∃t,l[k]?=some t:=⟨_,_a aN⟩;have dU:=h7 Mp.enc l k t bT;exact xD
 exact vq
theorem kW{l:List Mp}{k:Nat}{t:Mp}(b:l[k]?=some t):cf (l.map Mp.enc) k=[.v (.int .i64 t.pr),.v (.int .u32 t.ad),.v (.int .i64 t.po),.v (.int .i64 t.ou),.v (.int .i64 t.tm)]:=h7 Mp.enc l k t b
theorem ac7(b:Mp)(pr ad po:Int):Spec prog 269 [.agg b.enc,.bY [.v (.int .i64 pr)],.bY [.v (.int .u32 ad)],.bY [.v (.int .i64 po)]] (.v (.bool (decide (b.pr=pr/\b.ad=ad/\b.po=po)))):=by
 refine az {} 0 func269 fun Γ an=>ar ?_
 repeat' first|refine af ?_|refine ag ?_|refine ab ?_ ?_<;>intro h<;>try exact aa|exact al|fail
 all_goals exact SY
abbrev eK(l ah:Int)(t1:Nat)(ai:Int)(t2:Nat)(ms:List Mp):O:=.agg (ru l ah t1 ai t2 ms)
theorem Fs(l ah:Int)(t1:Nat)(ai:Int)(t2:Nat)(ms:List Mp)(pr ad po:Int)(hl:ms.length<=maxLen):Spec prog 250 [eK l ah t1 ai t2 ms,.v (.int .i64 pr),.v (.int .u32 ad),.v (.int .i64 po)] (.v (.int .i64 (bU (fun c:Mp=>decide (c.pr=pr/\c.ad=ad/\c.po=po)) ms 0))):=by
 have f:=RZ (g:=269) (caps:=[.bY [.v (.int .i64 pr)],.bY [.v (.int .u32 ad)],.bY [.v (.int .i64 po)]]) (fun c=>decide (c.pr=pr/\c.ad=ad/\c.po=po)) ms false hl (fun c _=>ac7 c pr ad po);refine az {} 0 func250 fun Γ an=>ar ?_
 repeat' first|refine dv (hn an ⟨.d0,.d0,.d5⟩ rfl rfl ⟨rfl,rfl,_p _⟩) ?_|refine dv (hn an ⟨.d0,.d0,.d6⟩ rfl rfl ⟨rfl,rfl,_p _⟩) ?_|refine dv (hn an ⟨.d0,.d0,.d7⟩ rfl rfl ⟨rfl,rfl,_p _⟩) ?_|refine af ?_|refine J f ?_|refine ag ?_|refine ab ?_ ?_<;>intro h<;>try exact aa|fail
 all_goals exact bM
def dQ(l ah:Int)(t1:Nat)(ai:Int)(t2:Nat)(ms:List Mp):Int:=if decide (1<=l/\l<=1000000)&&(dG ah&&dG ai)then(if k9 ah ai [] ms t1 t2 0 then 0 else 4)else 1
abbrev x6(b:Mp):Mp->Bool:=fun y=>decide (y.pr=b.pr/\y.ad=b.ad/\y.po=b.po)
theorem aiT{ms:List Mp}{k:Nat}{b:Mp}(f:ms[k]?=some b)(a:Int):qO (ms.take k) a b=true↔(b.pr=17\/b.pr=6)/\0<=b.po/\b.po<=65535/\a<=b.tm/\b.tm<=1099511627776/\bU (x6 b) ms 0=(k:Int):=by
 have g:k<ms.length:=(_n.1 f).1;have e:ms=ms.take k++b::ms.drop (k+1):=by conv=>lhs;rw[<-List.take_append_drop k ms,_d g,show ms[k]=b from _j ((_a g).symm.trans f)]
 have c:=Er (x6 b) b aF (ms.drop (k+1)) (ms.take k) 0;rw[<-e]at c;rw[show((0+(ms.take k).length:Nat):Int)=(k:Int)from c7]at c;rw[c];unfold qO MG;simp only[_b,decide_eq_true_eq,and_assoc]
theorem yb{b:Int}{t:Nat}{o:Int}(c:dG b=true):ng b t o=0↔dx b t o=true:=by
 unfold ng;rw[c];cases dx b t o<;>simp
theorem x4{b:Int}{t:Nat}{o:Int}(c:dG b=true)(h:dx b t o=true):rF b t o=b/\rm b t o=lC b t o:=by
 unfold rF rm;rw[c,h];exact⟨rfl,rfl⟩
theorem abe(ah ai:Int):max (gj ah) (gj ai)=if dG ah&&dG ai then 0 else 1:=by
 unfold gj;cases dG ah<;>cases dG ai<;>rfl
theorem su(l ah:Int)(t1:Nat)(ai:Int)(t2:Nat)(ms:List Mp)(hl:ms.length<=maxLen)(h1:t1<18446744073709551616)(h2:t2<18446744073709551616):Spec prog 214 [eK l ah t1 ai t2 ms] (.v (.int .i64 (dQ l ah t1 ai t2 ms))):=by
 have dV:=rG ah t1;have e0:=rG ai t2;have zW:=abe ah ai;have aq:=hl;unfold maxLen at aq;by_cases f:1<=l/\l<=1000000/\(dG ah&&dG ai)=true
 .have e:dQ l ah t1 ai t2 ms=if k9 ah ai [] ms t1 t2 0 then 0 else 4:=by unfold dQ;rw[if_pos (by simp only[_b,decide_eq_true_eq];simp only[_b]at f;exact⟨⟨f.1,f.2.1⟩,f.2.2⟩)]
  rw[e];clear e;rw[if_pos f.2.2]at zW;have X:dG ah=true:=by have:=f.2.2;rw[_b]at this;exact this.1
  have Y:dG ai=true:=by have:=f.2.2;rw[_b]at this;exact this.2
  have aA:=f.1;have aC:=f.2.1;clear f;refine az {} 0 func214 fun Γ an=>ar ?_
  repeat' first|refine af ?_|refine J dV ?_|refine J e0 ?_|simp only[zW]|refine ag ?_|refine ab ?_ ?_<;>intro h<;>try exact aa|exact al|fail
  all_goals try exfalso;simp at h;done
  refine bS (α:=Nat×Nat×Nat×Int×Nat) (fun p=>[(⟨.d0,.d0,.d5⟩,.v (.int .i64 p.2.2.2.1)),(⟨.d0,.d4,.d1⟩,.v (.int .i64 (p.1:Nat)))]) (fun p=>[(1,some ⟨Γ.g0+1,6,[ru l ah p.2.1 ai p.2.2.1 ms]⟩),(2,none),(3,none)]) (fun p=>p.2.2.2.2) (fun p=>ms.length-p.1) (fun p=>p.1<=ms.length/\p.2.1<18446744073709551616/\p.2.2.1<18446744073709551616/\k9 ah ai [] ms t1 t2 0=k9 ah ai (ms.take p.1) (ms.drop p.1) p.2.1 p.2.2.1 p.2.2.2.1) (0,t1,t2,0,Γ.g0+1+1) ⟨_e _,h1,h2,rfl⟩ ?_ ?_
  .exact bs
  rintro⟨k,g,j,a,ap⟩ ⟨au,Q,U,aT⟩;dsimp only at au Q U aT⊢;refine bz ?_;by_cases u:k<ms.length
  .obtain⟨c,bg⟩:∃c,ms[k]?=some c:=⟨_,_a u⟩;have Z:=kW bg;have cw:=aiT bg a;have av:ms.take k++[c]=ms.take (k+1):=Wf;rw[_d u,show ms[k]=c from _j ((_a u).symm.trans bg),k9,av]at aT;by_cases pD:c.pr=17
   .have z:iL c.pr (Γ.g0+1) 0=.ptr 0 (Γ.g0+1) 6 0 1:=by unfold iL;rw[if_pos pD]
    have ac:=E8 ah g c.ou Q;have hf:oH ah ai g j c=true->ng ah g c.ou=0:=fun e=>(yb X).2 (by simpa only[oH,if_pos pD]using e)
    have ec:∀K w v,aJ K w (iL c.pr (Γ.g0+1) 0) v->aJ K w (.ptr 1 (Γ.g0+1) 6 0 1) v:=fun K w v m=>by
     rw[z]at m;exact re m
    have C:=dN 1 (u4 (Γ.g0+1) l ah g ai j ms c.pr);have I:Spec prog 250 [eK l ah t1 ai t2 ms,.v (.int .i64 c.pr),.v (.int .u32 c.ad),.v (.int .i64 c.po)] (.v (.int .i64 (bU (x6 c) ms 0))):=Fs l ah t1 ai t2 ms c.pr c.ad c.po hl;generalize bU (x6 c) ms 0=aw at I cw;repeat' first|refine af ?_|(with_reducible refine bE 1 ?_ C ec ?_);(exact rfl)|refine J I ?_|refine J ac ?_|refine ag ?_|refine ab ?_ ?_<;>intro h<;>try exact aa|simp only[_f,Z]|exact al|fail
    rotate_right
    .rename_i ax bp M O ae aj;have b3:ng ah g c.ou=0:=hc;have ay:=(yb X).1 b3;obtain⟨f1,f2⟩:=x4 X ay;have ak:qO (ms.take k) a c=true:=cw.2 ⟨.inl pD,FY,by simpa using M,by simpa using O,by simpa using ae,by simpa using aj⟩;have am:k9 ah ai [] ms t1 t2 0=k9 ah ai (ms.take (k+1)) (ms.drop (k+1)) (lC ah g c.ou) j c.tm:=by
      rw[aT,ak];simp only[oH,bW,dq,if_pos pD,ay,_g]
     simp only[f1,f2];refine br ⟨(k+1,lC ah g c.ou,j,c.tm,ap+2),⟨u,DO ay Q,U,am⟩,_k u (_m k),?_⟩;dsimp only;exact uX
    all_goals exact SQ
   by_cases n1:c.pr=6
   .have z:iL c.pr (Γ.g0+1) 0=.ptr 0 (Γ.g0+1) 6 0 3:=by unfold iL;rw[if_neg pD,if_pos n1]
    have ac:=E8 ai j c.ou U;have hf:oH ah ai g j c=true->ng ai j c.ou=0:=fun e=>(yb Y).2 (by simpa only[oH,if_neg pD]using e)
    have ec:∀K w v,aJ K w (iL c.pr (Γ.g0+1) 0) v->aJ K w (.ptr 1 (Γ.g0+1) 6 0 3) v:=fun K w v m=>by
     rw[z]at m;exact re m
    have C:=dN 1 (u4 (Γ.g0+1) l ah g ai j ms c.pr);have I:Spec prog 250 [eK l ah t1 ai t2 ms,.v (.int .i64 c.pr),.v (.int .u32 c.ad),.v (.int .i64 c.po)] (.v (.int .i64 (bU (x6 c) ms 0))):=Fs l ah t1 ai t2 ms c.pr c.ad c.po hl;generalize bU (x6 c) ms 0=aw at I cw;repeat' first|refine af ?_|(with_reducible refine bE 1 ?_ C ec ?_);(exact rfl)|refine J I ?_|refine J ac ?_|refine ag ?_|refine ab ?_ ?_<;>intro h<;>try exact aa|simp only[_f,Z]|exact al|fail
    rotate_right
    .rename_i ax bp M O ae aj;have b3:ng ai j c.ou=0:=hc;have ay:=(yb Y).1 b3;obtain⟨f1,f2⟩:=x4 Y ay;have ak:qO (ms.take k) a c=true:=cw.2 ⟨.inr n1,FY,by simpa using M,by simpa using O,by simpa using ae,by simpa using aj⟩;have am:k9 ah ai [] ms t1 t2 0=k9 ah ai (ms.take (k+1)) (ms.drop (k+1)) g (lC ai j c.ou) c.tm:=by
      rw[aT,ak];simp only[oH,bW,dq,if_neg pD,ay,_g]
     simp only[f1,f2];refine br ⟨(k+1,g,lC ai j c.ou,c.tm,ap+2),⟨u,Q,DO ay U,am⟩,_k u (_m k),?_⟩;dsimp only;exact uX
    all_goals exact SQ
   have z:iL c.pr (Γ.g0+1) 0=.v (.pointer none):=U1;have ec:∀K w v,aJ K w (iL c.pr (Γ.g0+1) 0) v->aJ K w (.v (.pointer none)) v:=fun K w v m=>by
    rw[z]at m;exact m
   have C:=dN 1 (u4 (Γ.g0+1) l ah g ai j ms c.pr);repeat' first|refine af ?_|(with_reducible refine bE 1 ?_ C ec ?_);(exact rfl)|refine ag ?_|refine ab ?_ ?_<;>intro h<;>try exact aa|simp only[_f,Z]|exact al|fail
   all_goals(refine cI ?_;first|exact cc|try simp only[cE]at *)
   all_goals (refine eG ?_)
   all_goals (rw[if_neg];intro e;rw[aT,_b,_b,cw]at e;omega)
  obtain rfl:k=ms.length:=G;rw[_h,k9]at aT;rw[aT];repeat' first|refine af ?_|refine ag ?_|refine ab ?_ ?_<;>intro h<;>try exact aa|exact al|fail
  all_goals(refine cI ?_;first|exact cc|try simp only[cE]at *)
  all_goals (refine eG ?_)
  all_goals first|rw[if_neg G];done|rw[if_pos G];done
 have e:dQ l ah t1 ai t2 ms=1:=by
  unfold dQ;rw[if_neg];simp only[_b,decide_eq_true_eq];rintro⟨⟨bp,M⟩,O⟩;exact f ⟨bp,M,by rw[_b];exact O⟩
 rw[e];clear e;by_cases ao:(dG ah&&dG ai)=true
 .rw[if_pos ao]at zW;have aD:¬(1<=l/\l<=1000000):=fun q=>f ⟨q.1,q.2,ao⟩
  exact Zv
 rw[if_neg ao]at zW;exact Zv
theorem Q5(b:Int)(t:Nat)(m:64<=b/\b<=65472)(q:t<18446744073709551616):Spec prog 175 [.agg [.v (.int .i64 b),.v (.int .u64 (t:Int))]] (.snap 1 ((fU b t).map fx) false):=by
 have g:=Fm b t m q;have I:=EM b t 64;have u:fU b t=lb b t 64:=rfl;rw[u];refine az {} 0 func175 fun Γ an=>ar ?_
 repeat' first|refine af ?_|refine ag ?_|refine ab ?_ ?_<;>intro h<;>try exact aa|fail
 apply eJ
 .exact Ly
 refine bz ?_;refine bS (α:=Nat×Nat×Nat) (fun p=>[(⟨.d0,.d0,.d3⟩,.aG 2 p.2.1 1 0 (lb b t p.1).length false),(⟨.d0,.d0,.d5⟩,.v (.int .i64 (p.1:Nat)))]) (fun p=>[(1,none),(2,some ⟨p.2.1,1,(lb b t p.1).map fx⟩)]) (fun p=>p.2.2) (fun p=>64-p.1) (fun p=>p.1<=64) (0,Γ.g0+1,Γ.g0+1+1) (_e _) ?_ ?_
 .exact bs
 rintro⟨k,z,bR⟩ C;dsimp only at C⊢;refine bz ?_;by_cases aN:k<64
 .have j:_l.wrap (b+(k:Int))=b+(k:Int):=_i _ G;have M:=K5 b t k;have c:=A7 (dA b t 64) (b+(k:Int)) false fg;rw[WC aN]at c;cases f:t.testBit k with
  |true=>
   rw[f]at c;repeat' first|refine af ?_|refine J g ?_|refine J c ?_|simp only[j]|refine ag ?_|refine ab ?_ ?_<;>intro h<;>try exact aa|refine aK ⟨by rfl,DF⟩ ?_|exact al|fail
   all_goals try exfalso;simp at h;done
   have kQ:(lb b t k).map fx++[[.v (.int .i64 (b+(k:Int)))]]=(lb b t (k+1)).map fx:=by rw[Sq f,List.map_append];rfl
   have vE:(lb b t k).length+1=(lb b t (k+1)).length:=by rw[Sq f];simp
   exact T1
  |false=>
   rw[f]at c;repeat' first|refine af ?_|refine J g ?_|refine J c ?_|simp only[j]|refine ag ?_|refine ab ?_ ?_<;>intro h<;>try exact aa|exact al|fail
   all_goals try exfalso;simp at h;done
   refine br ⟨(k+1,z,bR),aN,_k aN (_m k),?_⟩;dsimp only;rw[adJ f];exact Iq
 obtain rfl:k=64:=G;repeat' first|refine af ?_|refine ag ?_|refine ab ?_ ?_<;>intro h<;>try exact aa|exact al|fail
 refine ev (fG an ⟨.d0,.d0,.d2⟩ rfl rfl ⟨rfl,rfl,aF⟩) ?_;rw[e1 (_c _).symm];have O:c1 Γ.g0 ((lb b t 64).map fx):=eS (fun x=>fY);all_goals exact bM
abbrev m_(p o:Int):Value:=.agg #[.int .i64 p,.int .u32 0,.int .i64 0,.int .i64 o,.int .i64 0]
abbrev xm(b:Mp):List O:=[.v (m_ b.pr b.ou),.v (.int .i64 1)]
theorem Gw(p o:Int):cF (.cells [.i64,.u32,.i64,.i64,.i64]) (m_ p o)=true:=rfl
theorem akw{p o b c:Int}(h:m_ p o=m_ b c):p=b/\o=c:=by
 simp at h;exact h
theorem XH(p o b c:Int):hD (m_ p o) (m_ b c)=decide (b=p/\c=o):=by
 cases h:hD (m_ p o) (m_ b c)with
 |true=>
  obtain⟨rfl,rfl⟩:=akw (tf (Gw p o) (Gw b c) h);simp
 |false=>
  symm
  rw[decide_eq_false_iff_not];rintro⟨rfl,rfl⟩;rw[DW (Gw _ _)]at h;cases h
theorem SW:∀(l:List Mp)(b:Mp),dd b∉l.map dd->ja (l.map xm) (m_ b.pr b.ou) (.int .i64 1)=(l++[b]).map xm
 |[],b,_=>rfl
 |y::r,b,h=>by
  simp only[_o,List.mem_cons,not_or]at h;have c:hD (m_ b.pr b.ou) (m_ y.pr y.ou)=false:=by
   rw[XH,decide_eq_false_iff_not];rintro⟨f,g⟩;exact h.1 (by simp[dd,f,g])
  have j:=SW r b h.2;simp only[_o,List.cons_append,ja,c,j];simp
theorem Nr(p o:Int):∀(l:List Mp),(j9 (l.map xm) (m_ p o)).getD (.int .i64 0)=.int .i64 (if gR p l o then 1 else 0)
 |[]=>rfl
 |y::r=>by
  have b:=Nr p o r;simp only[_o,j9,XH,gR,List.any_cons];by_cases e:y.pr=p/\y.ou=o
  .simp[e]
  simp only[e,decide_false,Bool.false_or];simpa[gR]using b
theorem ZU(l:List Mp):pP (.cells [.i64,.u32,.i64,.i64,.i64]) (l.map xm)=true:=KM (f:=fun b:Mp=>(m_ b.pr b.ou,.int .i64 1)) (fun b=>Gw b.pr b.ou) l
theorem NZ{b:Int}(h:dG b=true):64<=b/\b<=65472:=by unfold dG at h;have:=of_decide_eq_true h;omega
theorem ajf{l ah:Int}{t1:Nat}{ai:Int}{t2:Nat}{ms:List Mp}(h1:t1<18446744073709551616)(h2:t2<18446744073709551616)(hl:1<=l/\l<=1000000)(b:dG ah=true)(c:dG ai=true):dQ l ah t1 ai t2 ms=if eb jM [] ms&&qT ah ai t1 t2 ms then 0 else 4:=by
 unfold dQ;rw[G8 ah ai t1 t2 ms h1 h2,b,c,if_pos (by simp;exact hl)]
theorem WV{α:Type}{f:α->Bool}{l:List α}{k:Nat}{t:α}(b:l[k]?=some t):(l.drop k).all f=(f t&&(l.drop (k+1)).all f):=by
 have c:k<l.length:=(_n.1 b).1;rw[_d c,show l[k]=t from _j ((_a c).symm.trans b),List.all_cons]
theorem o5(l ah:Int)(t1:Nat)(ai:Int)(t2:Nat)(ms:List Mp)(hl:ms.length<=maxLen)(h1:t1<18446744073709551616)(h2:t2<18446744073709551616):Spec prog 125 [eK l ah t1 ai t2 ms] (.v (.int .i64 (dQ l ah t1 ai t2 ms))):=by
 have dV:=uN ah t1;have e0:=uN ai t2;have ae:=hl;unfold maxLen at ae;by_cases z:1<=l/\l<=1000000/\dG ah=true/\dG ai=true
 .obtain⟨m,aj,Bs,c⟩:=z;have e:=ajf (ms:=ms) h1 h2 ⟨m,aj⟩ Bs c;rw[e];clear e;have C:=Q5 ah t1 (NZ Bs) h1;have I:=Q5 ai t2 (NZ c) h2;have f:gj ah=0:=LZ;have M:gj ai=0:=by unfold gj;rw[c];rfl
  rw[f]at dV;rw[M]at e0;refine az {} 0 func125 fun Γ an=>ar ?_
  repeat' first|refine af ?_|refine J (cA _ _ _) ?_|refine J dV ?_|refine J e0 ?_|refine J C ?_|refine J I ?_|refine ag ?_|refine ab ?_ ?_<;>intro h<;>try exact aa|exact al|fail
  all_goals try exfalso;simp at h;done
  refine bS (α:=Nat×Nat) (fun p=>[(⟨.d0,.d4,.d2⟩,.v (.int .i64 (p.1:Nat)))]) (fun p=>[(1,some ⟨Γ.g0+1,0,(ms.take p.1).map xm⟩),(2,none),(3,none)]) (fun p=>p.2) (fun p=>ms.length-p.1) (fun p=>p.1<=ms.length/\eb jM [] ms=eb jM (ms.take p.1) (ms.drop p.1)) (0,Γ.g0+1+1) ⟨_e _,rfl⟩ ?_ ?_
  .exact bs
  rintro⟨k,bR⟩ ⟨ak,BQ⟩;dsimp only at ak BQ⊢;refine bz ?_;by_cases aN:k<ms.length
  .obtain⟨aq,bg⟩:∃aq,ms[k]?=some aq:=⟨_,_a aN⟩;have dU:=kW bg;have oO:cp (cC (ms.map Mp.enc) 0) ((k:Int)-0).toNat=(ms.take k).map Mp.enc:=Ki;have Iy:((ms.take k).map Mp.enc).length=k:=c7;by_cases O:(aq.pr=17\/aq.pr=6)/\(0<=aq.po/\aq.po<=65535)/\0<=aq.tm/\aq.tm<=1099511627776
   .obtain⟨am,ajV,HF⟩:=O;rcases am with aC|aD
    .exact Ww
    have aE:¬aq.pr=17:=G;exact Ww
   have rV:eb jM [] ms=false:=JJ bg BQ (by
    cases ay:jM (ms.take k) aq with
    |false=>rfl
    |true=>
     unfold jM at ay;simp only[_b,decide_eq_true_eq]at ay;exact(O ⟨ay.1.1.1,ay.1.1.2,ay.1.2⟩).elim)
   repeat' first|refine af ?_|refine J (cA _ _ _) ?_|refine ag ?_|refine ab ?_ ?_<;>intro h<;>try exact aa|simp only[_f,dU]|exact al|fail
   all_goals(refine cI ?_;first|exact cc|try simp only[cE]at *)
   all_goals (rw[rV];rfl)
  obtain rfl:k=ms.length:=G;have ao:eb jM [] ms=true:=by rw[BQ,_h];rfl
  rw[ao,_g];simp only[List.take_length];have nT:=ZU ms;have Q:(ms.map xm).length=ms.length:=_c _;have U:((fU ah t1).map fx).length=(fU ah t1).length:=_c _;have X:((fU ai t2).map fx).length=(fU ai t2).length:=_c _;have Y:(ms.map Mp.enc).length=ms.length:=_c _;have aF:(fU ah t1).length<=64:=K5 ah t1 64;have aG:(fU ai t2).length<=64:=K5 ai t2 64;have Z:_l.wrap ((((fU ah t1).length:Nat):Int)+((fU ai t2).length:Nat))=(((fU ah t1).length+(fU ai t2).length:Nat):Int):=(_i _ G).trans G;by_cases ac:ms.length=(fU ah t1).length+(fU ai t2).length
  .have u:qT ah ai t1 t2 ms=((fU ah t1).all (gR 17 ms)&&(fU ai t2).all (gR 6 ms)):=by unfold qT;rw[decide_eq_true ac,_g]
   rw[u];clear u;generalize fU ah t1=p2 at *;generalize fU ai t2=kG at *;have ap:(ms.length:Int)=((p2.length+kG.length:Nat):Int):=G;repeat' first|refine af ?_|refine J C ?_|refine J I ?_|simp only[Q,U,X,Y,Z,ap]|refine ag ?_|refine ab ?_ ?_<;>intro h<;>try exact aa|exact al|fail
   all_goals try exfalso;simp at h;done
   refine bS (α:=Nat) (fun q=>[(⟨.d2,.d0,.d5⟩,.v (.int .i64 (q:Nat)))]) (fun _=>[]) (fun _=>bR) (fun q=>p2.length-q) (fun q=>q<=p2.length/\(p2.all (gR 17 ms)&&kG.all (gR 6 ms))=((p2.drop q).all (gR 17 ms)&&kG.all (gR 6 ms))) 0 ⟨_e _,rfl⟩ ?_ ?_
   .exact bs
   rintro q ⟨au,uL⟩;refine bz ?_;by_cases qq:q<p2.length
   .obtain⟨p,g⟩:∃p,p2[q]?=some p:=⟨_,_a qq⟩;have L2:=uM g;have eL:=WV (f:=gR 17 ms) g;have Ap:=Nr 17 p ms;have Nv:_l.wrap ((q:Int)+1)=((q+1:Nat):Int):=(_i _ G).trans G;cases eY:gR 17 ms p with
    |true=>exact Vy
    |false=>exact T6
   obtain rfl:q=p2.length:=G;rw[_h,_q,_g]at uL;repeat' first|refine af ?_|refine ag ?_|refine ab ?_ ?_<;>intro h<;>try exact aa|exact al|fail
   refine bS (α:=Nat) (fun q=>[(⟨.d2,.d2,.d1⟩,.v (.int .i64 (q:Nat)))]) (fun _=>[]) (fun _=>bR) (fun q=>kG.length-q) (fun q=>q<=kG.length/\(p2.all (gR 17 ms)&&kG.all (gR 6 ms))=((kG.drop q).all (gR 6 ms))) 0 ⟨_e _,uL⟩ ?_ ?_
   .exact bs
   rintro q ⟨au,uL⟩;refine bz ?_;by_cases qq:q<kG.length
   .obtain⟨p,g⟩:∃p,kG[q]?=some p:=⟨_,_a qq⟩;have L2:=uM g;have eL:=WV (f:=gR 6 ms) g;have Ap:=Nr 6 p ms;have Nv:_l.wrap ((q:Int)+1)=((q+1:Nat):Int):=(_i _ G).trans G;cases eY:gR 6 ms p with
    |true=>exact Vy
    |false=>exact T6
   obtain rfl:q=kG.length:=G;rw[_h,_q]at uL;rw[uL];exact A0
  have u:qT ah ai t1 t2 ms=false:=by unfold qT;rw[decide_eq_false ac,Bool.false_and]
  rw[u];repeat' first|refine af ?_|refine J C ?_|refine J I ?_|simp only[Q,U,X,Y,Z]|refine ag ?_|refine ab ?_ ?_<;>intro h<;>try exact aa|exact al|fail
  all_goals try exfalso;simp at h;done
  all_goals exact Kb
 have e:dQ l ah t1 ai t2 ms=1:=by
  unfold dQ;rw[if_neg];simp only[_b,decide_eq_true_eq];rintro⟨⟨av,aw⟩,ax,aA⟩;exact z ⟨av,aw,ax,aA⟩
 rw[e];clear e;by_cases m:1<=l/\l<=1000000
 .cases Bs:dG ah with
  |true=>
   have c:dG ai=false:=by cases q:dG ai with|false=>rfl|true=>exact(z ⟨m.1,m.2,Bs,q⟩).elim
   have f:gj ah=0:=LZ;have M:gj ai=1:=by unfold gj;rw[c];rfl
   rw[f]at dV;rw[M]at e0;exact J7
  |false=>
   have f:gj ah=1:=LZ;rw[f]at dV;exact J7
 exact J7
end Go.Proofs.YtdiobdlinjgakaaGreatDoor.A
