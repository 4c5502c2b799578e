import Derived.Test.YtdiobdlinjgakaaGreatDoorDh11
set_option linter.unusedVariables false
set_option linter.unusedSimpArgs false
set_option maxHeartbeats 8000000
set_option maxRecDepth 100000
open Go.Proofs.Tryz
open List renaming length_filter_le->_a,length_map->_b,take_add_one->_d,take_length->_e,filter_cons->_f,filter_append->_h,take_sublist->_i
open Nat renaming zero_le->_c,sub_lt_sub_left->_g,lt_succ_self->_j,le_trans->_k
namespace Go.Proofs.YtdiobdlinjgakaaGreatDoor.A
attribute [local irreducible] bc Go
theorem aib{b pr:Int}{ms:List Mp}{k:Nat}{c:Mp}(h:ms[k]?=some c):aQ b pr (ms.take (k+1))=aQ b pr (ms.take k)+kB b pr c:=by
 rw[_d,h,uu];simp[aQ]
theorem mW(b:Int)(t:Nat)(pr:Int)(ms:List Mp)(c:Bool)(hl:ms.length<=maxLen)(aq:64<=b/\b<=65472)(I:gw b pr ms)(J:(ms.map dd).Nodup):Spec prog 184 [.agg [.v (.int .i64 b),.v (.int .u64 (t:Int))],.snap 5 (ms.map Mp.enc) c,.v (.int .i64 pr)] (.agg [.v (.int .i64 b),.v (.int .u64 (aQ b pr ms:Nat))]):=by
 have au:(ms.map Mp.enc).length=ms.length:=_b _;have ac:=hl;unfold maxLen at ac;generalize (t:Int)=T at *;refine az {} 0 func184 fun Γ an=>ar ?_
 repeat' first|refine af ?_|refine ag ?_|refine ab ?_ ?_<;>intro h<;>try exact aa|exact al|fail
 refine bS (α:=Nat×Nat) (fun p=>[(⟨.d0,.d1,.d4⟩,.v (.int .i64 (p.1:Nat)))]) (fun p=>[(0,some ⟨Γ.g0,2,[[.v (.int .i64 b),.v (.int .u64 (aQ b pr (ms.take p.1):Nat))]]⟩),(2,none)]) (fun p=>p.2) (fun p=>ms.length-p.1) (fun p=>p.1<=ms.length) (0,Γ.g0+2) (_c _) ?_ ?_
 .exact bs
 rintro⟨k,M⟩ ae;dsimp only at ae⊢;refine bz ?_;by_cases g:k<ms.length
 .obtain⟨f,m⟩:∃f,ms[k]?=some f:=⟨_,List.getElem?_eq_getElem g⟩;have O:=kW m;have Q:IntKind.i64.wrap ((k:Int)+1)=((k+1:Nat):Int):=(IntWalk.i64_in _ G).trans G;have u:=aib (b:=b) (pr:=pr) m;by_cases j:f.pr=pr
  .have ay:=I f (List.mem_of_getElem? m) j;have ah:IntKind.i64.wrap (f.ou-b)=f.ou-b:=IntWalk.i64_in _ G;have ai:(ms.take (k+1)).Sublist ms:=_i _ _;have U:gw b pr (ms.take k):=fun y z=>I y (List.mem_of_mem_take z)
   have aj:((ms.take k).map dd).Nodup:=J.sublist ((_i k ms).map dd);obtain⟨ak,am⟩:=l9 b pr (ms.take k) U aj;have ao:(aQ b pr (ms.take k)).testBit (f.ou-b).toNat=false:=by
    rw[am,List.any_eq_false];intro y z;simp only[decide_eq_true_eq,not_and];intro X av;have q:=U y z X;have Y:=J.sublist (ai.map dd);rw[_d,m,Option.toList_some,List.map_append,List.nodup_append]at Y;exact Y.2.2 (dd y) (List.mem_map.2 ⟨y,z,rfl⟩) (dd f) aF (by simp only[dd,Prod.mk.injEq];exact⟨X.trans j.symm,G⟩)
   have Z:=Lr ak (k:=(f.ou-b).toNat) G ao;have C:kB b pr f=2 ^ (f.ou-b).toNat:=by unfold kB;rw[if_pos j]
   rw[C]at u;rw[<-u]at Z;repeat' first|refine af ?_|simp only[ah,Q,Z]|refine ag ?_|refine ab ?_ ?_<;>intro h<;>try exact aa|simp only[Int.toNat_natCast,O]|exact al|fail
   all_goals try exfalso;simp at h;done
   refine br ⟨(k+1,M+1),g,_g g (_j k),?_⟩;exact bs
  have C:kB b pr f=0:=by unfold kB;rw[if_neg j]
  rw[C,Nat.add_zero]at u;have ap:decide (f.pr=pr)=false:=decide_eq_false j;repeat' first|refine af ?_|simp only[Q]|refine ag ?_|refine ab ?_ ?_<;>intro h<;>try exact aa|simp only[Int.toNat_natCast,O]|exact al|fail
  all_goals first|exfalso;simp at h;done|exfalso;rw[ap]at h;cases h;done|skip
  refine br ⟨(k+1,M+1),g,_g g (_j k),?_⟩;dsimp only;rw[u];exact bs
 obtain rfl:k=ms.length:=G;rw[_e];exact o3
def hW(pr ad po:Int):List Mp->Int->Int
 |[],o=>o
 |m::r,o=>hW pr ad po r (if gH pr ad po m then m.ou else o)
theorem Lm(pr ad po:Int):∀(l r:List Mp)(o:Int),hW pr ad po (l++r) o=hW pr ad po r (hW pr ad po l o)
 |[],r,o=>rfl
 |m::l,r,o=>by rw[List.cons_append,hW,Lm pr ad po l r,hW]
theorem KN{pr ad po:Int}:∀ {l:List Mp} (o:Int),(∀m∈l,gH pr ad po m=false)->hW pr ad po l o=o
 |[],o,_=>rfl
 |m::l,o,h=>by
  rw[hW,h m aF,if_neg ae];exact KN o (fun y b=>h y (List.mem_cons_of_mem _ b))
theorem NR{l now:Int}{ms:List Mp}{k:Nat}{b:Mp}(h:ms[k]?=some b):av l now (ms.take (k+1))=av l now (ms.take k)++(if jN l now b then[b]else[]):=by
 unfold av;rw[_d,h,_h,Option.toList_some,_f];cases jN l now b<;>rfl
theorem Xx(pr ad po:Int)(a b:List Mp):bH pr ad po (a++b)=bH pr ad po a++bH pr ad po b:=_h ..
def oh(ms:List Mp):Nat->Int
 |0=>0
 |k+1=>match ms[k]? with|some b=>b.tm|none=>0
theorem ahZ{ms:List Mp}{k:Nat}{b:Mp}(h:ms[k]?=some b):oh ms (k+1)=b.tm:=by simp only[oh,h]
theorem tW(ms:List Mp):oh ms ms.length=dh ms:=by
 cases h:ms.length with
 |zero=>unfold oh dh;rw[List.getElem?_eq_none G]
 |succ n=>unfold oh dh;rw[h];rfl
section
variable (l ah:Int) (t1:Nat) (ai:Int) (t2:Nat) (ms:List Mp) (pr ad po now:Int) (hl:ms.length*40<=140737488351232) (h10:t1<18446744073709551616) (cr:t2<18446744073709551616)
include hl h10 cr
theorem aiF{e:Int}(bu:dQ l ah t1 ai t2 ms=e)(c:¬e=0):Spec prog 132 [eK l ah t1 ai t2 ms,.v (.int .i64 pr),.v (.int .u32 ad),.v (.int .i64 po),.v (.int .i64 now)] (hJ l ah t1 ai t2 ms 0 e):=by exact Xe
theorem abU(bu:dQ l ah t1 ai t2 ms=0)(c:¬(pr=6\/pr=17)):Spec prog 132 [eK l ah t1 ai t2 ms,.v (.int .i64 pr),.v (.int .u32 ad),.v (.int .i64 po),.v (.int .i64 now)] (hJ l ah t1 ai t2 ms 0 7):=by exact Xe
theorem aeP(f:dQ l ah t1 ai t2 ms=0)(a6:pr=6\/pr=17)(j:¬((0<=po/\po<=65535)/\dh ms<=now/\now<=1099511627776)):Spec prog 132 [eK l ah t1 ai t2 ms,.v (.int .i64 pr),.v (.int .u32 ad),.v (.int .i64 po),.v (.int .i64 now)] (hJ l ah t1 ai t2 ms 0 1):=by
 have m:ms.length<=maxLen:=fg;have r3:=fun g=>kl g ms
 have h2:=o5 l ah t1 ai t2 ms m h10 cr;rw[f]at h2;have z:(ms.map Mp.enc).length=ms.length:=_b _;have bI:=cA po 0 65535;have fr:=cA now (dh ms) 1099511627776;by_cases c:0<=po/\po<=65535
 .have u:¬(dh ms<=now/\now<=1099511627776):=fun q=>j ⟨c,q⟩
  rw[decide_eq_true c]at bI;rw[decide_eq_false u]at fr;rcases a6 with a6|a6
  .exact Gv
  exact Gv
 rw[decide_eq_false c]at bI;rcases a6 with a6|a6
 .exact Gv
 exact Gv
end
theorem Px{l now:Int}{ms:List Mp}{k:Nat}{b:Mp}(h:ms[k]?=some b)(c:¬now<=b.tm+l):av l now (ms.take (k+1))=av l now (ms.take k):=by
 rw[NR h,show jN l now b=false from decide_eq_false c];simp
theorem aad{l now:Int}{ms:List Mp}{k:Nat}{b:Mp}(h:ms[k]?=some b)(c:now<=b.tm+l):av l now (ms.take (k+1))=av l now (ms.take k)++[b]:=by
 rw[NR h,show jN l now b=true from decide_eq_true c];simp
theorem Sk{pr ad po:Int}{b:Mp}(h:b.pr=pr/\b.ad=ad/\b.po=po)(L:List Mp):bH pr ad po (L++[b])=bH pr ad po L:=by
 rw[Xx];unfold bH;rw[_f,show gH pr ad po b=true from decide_eq_true h];simp
theorem Zd{pr ad po:Int}{b:Mp}(h:¬(b.pr=pr/\b.ad=ad/\b.po=po))(L:List Mp):bH pr ad po (L++[b])=bH pr ad po L++[b]:=by
 rw[Xx];congr 1
 unfold bH;rw[_f,show gH pr ad po b=false from decide_eq_false h];simp
theorem GY(pr ad po:Int)(L:List Mp)(b:Mp)(o:Int):hW pr ad po (L++[b]) o=if gH pr ad po b then b.ou else hW pr ad po L o:=by rw[Lm];rfl
section
variable (l ah:Int) (t1:Nat) (ai:Int) (t2:Nat) (ms:List Mp) (ad po now:Int) (hl:ms.length*40<=140737488351232) (h10:t1<18446744073709551616) (cr:t2<18446744073709551616)
include hl h10 cr
theorem acO(m:dQ l ah t1 ai t2 ms=0)(j:((0<=po/\po<=65535)/\dh ms<=now/\now<=1099511627776)){o:Int}(M:hW 6 ad po (av l now ms) (-1)=o)(ao:0<=o)(Q:gw ah 17 (bH 6 ad po (av l now ms)++[⟨6,ad,po,o,now⟩]))(U:gw ai 6 (bH 6 ad po (av l now ms)++[⟨6,ad,po,o,now⟩]))(u:((bH 6 ad po (av l now ms)++[(⟨6,ad,po,o,now⟩:Mp)]).map dd).Nodup):
 Spec prog 132 [eK l ah t1 ai t2 ms,.v (.int .i64 6),.v (.int .u32 ad),.v (.int .i64 po),.v (.int .i64 now)] (hJ l ah (aQ ah 17 (bH 6 ad po (av l now ms)++[⟨6,ad,po,o,now⟩])) ai (aQ ai 6 (bH 6 ad po (av l now ms)++[⟨6,ad,po,o,now⟩])) (bH 6 ad po (av l now ms)++[⟨6,ad,po,o,now⟩]) o 0):=by
 have X:ms.length<=maxLen:=fg;have h2:=o5 l ah t1 ai t2 ms X h10 cr;rw[m]at h2;obtain⟨ap,z,b8,-,-⟩:=oU h10 cr m;have Y:=(ji z.1).1;have Z:=(ji z.2).1;have au:(ms.map Mp.enc).length=ms.length:=_b _;have C:=cA po 0 65535;have I:=cA now (dh ms) 1099511627776;rw[decide_eq_true j.1]at C;rw[decide_eq_true j.2]at I;obtain⟨aw,ax,aA⟩:=j;have aC:0<=dh ms:=by exact so
 have aD:(av l now ms).length<=ms.length:=_a _ _;refine az {} 0 func132 fun Γ an=>ar ?_
 repeat' first|refine af ?_|refine J h2 ?_|refine ag ?_|refine ab ?_ ?_<;>intro h<;>try exact aa|exact al|fail
 all_goals try exfalso;simp at h;done
 refine bS (α:=Nat×Nat) (fun p=>[(⟨.d0,.d5,.d0⟩,.v (.int .i64 (p.1:Nat))),(⟨.d0,.d1,.d6⟩,.v (.int .i64 (oh ms p.1)))]) (fun p=>[(2,none)]) (fun p=>p.2) (fun p=>ms.length-p.1) (fun p=>p.1<=ms.length) (0,Γ.g0+2) (_c _) ?_ ?_
 .exact bs
 rintro⟨k,bR⟩ f;dsimp only at f⊢;refine bz ?_;by_cases aN:k<ms.length
 .exact vy
 obtain rfl:k=ms.length:=G;rw[tW];clear f;repeat' first|refine af ?_|refine J C ?_|refine J I ?_|refine ag ?_|refine ab ?_ ?_<;>intro h<;>try exact aa|exact al|fail
 all_goals try exfalso;simp at h;done
 refine eJ (gU ⟨.d0,.d2,.d1⟩ 5 5 rfl rfl) ?_;refine bz ?_;refine bS (α:=Nat×Nat×Nat) (fun p=>[(⟨.d0,.d7,.d4⟩,.v (.int .i64 (p.1:Nat))),(⟨.d0,.d2,.d1⟩,.aG 5 p.2.1 5 0 (bH 6 ad po (av l now (ms.take p.1))).length false),(⟨.d0,.d2,.d2⟩,.v (.int .i64 (hW 6 ad po (av l now (ms.take p.1)) (-1))))]) (fun p=>[(3,none),(4,none),(5,some ⟨p.2.1,5,(bH 6 ad po (av l now (ms.take p.1))).map Mp.enc⟩)]) (fun p=>p.2.2) (fun p=>ms.length-p.1) (fun p=>p.1<=ms.length) (0,bR,bR+1) (_c _) ?_ ?_
 .exact bs
 rintro⟨k,n8,bR⟩ f;dsimp only at f⊢;refine bz ?_;by_cases aN:k<ms.length
 .exact NB
 obtain rfl:k=ms.length:=G;rw[_e];have aE:(bH 6 ad po (av l now ms)).length<=ms.length:=_k (_a _ _) (_a _ _);rw[M];generalize bH 6 ad po (av l now ms)=c at *;clear b8;generalize av l now ms=aI at *;have ac:True:=trivial;have h8:True:=trivial;have aj:True:=trivial;have s6:(c.map Mp.enc).length=c.length:=_b _;have kQ:c.map Mp.enc++[[.v (.int .i64 6),.v (.int .u32 ad),.v (.int .i64 po),.v (.int .i64 o),.v (.int .i64 now)]]=(c++[(⟨6,ad,po,o,now⟩:Mp)]).map Mp.enc:=nu;have ak:=mW ah t1 17 (c++[(⟨6,ad,po,o,now⟩:Mp)]) false sa Y Q u;have am:=mW ai t2 6 (c++[(⟨6,ad,po,o,now⟩:Mp)]) false sa Z U u;have r3:=fun g=>kl g (c++[(⟨6,ad,po,o,now⟩:Mp)])
 repeat' first|refine af ?_|refine gC 9 rfl ak ⟨⟨rfl,rfl,rfl⟩,.inl ⟨rfl,rfl,aF,sE⟩,rfl,rfl⟩ rfl ?_|refine gC 9 rfl am ⟨⟨rfl,rfl,rfl⟩,.inl ⟨rfl,rfl,aF,sE⟩,rfl,rfl⟩ rfl ?_|refine gC 5 rfl ac ⟨⟨rfl,rfl,rfl⟩,.inl ⟨rfl,rfl,aF,kP⟩,rfl,rfl⟩ rfl ?_|refine gC 5 rfl h8 ⟨⟨rfl,rfl,rfl⟩,.inl ⟨rfl,rfl,aF,kP⟩,rfl,rfl⟩ rfl ?_|refine J aj ?_|refine ag ?_|refine ab ?_ ?_<;>intro h<;>try exact aa|refine aK ⟨aH,Fv⟩ ?_|exact al|fail
 all_goals try exfalso;simp at h;done
 rw[kQ];refine ev (j_ an 1 9 ae (ys:=[[.v (.int .i64 l),.v (.int .i64 ah),.v (.int .u64 (aQ ah 17 (c++[(⟨6,ad,po,o,now⟩:Mp)]):Nat)),.v (.int .i64 ai),.v (.int .u64 (aQ ai 6 (c++[(⟨6,ad,po,o,now⟩:Mp)]):Nat)),.snap 5 ((c++[(⟨6,ad,po,o,now⟩:Mp)]).map Mp.enc) false]]) rfl rfl ⟨⟨rfl,rfl,rfl,rfl,rfl,Or.inl ⟨rfl,rfl,aF,kP⟩,rfl⟩,rfl⟩) ?_;all_goals exact tw
theorem akU(m:dQ l ah t1 ai t2 ms=0)(j:((0<=po/\po<=65535)/\dh ms<=now/\now<=1099511627776)){o:Int}(M:hW 17 ad po (av l now ms) (-1)=o)(ao:0<=o)(Q:gw ah 17 (bH 17 ad po (av l now ms)++[⟨17,ad,po,o,now⟩]))(U:gw ai 6 (bH 17 ad po (av l now ms)++[⟨17,ad,po,o,now⟩]))(u:((bH 17 ad po (av l now ms)++[(⟨17,ad,po,o,now⟩:Mp)]).map dd).Nodup):
 Spec prog 132 [eK l ah t1 ai t2 ms,.v (.int .i64 17),.v (.int .u32 ad),.v (.int .i64 po),.v (.int .i64 now)] (hJ l ah (aQ ah 17 (bH 17 ad po (av l now ms)++[⟨17,ad,po,o,now⟩])) ai (aQ ai 6 (bH 17 ad po (av l now ms)++[⟨17,ad,po,o,now⟩])) (bH 17 ad po (av l now ms)++[⟨17,ad,po,o,now⟩]) o 0):=by
 have X:ms.length<=maxLen:=fg;have h2:=o5 l ah t1 ai t2 ms X h10 cr;rw[m]at h2;obtain⟨ap,z,b8,-,-⟩:=oU h10 cr m;have Y:=(ji z.1).1;have Z:=(ji z.2).1;have au:(ms.map Mp.enc).length=ms.length:=_b _;have C:=cA po 0 65535;have I:=cA now (dh ms) 1099511627776;rw[decide_eq_true j.1]at C;rw[decide_eq_true j.2]at I;obtain⟨aw,ax,aA⟩:=j;have aC:0<=dh ms:=by exact so
 have aD:(av l now ms).length<=ms.length:=_a _ _;refine az {} 0 func132 fun Γ an=>ar ?_
 repeat' first|refine af ?_|refine J h2 ?_|refine ag ?_|refine ab ?_ ?_<;>intro h<;>try exact aa|exact al|fail
 all_goals try exfalso;simp at h;done
 refine bS (α:=Nat×Nat) (fun p=>[(⟨.d0,.d5,.d0⟩,.v (.int .i64 (p.1:Nat))),(⟨.d0,.d1,.d6⟩,.v (.int .i64 (oh ms p.1)))]) (fun p=>[(2,none)]) (fun p=>p.2) (fun p=>ms.length-p.1) (fun p=>p.1<=ms.length) (0,Γ.g0+2) (_c _) ?_ ?_
 .exact bs
 rintro⟨k,bR⟩ f;dsimp only at f⊢;refine bz ?_;by_cases aN:k<ms.length
 .exact vy
 obtain rfl:k=ms.length:=G;rw[tW];clear f;repeat' first|refine af ?_|refine J C ?_|refine J I ?_|refine ag ?_|refine ab ?_ ?_<;>intro h<;>try exact aa|exact al|fail
 all_goals try exfalso;simp at h;done
 refine eJ (gU ⟨.d0,.d2,.d1⟩ 5 5 rfl rfl) ?_;refine bz ?_;refine bS (α:=Nat×Nat×Nat) (fun p=>[(⟨.d0,.d7,.d4⟩,.v (.int .i64 (p.1:Nat))),(⟨.d0,.d2,.d1⟩,.aG 5 p.2.1 5 0 (bH 17 ad po (av l now (ms.take p.1))).length false),(⟨.d0,.d2,.d2⟩,.v (.int .i64 (hW 17 ad po (av l now (ms.take p.1)) (-1))))]) (fun p=>[(3,none),(4,none),(5,some ⟨p.2.1,5,(bH 17 ad po (av l now (ms.take p.1))).map Mp.enc⟩)]) (fun p=>p.2.2) (fun p=>ms.length-p.1) (fun p=>p.1<=ms.length) (0,bR,bR+1) (_c _) ?_ ?_
 .exact bs
 rintro⟨k,n8,bR⟩ f;dsimp only at f⊢;refine bz ?_;by_cases aN:k<ms.length
 .exact JA
 obtain rfl:k=ms.length:=G;rw[_e];have aE:(bH 17 ad po (av l now ms)).length<=ms.length:=_k (_a _ _) (_a _ _);rw[M];generalize bH 17 ad po (av l now ms)=c at *;clear b8;generalize av l now ms=aI at *;have ac:True:=trivial;have h8:True:=trivial;have aj:True:=trivial;have s6:(c.map Mp.enc).length=c.length:=_b _;have kQ:c.map Mp.enc++[[.v (.int .i64 17),.v (.int .u32 ad),.v (.int .i64 po),.v (.int .i64 o),.v (.int .i64 now)]]=(c++[(⟨17,ad,po,o,now⟩:Mp)]).map Mp.enc:=nu;have ak:=mW ah t1 17 (c++[(⟨17,ad,po,o,now⟩:Mp)]) false sa Y Q u;have am:=mW ai t2 6 (c++[(⟨17,ad,po,o,now⟩:Mp)]) false sa Z U u;have r3:=fun g=>kl g (c++[(⟨17,ad,po,o,now⟩:Mp)])
 repeat' first|refine af ?_|refine gC 9 rfl ak ⟨⟨rfl,rfl,rfl⟩,.inl ⟨rfl,rfl,aF,sE⟩,rfl,rfl⟩ rfl ?_|refine gC 9 rfl am ⟨⟨rfl,rfl,rfl⟩,.inl ⟨rfl,rfl,aF,sE⟩,rfl,rfl⟩ rfl ?_|refine gC 5 rfl ac ⟨⟨rfl,rfl,rfl⟩,.inl ⟨rfl,rfl,aF,kP⟩,rfl,rfl⟩ rfl ?_|refine gC 5 rfl h8 ⟨⟨rfl,rfl,rfl⟩,.inl ⟨rfl,rfl,aF,kP⟩,rfl,rfl⟩ rfl ?_|refine J aj ?_|refine ag ?_|refine ab ?_ ?_<;>intro h<;>try exact aa|refine aK ⟨aH,Fv⟩ ?_|exact al|fail
 all_goals try exfalso;simp at h;done
 rw[kQ];refine ev (j_ an 1 9 ae (ys:=[[.v (.int .i64 l),.v (.int .i64 ah),.v (.int .u64 (aQ ah 17 (c++[(⟨17,ad,po,o,now⟩:Mp)]):Nat)),.v (.int .i64 ai),.v (.int .u64 (aQ ai 6 (c++[(⟨17,ad,po,o,now⟩:Mp)]):Nat)),.snap 5 ((c++[(⟨17,ad,po,o,now⟩:Mp)]).map Mp.enc) false]]) rfl rfl ⟨⟨rfl,rfl,rfl,rfl,rfl,Or.inl ⟨rfl,rfl,aF,kP⟩,rfl⟩,rfl⟩) ?_;all_goals exact tw
end
end Go.Proofs.YtdiobdlinjgakaaGreatDoor.A
