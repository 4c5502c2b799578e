import Derived.Test.YtdiobdlinjgakaaGreatDoorDh12
set_option linter.unusedVariables false
set_option linter.unusedSimpArgs false
set_option maxHeartbeats 8000000
set_option maxRecDepth 100000
open Go.Proofs.Tryz
open List renaming getElem?_eq_getElem->_a,drop_eq_getElem_cons->_c,mem_of_getElem?->_j,take_length->_k,length_take->_l,take_left'->_m,mem_append->_n,length_map->_o,map->_p
open Go.IntKind renaming i64->_b
open Int renaming toNat_natCast->_d
open Nat renaming zero_add->_e,sub_lt_sub_left->_g,lt_succ_self->_h,le_refl->_i
open Option.some renaming inj->_f
namespace Go.Proofs.YtdiobdlinjgakaaGreatDoor.T
attribute [local irreducible] bc Go
theorem afj(l:List aE)(c:Bool)(hl:cx l.length 48):ml prog 211 [.snap 7 (l.map aE.enc) c] [] (fun n d H=>d=.aG 1 n 7 0 l.length false/\H=[some ⟨n,7,l.map aE.enc⟩]):=by
 have b:∀r:List aE,eW (r.map aE.enc)=true:=j2 (fun x=>rfl);cases l with
 |nil=>
  refine yX {} 0 func211 fun Γ an=>ar ?_
  dsimp only[_p];repeat' first|refine af ?_|with_reducible refine hZ ?_|refine ag ?_|refine ab ?_ ?_<;>intro h<;>try exact aa|fail
  .refine Wz (j1 (gU ⟨.d0,.d0,.d2⟩ 1 7 rfl rfl)) ?_;exact ua 1 (fun n=>.aG 1 n 7 0 0 false) trivial rfl (_i _) trivial (fun n=>.inl ⟨rfl,rfl⟩) (fun n=>⟨rfl,rfl⟩)
  exact ua 1 (fun n=>.aG 1 n 7 0 0 false) trivial rfl Gh trivial (fun n=>.inl ⟨rfl,rfl⟩) (fun n=>⟨rfl,rfl⟩)
 |cons x r=>
  refine yX {} 0 func211 fun Γ an=>ar ?_
  dsimp only[_p];repeat' first|refine af ?_|with_reducible refine hZ ?_|refine ag ?_|refine ab ?_ ?_<;>intro h<;>try exact aa|refine aK ⟨Or.inl G,rfl,b _,yz⟩ ?_
  refine ua 1 (fun n=>.aG 1 n 7 0 (x::r).length false) trivial rfl Gh ?_ (fun n=>.inl ⟨rfl,?_⟩) (fun n=>⟨rfl,rfl⟩)
  .exact(eS (fun x=>fY):c1 Γ.g0 ((x::r).map aE.enc))
  simp[_o]
theorem qQ(j:Nat)(l:List aE)(c:Bool)(hl:cx l.length 48):ml prog 211 [.snap 7 (l.map aE.enc) c] [] (fun n d H=>d=.aG j n 7 0 l.length false/\H=[some ⟨n,7,l.map aE.enc⟩]):=
 IA (afj l c hl) (fun K w n v h=>o9 h)
theorem afK(l:List aE)(i j:Nat)(b:i<=j)(c:j<=l.length)(hl:l.length<=maxLen)(n:Nat):b1 prog 286 [.aG 0 n 7 0 l.length false,.v (.int .i64 i),.v (.int .i64 j)] [some ⟨n,7,l.map aE.enc⟩] (fun d H=>d=.aG 0 n 7 0 (l.take i++l.drop j).length false/\H=[some ⟨n,7,(l.take i++l.drop j).map aE.enc⟩]):=by
 have yo:∀r:List aE,eW (r.map aE.enc)=true:=j2 (fun x=>rfl);have JB:cp (cC (l.map aE.enc) j) ((l.length:Int)-j).toNat=(l.drop j).map aE.enc:=zl;have fa:(cp (l.map aE.enc) i++((l.drop j).map aE.enc++cC (l.map aE.enc) (i+(l.length-j)))).length=l.length:=FP;unfold maxLen at hl;refine ej {inpl:=true} 1 func286 fun Γ cT f=>ar ?_
 exact HV
theorem afM(k:Nat)(l:List aE)(i j:Nat)(b:i<=j)(c:j<=l.length)(hl:l.length<=maxLen)(n:Nat):b1 prog 286 [.aG k n 7 0 l.length false,.v (.int .i64 i),.v (.int .i64 j)] [some ⟨n,7,l.map aE.enc⟩] (fun d H=>d=.aG k n 7 0 (l.take i++l.drop j).length false/\H=[some ⟨n,7,(l.take i++l.drop j).map aE.enc⟩]):=
 jw k (xp (afK l i j b c hl n) (fun _ _ _=>o9))
theorem Zb{g:FuncId}{caps:List O}(p:aE->Bool)(l:List aE)(hl:l.length<=maxLen)(n:Nat)(j:∀t∈l,Spec prog g (.agg (aE.enc t)::caps) (.v (.bool (p t)))):b1 prog 237 [.aG 0 n 7 0 l.length false,.fn (.func g) [] caps] [some ⟨n,7,l.map aE.enc⟩] (fun d H=>d=.v (.int .i64 (bU p l 0))/\H=[some ⟨n,7,l.map aE.enc⟩]):=by
 unfold maxLen at hl;refine ej {} 0 func237 fun Γ m z=>ar ?_
 have f:n<Γ.g0:=m 0 _ rfl;repeat' first|refine af ?_|refine ag ?_|refine ab ?_ ?_<;>intro h<;>try exact aa|fail
 refine bS (α:=Nat) (fun k=>[(⟨.d0,.d1,.d0⟩,.v (.int .i64 (k:Nat)))]) (fun _=>[]) (fun _=>Γ.g0) (fun k=>l.length-k) (fun k=>k<=l.length/\bU p l 0=bU p (l.drop k) k) 0 ⟨Nat.zero_le _,rfl⟩ ?_ ?_
 .exact bs
 rintro k ⟨C,a6⟩;refine bz ?_;by_cases aN:k<l.length
 .obtain⟨t,c⟩:∃t,l[k]?=some t:=⟨_,_a aN⟩;have q:=h7 aE.enc l k t c;have u:=j t (_j c);rw[_c aN,show l[k]=t from _f ((_a aN).symm.trans c)]at a6;repeat' first|refine af ?_|refine J u ?_|refine ag ?_|refine ab ?_ ?_<;>intro h<;>try exact aa|simp only[_d,q,_e]|refine aK ⟨wR,aH⟩ ?_|exact al|fail
  .refine iT trivial trivial ?_ rfl f (eS (fun x=>fY)) rfl;rw[a6];simp[bU, *];rfl
  refine br ?_;refine⟨k+1,⟨Nat.succ_le_of_lt aN,Y1⟩,_g aN (_h k),?_⟩;exact uX
 repeat' first|refine af ?_|refine ag ?_|refine ab ?_ ?_<;>intro h<;>try exact aa|exact al|fail
 refine iT trivial trivial ?_ rfl f (eS (fun x=>fY)) rfl;obtain rfl:k=l.length:=G;exact Xd
theorem FL(k:Nat){g:FuncId}{caps:List O}(p:aE->Bool)(l:List aE)(hl:l.length<=maxLen)(n:Nat)(b:∀t∈l,Spec prog g (.agg (aE.enc t)::caps) (.v (.bool (p t)))):b1 prog 237 [.aG k n 7 0 l.length false,.fn (.func g) [] caps] [some ⟨n,7,l.map aE.enc⟩] (fun d H=>d=.v (.int .i64 (bU p l 0))/\H=[some ⟨n,7,l.map aE.enc⟩]):=
 jw k (Zb p l hl n b)
theorem afQ{g:FuncId}{Q:List O}(p:aE->Bool)(l:List aE)(hl:l.length<=maxLen)(n:Nat)(ae:∀t∈l,Spec prog g (.agg (aE.enc t)::Q) (.v (.bool (p t)))):b1 prog 283 [.aG 0 n 7 0 l.length false,.fn (.func g) [] Q] [some ⟨n,7,l.map aE.enc⟩] (fun d H=>d=.aG 0 n 7 0 (l.filter (fun t=>!p t)).length false/\H=[some ⟨n,7,(l.filter (fun t=>!p t)).map aE.enc⟩]):=by
 have I:=Zb (g:=g) (caps:=Q) p l hl n ae;unfold maxLen at hl;rcases oz p l 0 with⟨h1,h2⟩|⟨f,t0,h1,h2,am,an⟩
 .rw[h1]at I;refine ej {} 1 func283 fun Γ U ao=>ar ?_
  have C:n<Γ.g0:=U 0 _ rfl;repeat' first|refine af ?_|(with_reducible refine bE 0 ?_ I (fun _ _ _ h=>h) ?_);(exact rfl)|refine ag ?_|refine ab ?_ ?_<;>intro h<;>try exact aa|fail
  rw[O0 h2];exact iT trivial C rfl rfl C (eS (fun x=>fY)) rfl
 rw[an,_e]at I;have X:f<l.length:=(List.getElem?_eq_some_iff.1 h1).1;have Y:(l.take (f+1)).filter (fun t=>!p t)=l.take f:=by
  rw[List.take_add_one,h1,List.filter_append,O0 am];simp[h2]
 refine ej {} 1 func283 fun Γ U ao=>ar ?_
 have C:n<Γ.g0:=U 0 _ rfl;repeat' first|refine af ?_|(with_reducible refine bE 0 ?_ I (fun _ _ _ h=>h) ?_);(exact rfl)|refine ag ?_|refine ab ?_ ?_<;>intro h<;>try exact aa|fail
 refine bS (α:=Nat×Nat×List (List O)) (fun a=>[(⟨.d0,.d0,.d5⟩,.v (.int .i64 (((l.take a.1).filter (fun t=>!p t)).length:Nat))),(⟨.d0,.d0,.d6⟩,.v (.int .i64 (a.1:Nat)))]) (fun a=>[(0,some ⟨n,7,((l.take a.1).filter (fun t=>!p t)).map aE.enc++(a.2.2++(l.drop a.1).map aE.enc)⟩),(1,none)]) (fun a=>a.2.1) (fun a=>l.length-a.1)
  (fun a=>a.1<=l.length/\((l.take a.1).filter (fun t=>!p t)).length+a.2.2.length=a.1/\0<a.2.2.length/\∀x∈a.2.2,∃t:aE,x=aE.enc t) (f+1,Γ.g0,[aE.enc t0]) ⟨X,by rw[Y,_l];simp;omega,aF,fun x aP=>⟨t0,xZ⟩⟩ ?_ ?_
 .refine dB ?_ ?_ (_i _);all_goals first|refine dD ?_|exact dE
  all_goals repeat' first|exact trivial|exact rfl|apply And.intro
  all_goals first
   |exact eG (by rw[Y,_l];omega)
   |exact nR
   |(refine congrArg some (congrArg (aR.mk n 7) ?_)
     have:t0::l.drop (f+1)=l.drop f:=by rw[_c X,show l[f]=t0 from _f ((_a X).symm.trans h1)]
     rw[Y,show[aE.enc t0]++(l.drop (f+1)).map aE.enc=(t0::l.drop (f+1)).map aE.enc from rfl,this,<-List.map_append,List.take_append_drop])
 rintro⟨j,ah,z⟩ ⟨ap,fa,ai,M⟩;dsimp only at ap fa ai M⊢;refine bz ?_;by_cases m:j<l.length
 .obtain⟨t,bT⟩:∃t,l[j]?=some t:=⟨_,_a m⟩;have aq:=ae t (_j bT);have au:=afX (f:=aE.enc) (((l.take j).filter (fun t=>!p t)).map aE.enc) z bT (by simpa using fa);have aj:(l.drop j).map aE.enc=aE.enc t::(l.drop (j+1)).map aE.enc:=by rw[_c m,show l[j]=t from _f ((_a m).symm.trans bT)];rfl
  have fC:l.take (j+1)=l.take j++[t]:=OE;have Z:(((l.take j).filter (fun t=>!p t)).map aE.enc++(z++(l.drop j).map aE.enc)).length=l.length:=c7;repeat' first|refine af ?_|refine J aq ?_|refine ag ?_|refine ab ?_ ?_<;>intro h<;>try exact aa|simp only[_d,au,_e]|refine aK ⟨by(rw[Z];omega),aH⟩ ?_|exact al|fail
  .obtain⟨x,u,rfl⟩:∃x u,z=x::u:=by
    cases z with
    |nil=>simp at ai
    |cons x u=>exact⟨x,u,rfl⟩
   obtain⟨ac,rfl⟩:=M x aF;have Zw:p t=false:=hc;have w1:(l.take (j+1)).filter (fun t=>!p t)=(l.take j).filter (fun t=>!p t)++[t]:=W9;have ak:=Ip (aE.enc ac) (aE.enc t) u ((l.drop j).map aE.enc) (((l.take j).filter (fun t=>!p t)).map aE.enc);rw[_o]at ak;have av:cf (((l.take j).filter (fun t=>!p t)).map aE.enc++(aE.enc ac::u++(l.drop j).map aE.enc)) ((l.take j).filter (fun t=>!p t)).length=aE.enc ac:=by
    rw[lZ,List.getElem?_append_right aF];simp
   refine br ⟨(j+1,ah+1,u++[aE.enc t]),⟨m,Yo,aF,fun y c=>?_⟩,_g m (_h j),?_⟩
   .rcases _n.1 c with c|c
    .exact M y (List.mem_cons_of_mem _ c)
    exact⟨t,by simpa using c⟩
   refine dB ?_ ?_ (_i _);all_goals first|refine dD ?_|exact dE
   all_goals repeat' first|exact trivial|exact rfl|apply And.intro
   all_goals first
    |exact eG ((IntWalk.i64_in _ G).trans (by rw[w1];simp))
    |exact nR
    |(refine congrArg some (congrArg (aR.mk n 7) ?_)
      rw[av];refine ak.trans ?_;rw[aj,w1];simp)
  have Zw:p t=true:=hc;have w1:(l.take (j+1)).filter (fun t=>!p t)=(l.take j).filter (fun t=>!p t):=W9;refine br ⟨(j+1,ah+1,z++[aE.enc t]),⟨m,Yo,aF,fun y c=>?_⟩,_g m (_h j),?_⟩
  .rcases _n.1 c with c|c
   .exact M y c
   exact⟨t,by simpa using c⟩
  refine dB ?_ ?_ (_i _);all_goals first|refine dD ?_|exact dE
  all_goals repeat' first|exact trivial|exact rfl|apply And.intro
  all_goals first
   |exact eG (by rw[w1])
   |exact nR
   |(refine congrArg some (congrArg (aR.mk n 7) ?_)
     rw[aj,w1];simp)
 obtain rfl:j=l.length:=G;rw[_k]at fa;simp only[_k,List.drop_length,List.map_nil,List.append_nil];have Z:((l.filter (fun t=>!p t)).map aE.enc++z).length=l.length:=c7;repeat' first|refine af ?_|refine ag ?_|refine ab ?_ ?_<;>intro h<;>try exact aa|refine aK ⟨aH,aH,aH,by(simp only[_d,_e];rw[Z];omega),aH⟩ ?_|exact al|fail
 refine ev (j1 (UI 0 (l.filter (fun t=>!p t)).length rfl)) (iT trivial C ?_ rfl C (eS (fun x=>fY)) ?_)
 .exact congrArg (fun q=>O.aG 0 n 7 0 q false) G
 dsimp only;rw[hh,hh,_d,_e,_m aF,_m aF]
theorem Ui(k:Nat){g:FuncId}{caps:List O}(p:aE->Bool)(l:List aE)(hl:l.length<=maxLen)(n:Nat)(b:∀t∈l,Spec prog g (.agg (aE.enc t)::caps) (.v (.bool (p t)))):b1 prog 283 [.aG k n 7 0 l.length false,.fn (.func g) [] caps] [some ⟨n,7,l.map aE.enc⟩] (fun d H=>d=.aG k n 7 0 (l.filter (fun t=>!p t)).length false/\H=[some ⟨n,7,(l.filter (fun t=>!p t)).map aE.enc⟩]):=
 jw k (xp (afQ p l hl n b) (fun _ _ _=>o9))
def B8(s o:Int)(c op:Bool):Int×Int:=
 let b:=if c then(if op then bits .or .i64 o 1 else bits .or .i64 o 2)else o
 (if b=3 then 4 else max s 3,b)
def dK(s o:Int)(c bo b op:Bool):Bool×Int×Int:=
 if s<=2/\(op&&c && !bo && !b)=true then(true,s,o)
 else if s<=2/\(!op&&c&&bo && !b)=true then(true,2,o)
 else if s=1\/(s=2/\op=false)then(false,s,o)
 else if(!bo||c)=true then(false,s,o)
 else(true,(B8 s o b op).1,(B8 s o b op).2)
abbrev R3(b bo c f op:Bool):O:=.agg [.v (.bool b),.v (.bool bo),.v (.bool c),.v (.bool f),.v (.bool op)]
theorem akm(n:Nat)(a b c d s o x:Int)(f bo g j op:Bool):b1 prog 290 [.ptr 0 n 7 0 0,R3 f bo g j op] [some ⟨n,7,[uD a b c d s o x]⟩] (fun D H=>D=.v (.bool (bo && !f))/\H=[some ⟨n,7,[if(!bo||f)=true then uD a b c d s o x else uD a b c d (B8 s o g op).1 (B8 s o g op).2 x]⟩]):=by
 cases f<;>cases bo<;>cases g<;>cases op
 all_goals
 refine ej {} 1 func290 fun Γ m u=>ar ?_
 have q:n<Γ.g0:=m 0 _ rfl;repeat' first|refine af ?_|refine ag ?_|refine ab ?_ ?_<;>intro h<;>try exact aa|refine aK ⟨aH,aH⟩ ?_|exact al|fail
 all_goals (refine iT trivial trivial rfl rfl q RJ ?_)
 all_goals (simp_all [B8])
theorem ah_(n:Nat)(a b c d s o x:Int)(f bo g j op:Bool):b1 prog 285 [.ptr 0 n 7 0 0,R3 f bo g j op] [some ⟨n,7,[uD a b c d s o x]⟩] (fun D H=>D=.v (.bool (dK s o f bo g op).1)/\H=[some ⟨n,7,[uD a b c d (dK s o f bo g op).2.1 (dK s o f bo g op).2.2 x]⟩]):=by
 have m:=akm n a b c d s o x f bo g j op;cases f<;>cases bo<;>cases g<;>cases op
 all_goals
 refine ej {} 1 func285 fun Γ q z=>ar ?_
 have u:n<Γ.g0:=q 0 _ rfl;repeat' first|refine af ?_|(with_reducible refine bE 0 ?_ m (fun _ _ _ h=>h) ?_);(exact rfl)|refine ag ?_|refine ab ?_ ?_<;>intro h<;>try exact aa|refine aK ⟨aH,aH⟩ ?_|exact al|fail
 all_goals (refine iT trivial trivial (fA ?_) rfl u RJ ?_)
 all_goals first|simp_all [dK];done|simp_all [dK];rw[if_neg G]<;>simp
def na(aM:Int)(b bo c f:Bool):Prop:=
 bits .and .i64 aM 2=(if b then 2 else 0)/\bits .and .i64 aM 16=(if bo then 16 else 0)/\bits .and .i64 aM 1=(if c then 1 else 0)/\bits .and .i64 aM 4=(if f then 4 else 0)/\
 bits .and .i64 aM 18=(if b then 2 else 0)+(if bo then 16 else 0)/\aM.tmod 2=(if c then 1 else 0)/\bits .and .i64 aM 23=(if b then 2 else 0)+(if bo then 16 else 0)+(if c then 1 else 0)+(if f then 4 else 0)
instance (aM:Int) (a b c d:Bool):Decidable (na aM a b c d):=by unfold na;exact inferInstance
theorem ab3:∀f:Fin 256,na (f.val:Int) (decide (f.val/2%2=1)) (decide (f.val/16%2=1)) (decide (f.val%2=1)) (decide (f.val/4%2=1)):=n7
theorem abf:_b.wrap (0+1)=1:=ae
theorem ahX:_b.wrap (0+2)=2:=ae
theorem ajP:_b.wrap (1+2)=3:=ae
theorem acL:_b.wrap (2+1)=3:=ae
theorem bl:_b.wrap 1=1:=ae
theorem bD:_b.wrap 2=2:=ae
theorem eO:_b.wrap 3=3:=ae
def py(s o:Int):Prop:=(s=1/\o=0)\/(s=2/\o=0)\/(s=3/\(o=0\/o=1\/o=2))\/(s=4/\o=3)
theorem QV(a b c d s o x aM:Int)(op:Bool)(f:bits .and .i64 aM 4=4):Spec prog 239 [hs a b c d s o x,.v (.bool op),.v (.int .i64 aM)] (.aS [hs a b c d s o x,.v (.bool false),.v (.bool true)]):=by
 refine az {} 0 func239 fun Γ an=>ar ?_
 exact o3
theorem ahd(a b c d s o x aM:Int)(da op:Bool)(fr:bits .and .i64 aM 4=0)(tj:bits .and .i64 aM 18=(if da then 2 else 0)+16)(bg:aM.tmod 2=1)(aj:py s o):Spec prog 239 [hs a b c d s o x,.v (.bool op),.v (.int .i64 aM)]
 (.aS [hs a b c d (dK s o da true true op).2.1 (dK s o da true true op).2.2 x,.v (.bool true),.v (.bool (dK s o da true true op).1)]):=by
 exact DX
theorem agv(a b c d s o x aM:Int)(da op:Bool)(fr:bits .and .i64 aM 4=0)(tj:bits .and .i64 aM 18=(if da then 2 else 0)+16)(bg:aM.tmod 2=0)(aj:py s o):Spec prog 239 [hs a b c d s o x,.v (.bool op),.v (.int .i64 aM)]
 (.aS [hs a b c d (dK s o da true false op).2.1 (dK s o da true false op).2.2 x,.v (.bool true),.v (.bool (dK s o da true false op).1)]):=by
 exact DX
theorem afw(a b c d s o x aM:Int)(da op:Bool)(fr:bits .and .i64 aM 4=0)(tj:bits .and .i64 aM 18=(if da then 2 else 0)+0)(bg:aM.tmod 2=1)(aj:py s o):Spec prog 239 [hs a b c d s o x,.v (.bool op),.v (.int .i64 aM)]
 (.aS [hs a b c d (dK s o da false true op).2.1 (dK s o da false true op).2.2 x,.v (.bool true),.v (.bool (dK s o da false true op).1)]):=by
 exact DX
theorem aiO(a b c d s o x aM:Int)(da op:Bool)(fr:bits .and .i64 aM 4=0)(tj:bits .and .i64 aM 18=(if da then 2 else 0)+0)(bg:aM.tmod 2=0)(aj:py s o):Spec prog 239 [hs a b c d s o x,.v (.bool op),.v (.int .i64 aM)]
 (.aS [hs a b c d (dK s o da false false op).2.1 (dK s o da false false op).2.2 x,.v (.bool true),.v (.bool (dK s o da false false op).1)]):=by
 exact DX
theorem aeG(a b c d s o x aM:Int)(f bo j m op:Bool)(z:na aM f bo j m)(aj:py s o):Spec prog 239 [hs a b c d s o x,.v (.bool op),.v (.int .i64 aM)]
 (.aS [if m then hs a b c d s o x else hs a b c d (dK s o f bo j op).2.1 (dK s o f bo j op).2.2 x,.v (.bool (!m)),.v (.bool (m||(dK s o f bo j op).1))]):=by
 obtain⟨-,-,-,g,q,u,-⟩:=z;cases m with
 |true=>exact QV a b c d s o x aM op (by simpa using g)
 |false=>cases bo<;>cases j<;>simp only[if_true,if_false,Bool.false_eq_true]at g q u<;>first|exact ahd a b c d s o x aM f op g q u aj|exact agv a b c d s o x aM f op g q u aj|exact afw a b c d s o x aM f op g q u aj|exact aiO a b c d s o x aM f op g q u aj
end Go.Proofs.YtdiobdlinjgakaaGreatDoor.T
