import Derived.Test.YtdiobdlinjgakaaGreatDoorDh21
import Derived.Test.YtdiobdlinjgakaaGreatDoorDh20
set_option linter.unusedVariables false
set_option linter.unusedSimpArgs false
set_option maxHeartbeats 8000000
set_option maxRecDepth 100000
open Go.Proofs.Tryz
open UInt8 renaming ofNat->_a,ofNat_toNat->_j
open Option.some renaming inj->_b
open List renaming length_cons->_c,length_append->_k
open Int renaming toNat_natCast->_d,tmod->_i
open Go.IntKind renaming i64->_e,u8->_f
open Nat renaming mod_two_eq_zero_or_one->_g,le_refl->_n
open Go.Lib renaming parseUintB->_h,indexByte->_l,decDigits->_m
namespace Go.Proofs.YtdiobdlinjgakaaGreatDoor.R
attribute [local irreducible] bc Go
abbrev ik(n:Nat)(l:List ak):aR:=⟨n,1,[[.snap 1 (bk (l.map I)) false]]⟩
theorem p5(l:List ak)(g:Nat):c1 g (bk (l.map I)):=eS (fun x=>fY)
theorem mm(H:aV):im H [none]:=by
 cases H with
 |nil=>exact⟨trivial,trivial⟩
 |cons o r=>exact⟨trivial,by cases r<;>trivial⟩
theorem lW(n:Nat)(s:ak)(r:List ak):b1 prog 41 [.ptr 0 n 1 0 0] [some (ik n (s::r))] (fun d H=>d=.v (.string (I s))/\H=[some (ik n r)]):=by
 have e:bk ((s::r).map I)=[.v (.string (I s))]::bk (r.map I):=rfl;have f:=p5 r;have g:=l5;unfold ik;rw[e];generalize bk (r.map I)=c at *;have j:cp (cC c 0) (((c.length+1:Nat):Int)-1).toNat=c:=e1 G;have m:decide ((0:Int)<((c.length+1:Nat):Int))=true:=decide_eq_true G;refine ej {} 0 func41 fun Γ q x=>ar ?_
 have u:n<Γ.g0:=q 0 _ rfl;repeat' first|refine af ?_|simp only[j,m]|refine J g ?_|refine ag ?_|refine ab ?_ ?_<;>intro h<;>try exact aa|exact al|fail
 exact iT trivial trivial rfl rfl u ⟨⟨f _,trivial⟩,trivial⟩ rfl
theorem Fy(n:Nat):gS prog 41 [.ptr 0 n 1 0 0] [some (ik n [])] (iI 10) [none]:=by
 have c:=mq;show gS prog _ [.ptr 0 n 1 0 0] [some ⟨n,1,[[.snap 1 [] false]]⟩] (iI 10) [none];refine eu {} 0 func41 fun Γ g j b=>ep ?_
 have f:=fun st=>b st (mm _) trivial
 clear b;repeat' first|(with_reducible refine eN 5 _ rfl ?_);(repeat' first|refine af ?_|refine eR ?_|refine ab ?_ ?_<;>intro h<;>try exact aa);(all_goals exact eT [] ae rfl rfl c (f _));done|refine af ?_|refine ag ?_|refine ab ?_ ?_<;>intro h<;>try exact aa
def Dl(w:ak):O:=match _h 32 w with
 |.ok n=>.aS [.v (.int .u64 (n:Nat)),.v .nilIface]
 |.range=>.aS [.v (.int .u64 4294967295),.e7]
 |_=>.aS [.v (.int .u64 0),.e7]
theorem RL(l:ak)(hl:l.length<=1048576):Spec prog 97 [.v (.string (I l)),.v (.int .i64 10),.v (.int .i64 32)] (Dl l):=by
 have bf:(I l).data.toList=l:=nY;have C:(I l).size=l.length:=aU l;refine r4 b4 fun K w J g0 q u=>?_
 obtain⟨M,Q,U,rfl,aw,aY,z⟩:=Ds u;cases aw;cases aY;cases z;unfold Dl;have aS:∀ {f:World} (a:Value) (b:Value) (d:O),aJ (K.cut w) f d b->aJ (K.cut w) f (.aS [.v a,d]) (.tuple #[a,b]):=fun a b d bf=>.aS rfl fun i x c aP bn=>by exact Nd
 cases a6:_h 32 l with
 |ok n=>
  refine(Tryz.strconv_ParseUint_10_at32_ok (I l) G n q3 w).mono fun e f ⟨g,cy⟩=>⟨_,g,?_,aS _ _ _ (.v _)⟩
  exact Im
 |range=>
  obtain⟨j,h1,h2⟩:=yU q (g:=5) qt;exact(Tryz.strconv_ParseUint_10_at32_range (I l) G q3 j w h1 h2).mono fun e f ⟨N,g,_,_,m⟩=>⟨_,g,pN m,aS _ _ _ (.e7 _ _)⟩
 |_=>
  obtain⟨j,h1,h2⟩:=yU q (g:=4) qt;exact(Tryz.strconv_ParseUint_10_at32_syntax (I l) G q3 j w h1 h2).mono fun e f ⟨N,g,_,_,m⟩=>⟨_,g,pN m,aS _ _ _ (.e7 _ _)⟩
def hH(l:List ak):Prop:=∀w∈l,w.length<=1048576
theorem vF(n:Nat)(l r:List ak)(v:Int)(hl:hH l)(h:eo gg l=some (v,r)):b1 prog 51 [.ptr 0 n 1 0 0] [some (ik n l)] (fun d H=>d=.v (.int .i64 v)/\H=[some (ik n r)]):=by
 obtain⟨s,rfl,aj⟩:=rN h;have h1:=lW n s r;have g:=hl s aF;have j:=l5;obtain⟨c,rfl,O,m,Q,q⟩:=PU aj;have f:=RL s g;unfold Dl at f;rw[m]at f;dsimp only at f;have u:=wv c G;have x:decide (((s.length:Nat):Int)<=9)=true:=decide_eq_true G;have z:decide (I (_m c)=I s)=true:=decide_eq_true (congrArg I q);have C:_e.wrap (c:Nat)=(c:Nat):=IntWalk.i64_in _ G;refine ej {} 0 func51 fun Γ M U=>ar ?_
 have bd:n<Γ.g0:=M 0 _ rfl;repeat' first|refine af ?_|(with_reducible refine bE 0 ?_ h1 (fun _ _ _ h=>h) ?_);(exact rfl)|simp only[aU,x,z,C]|refine J f ?_|refine J u ?_|refine J j ?_|refine ag ?_|refine ab ?_ ?_<;>intro h<;>try exact aa|exact al|fail
 all_goals exact x8
theorem wA(n:Nat)(l:List ak)(hl:hH l)(h:eo gg l=none):gS prog 51 [.ptr 0 n 1 0 0] [some (ik n l)] (iI 10) [none]:=by
 rcases DZ h with rfl|⟨s,r,rfl,aj⟩
 .have h1:=Fy n;refine eu {} 0 func51 fun Γ j m cd=>ep ?_
  exact DH
 have h1:=lW n s r;have z:=hl s aF;have u:=mq;have c:=RL s z;unfold Dl at c;cases ay:_h 32 s with
 |ok v=>
  have O:=Lib.parseUintB_le ay;have f:=wv v (by have e:(2:Nat) ^ 32-1=4294967295:=ae;omega);rw[ay]at c;dsimp only at c;rcases abA aj ay with C|⟨C,M⟩
  .have g:decide (((s.length:Nat):Int)<=9)=false:=decide_eq_false G;refine eu {} 0 func51 fun Γ j m cd=>ep ?_
   have eB:=fun st=>cd st (mm _) trivial
   clear cd;repeat' first|(with_reducible refine eN 13 _ rfl ?_);(repeat' first|refine af ?_|(with_reducible refine bE 0 ?_ h1 (fun _ _ _ h=>h) ?_);(exact rfl)|simp only[aU,g]|refine J c ?_|refine J f ?_|refine eR ?_|refine ab ?_ ?_<;>intro h<;>try exact aa);(all_goals exact eT [] ae rfl rfl u (eB _));done|refine af ?_|(with_reducible refine bE 0 ?_ h1 (fun _ _ _ h=>h) ?_);(exact rfl)|simp only[aU,g]|refine J c ?_|refine J f ?_|refine ag ?_|refine ab ?_ ?_<;>intro h<;>try exact aa
  have g:decide (((s.length:Nat):Int)<=9)=true:=decide_eq_true G;have x:decide (I (_m v)=I s)=false:=decide_eq_false (fun q=>M (dF.1 q));refine eu {} 0 func51 fun Γ j m cd=>ep ?_
  have eB:=fun st=>cd st (mm _) trivial
  clear cd;repeat' first|(with_reducible refine eN 13 _ rfl ?_);(repeat' first|refine af ?_|(with_reducible refine bE 0 ?_ h1 (fun _ _ _ h=>h) ?_);(exact rfl)|simp only[aU,g,x]|refine J c ?_|refine J f ?_|refine eR ?_|refine ab ?_ ?_<;>intro h<;>try exact aa);(all_goals exact eT [] ae rfl rfl u (eB _));done|refine af ?_|(with_reducible refine bE 0 ?_ h1 (fun _ _ _ h=>h) ?_);(exact rfl)|simp only[aU,g,x]|refine J c ?_|refine J f ?_|refine ag ?_|refine ab ?_ ?_<;>intro h<;>try exact aa
 |_=>
  have f:=wv 0 ae;rw[ay]at c;dsimp only at c;refine eu {} 0 func51 fun Γ j m cd=>ep ?_
  have eB:=fun st=>cd st (mm _) trivial
  clear cd;repeat' first|(with_reducible refine eN 13 _ rfl ?_);(repeat' first|refine af ?_|(with_reducible refine bE 0 ?_ h1 (fun _ _ _ h=>h) ?_);(exact rfl)|simp only[aU,eq_self]|refine J c ?_|refine J f ?_|refine eR ?_|refine ab ?_ ?_<;>intro h<;>try exact aa);(all_goals exact eT [] ae rfl rfl u (eB _));done|refine af ?_|(with_reducible refine bE 0 ?_ h1 (fun _ _ _ h=>h) ?_);(exact rfl)|simp only[aU,eq_self]|refine J c ?_|refine J f ?_|refine ag ?_|refine ab ?_ ?_<;>intro h<;>try exact aa
theorem ahU{s:ak}{v:Int}(h:jd s=some v):s7 (e9 s)=.aS [.v (.int .u32 v),.v (.int .i64 0)]:=by
 unfold jd at h;split at h
 .rename_i q;obtain rfl:=_b h;unfold s7;rw[q]
 cases h
theorem abm{s:ak}(h:jd s=none):¬(e9 s).2=0:=by
 unfold jd at h;split at h
 .cases h
 assumption
theorem Gn(n:Nat)(l r:List ak)(v:Int)(hl:hH l)(h:eo jd l=some (v,r)):b1 prog 96 [.ptr 0 n 1 0 0] [some (ik n l)] (fun d H=>d=.v (.int .u32 v)/\H=[some (ik n r)]):=by
 obtain⟨s,rfl,aj⟩:=rN h;have h1:=lW n s r;have f:=hl s aF;have g:=l5;have c:=ID s f;rw[ahU aj]at c;refine ej {} 0 func96 fun Γ j m=>ar ?_
 have bd:n<Γ.g0:=j 0 _ rfl;repeat' first|refine af ?_|(with_reducible refine bE 0 ?_ h1 (fun _ _ _ h=>h) ?_);(exact rfl)|simp only[eq_self,decide_true]|refine J c ?_|refine J g ?_|refine ag ?_|refine ab ?_ ?_<;>intro h<;>try exact aa|exact al|fail
 all_goals exact x8
theorem SU(n:Nat)(l:List ak)(hl:hH l)(h:eo jd l=none):gS prog 96 [.ptr 0 n 1 0 0] [some (ik n l)] (iI 10) [none]:=by
 rcases DZ h with rfl|⟨s,r,rfl,aj⟩
 .have h1:=Fy n;refine eu {} 0 func96 fun Γ g j cd=>ep ?_
  exact DH
 have h1:=lW n s r;have m:=hl s aF;have q:=mq;have c:=ID s m;have u:=abm aj;unfold s7 at c;generalize (((e9 s).1:Nat):Int)=A at *;generalize (e9 s).2=E at *;have f:decide (E=0)=false:=decide_eq_false u;refine eu {} 0 func96 fun Γ g j cd=>ep ?_
 have eB:=fun st=>cd st (mm _) trivial
 clear cd;repeat' first|(with_reducible refine eN 2 _ rfl ?_);(repeat' first|refine af ?_|(with_reducible refine bE 0 ?_ h1 (fun _ _ _ h=>h) ?_);(exact rfl)|simp only[f]|refine J c ?_|refine eR ?_|refine ab ?_ ?_<;>intro h<;>try exact aa);(all_goals exact eT [] ae rfl rfl q (eB _));done|refine af ?_|(with_reducible refine bE 0 ?_ h1 (fun _ _ _ h=>h) ?_);(exact rfl)|simp only[f]|refine J c ?_|refine ag ?_|refine ab ?_ ?_<;>intro h<;>try exact aa
theorem Ga:(ByteArray.mk #[105,110]:ByteArray)=I lz:=rfl
theorem GL:(ByteArray.mk #[111,117,116]:ByteArray)=I pG:=rfl
theorem MU(n:Nat)(l r:List ak)(v:Bool)(h:eo k7 l=some (v,r)):b1 prog 49 [.ptr 0 n 1 0 0] [some (ik n l)] (fun d H=>d=.v (.bool v)/\H=[some (ik n r)]):=by
 obtain⟨s,rfl,aj⟩:=rN h;have h1:=lW n s r;have j:=l5;unfold k7 at aj;by_cases c:s=lz
 .rw[if_pos c]at aj;obtain rfl:=_b aj;have d1:decide (I s=I lz)=true:=decide_eq_true (congrArg I c);refine ej {} 0 func49 fun Γ f m=>ar ?_
  have bd:n<Γ.g0:=f 0 _ rfl;repeat' first|refine af ?_|(with_reducible refine bE 0 ?_ h1 (fun _ _ _ h=>h) ?_);(exact rfl)|simp only[Ga,GL,d1]|refine J j ?_|refine ag ?_|refine ab ?_ ?_<;>intro h<;>try exact aa|exact al|fail
  all_goals exact x8
 rw[if_neg c]at aj;by_cases g:s=pG
 .rw[if_pos g]at aj;obtain rfl:=_b aj;have d1:decide (I s=I lz)=false:=decide_eq_false (fun q=>c (dF.1 q));have d2:decide (I s=I pG)=true:=decide_eq_true (congrArg I g);refine ej {} 0 func49 fun Γ f m=>ar ?_
  have bd:n<Γ.g0:=f 0 _ rfl;repeat' first|refine af ?_|(with_reducible refine bE 0 ?_ h1 (fun _ _ _ h=>h) ?_);(exact rfl)|simp only[Ga,GL,d1,d2]|refine J j ?_|refine ag ?_|refine ab ?_ ?_<;>intro h<;>try exact aa|exact al|fail
  all_goals exact x8
 rw[if_neg g]at aj;cases aj
theorem KY(n:Nat)(l:List ak)(hl:hH l)(h:eo k7 l=none):gS prog 49 [.ptr 0 n 1 0 0] [some (ik n l)] (iI 10) [none]:=by
 rcases DZ h with rfl|⟨s,r,rfl,aj⟩
 .have h1:=Fy n;refine eu {} 0 func49 fun Γ b c cd=>ep ?_
  exact DH
 have h1:=lW n s r;have g:=hl s aF;have f:=mq;have d1:decide (I s=I lz)=false:=decide_eq_false (fun q=>by unfold k7 at aj;rw[if_pos (dF.1 q)]at aj;cases aj);have d2:decide (I s=I pG)=false:=decide_eq_false (fun q=>by
  unfold k7 at aj;split at aj
  .cases aj
  rw[if_pos (dF.1 q)]at aj;cases aj)
 refine eu {} 0 func49 fun Γ b c cd=>ep ?_
 have eB:=fun st=>cd st (mm _) trivial
 clear cd;repeat' first|(with_reducible refine eN 6 _ rfl ?_);(repeat' first|refine af ?_|(with_reducible refine bE 0 ?_ h1 (fun _ _ _ h=>h) ?_);(exact rfl)|simp only[Ga,GL,d1,d2]|refine eR ?_|refine ab ?_ ?_<;>intro h<;>try exact aa);(all_goals exact eT [] ae rfl rfl f (eB _));done|refine af ?_|(with_reducible refine bE 0 ?_ h1 (fun _ _ _ h=>h) ?_);(exact rfl)|simp only[Ga,GL,d1,d2]|refine ag ?_|refine ab ?_ ?_<;>intro h<;>try exact aa
theorem zZ(n:Nat):b1 prog 45 [.ptr 0 n 1 0 0] [some (ik n [])] (fun d H=>d=.aS []/\H=[some (ik n [])]):=by
 have c:=l5;have f:decide (((0:Nat):Int)=0)=true:=ae;show b1 prog _ [.ptr 0 n 1 0 0] [some ⟨n,1,[[.snap 1 [] false]]⟩] (fun d H=>d=.aS []/\H=[some ⟨n,1,[[.snap 1 [] false]]⟩]);refine ej {} 0 func45 fun Γ g m=>ar ?_
 have j:n<Γ.g0:=g 0 _ rfl;repeat' first|refine af ?_|simp only[f]|refine J c ?_|refine ag ?_|refine ab ?_ ?_<;>intro h<;>try exact aa|exact al|fail
 exact iT trivial trivial rfl rfl j ⟨⟨trivial,trivial⟩,trivial⟩ rfl
theorem At(n:Nat)(s:ak)(r:List ak):gS prog 45 [.ptr 0 n 1 0 0] [some (ik n (s::r))] (iI 10) [none]:=by
 have f:=mq;have e:bk ((s::r).map I)=[.v (.string (I s))]::bk (r.map I):=rfl;unfold ik;rw[e];generalize bk (r.map I)=g at *;have b:decide (((g.length+1:Nat):Int)=0)=false:=decide_eq_false G;refine eu {} 0 func45 fun Γ m q c=>ep ?_
 have j:=fun st=>c st (mm _) trivial
 clear c;repeat' first|(with_reducible refine eN 5 _ rfl ?_);(repeat' first|refine af ?_|simp only[b]|refine eR ?_|refine ab ?_ ?_<;>intro h<;>try exact aa);(all_goals exact eT [] ae rfl rfl f (j _));done|refine af ?_|simp only[b]|refine ag ?_|refine ab ?_ ?_<;>intro h<;>try exact aa
theorem k0{α:Type}{f:ak->Option α}{l r:List ak}{v:α}(h:eo f l=some (v,r))(hl:hH l):hH r:=by
 obtain⟨s,rfl,-⟩:=rN h;exact fun w b=>hl w (List.mem_cons_of_mem _ b)
abbrev FM(F:ig)(p:Int):List O:=[.v (.int .u32 F.a),.v (.int .u32 F.b),.v (.int .i64 p),.v (.int .i64 F.p),.v (.int .i64 F.q)]
theorem Nn{l r:List ak}{F:ig}(h:nM l=some (F,r)):∃c f g,eo jd l=some (F.a,c)/\eo gg c=some (F.p,f)/\eo jd f=some (F.b,g)/\eo gg g=some (F.q,r):=by
 unfold nM at h;split at h
 .cases h
 rename_i a c h1;split at h
 .cases h
 rename_i p f h2;split at h
 .cases h
 rename_i b g j;split at h
 .cases h
 rename_i q u m;obtain⟨rfl,rfl⟩:=Prod.mk.inj (_b h);exact⟨c,f,g,h1,h2,j,m⟩
theorem VX(n:Nat)(l r:List ak)(F:ig)(hl:hH l)(h:nM l=some (F,r)):b1 prog 50 [.ptr 0 n 1 0 0] [some (ik n l)] (fun d H=>d=.agg (FM F 0)/\H=[some (ik n r)]):=by
 obtain⟨b,c,f,g,j,m,v⟩:=Nn h;have h1:=Gn n l b _ hl g;have q:=k0 g hl;have h2:=vF n b c _ q j;have u:=k0 j q;have x:=Gn n c f _ u m;have z:=vF n f r _ (k0 m u) v;refine ej {} 1 func50 fun Γ C G=>ar ?_
 have bd:n<Γ.g0:=C 0 _ rfl;repeat' first|refine af ?_|(with_reducible refine bE 0 ?_ h1 (fun _ _ _ h=>h) ?_);(exact rfl)|(with_reducible refine bE 0 ?_ h2 (fun _ _ _ h=>h) ?_);(exact rfl)|(with_reducible refine bE 0 ?_ x (fun _ _ _ h=>h) ?_);(exact rfl)|(with_reducible refine bE 0 ?_ z (fun _ _ _ h=>h) ?_);(exact rfl)|refine ag ?_|refine ab ?_ ?_<;>intro h<;>try exact aa|exact al|fail
 all_goals exact x8
theorem Oi(n:Nat)(l:List ak)(hl:hH l)(h:nM l=none):gS prog 50 [.ptr 0 n 1 0 0] [some (ik n l)] (iI 10) [none]:=by
 unfold nM at h;cases j:eo jd l with
 |none=>
  have f:=SU n l hl j;refine eu {} 1 func50 fun Γ z C c=>ep ?_
  have g:=fun st=>c st (mm _) trivial
  clear c;repeat' first|(with_reducible refine eN 1 _ rfl ?_);(repeat' first|refine af ?_|refine eR ?_|refine ab ?_ ?_<;>intro h<;>try exact aa);(all_goals exact eT [0] ae rfl rfl f (g _));done|refine af ?_|refine ag ?_|refine ab ?_ ?_<;>intro h<;>try exact aa
 |some x=>
  obtain⟨a,m⟩:=x;rw[j]at h;dsimp only at h;have h1:=Gn n l m _ hl j;have G:=k0 j hl;cases q:eo gg m with
  |none=>
   have f:=wA n m G q;refine eu {} 1 func50 fun Γ z C c=>ep ?_
   have g:=fun st=>c st (mm _) trivial
   clear c;repeat' first|(with_reducible refine eN 1 _ rfl ?_);(repeat' first|refine af ?_|(with_reducible refine bE 0 ?_ h1 (fun _ _ _ h=>h) ?_);(exact rfl)|refine eR ?_|refine ab ?_ ?_<;>intro h<;>try exact aa);(all_goals exact eT [0] ae rfl rfl f (g _));done|refine af ?_|(with_reducible refine bE 0 ?_ h1 (fun _ _ _ h=>h) ?_);(exact rfl)|refine ag ?_|refine ab ?_ ?_<;>intro h<;>try exact aa
  |some x=>
   obtain⟨p,u⟩:=x;rw[q]at h;dsimp only at h;have h2:=vF n m u _ G q;have I:=k0 q G;cases v:eo jd u with
   |none=>
    have f:=SU n u I v;refine eu {} 1 func50 fun Γ z C c=>ep ?_
    have g:=fun st=>c st (mm _) trivial
    clear c;repeat' first|(with_reducible refine eN 1 _ rfl ?_);(repeat' first|refine af ?_|(with_reducible refine bE 0 ?_ h1 (fun _ _ _ h=>h) ?_);(exact rfl)|(with_reducible refine bE 0 ?_ h2 (fun _ _ _ h=>h) ?_);(exact rfl)|refine eR ?_|refine ab ?_ ?_<;>intro h<;>try exact aa);(all_goals exact eT [0] ae rfl rfl f (g _));done|refine af ?_|(with_reducible refine bE 0 ?_ h1 (fun _ _ _ h=>h) ?_);(exact rfl)|(with_reducible refine bE 0 ?_ h2 (fun _ _ _ h=>h) ?_);(exact rfl)|refine ag ?_|refine ab ?_ ?_<;>intro h<;>try exact aa
   |some x=>
    obtain⟨b,J⟩:=x;rw[v]at h;dsimp only at h;have M:=Gn n u J _ I v;have Q:=k0 v I;cases O:eo gg J with
    |none=>
     have f:=wA n J Q O;refine eu {} 1 func50 fun Γ z C c=>ep ?_
     have g:=fun st=>c st (mm _) trivial
     clear c;repeat' first|(with_reducible refine eN 1 _ rfl ?_);(repeat' first|refine af ?_|(with_reducible refine bE 0 ?_ h1 (fun _ _ _ h=>h) ?_);(exact rfl)|(with_reducible refine bE 0 ?_ h2 (fun _ _ _ h=>h) ?_);(exact rfl)|(with_reducible refine bE 0 ?_ M (fun _ _ _ h=>h) ?_);(exact rfl)|refine eR ?_|refine ab ?_ ?_<;>intro h<;>try exact aa);(all_goals exact eT [0] ae rfl rfl f (g _));done|refine af ?_|(with_reducible refine bE 0 ?_ h1 (fun _ _ _ h=>h) ?_);(exact rfl)|(with_reducible refine bE 0 ?_ h2 (fun _ _ _ h=>h) ?_);(exact rfl)|(with_reducible refine bE 0 ?_ M (fun _ _ _ h=>h) ?_);(exact rfl)|refine ag ?_|refine ab ?_ ?_<;>intro h<;>try exact aa
    |some x=>
     rw[O]at h;cases h
theorem Ih(b:UInt8):(∃x,jm b=some x/\48<=b.toNat/\b.toNat<=57/\x=b.toNat-48)\/(∃x,jm b=some x/\97<=b.toNat/\b.toNat<=102/\x=b.toNat-87)\/(jm b=none/\(b.toNat<48\/57<b.toNat)/\(b.toNat<97\/102<b.toNat)):=by
 unfold jm;split
 .rename_i h;exact .inl ⟨_,rfl,h.1,h.2,rfl⟩
 split
 .rename_i h;exact .inr (.inl ⟨_,rfl,h.1,h.2,rfl⟩)
 exact .inr (.inr ⟨rfl,G,G⟩)
theorem DT(b:UInt8)(x:Nat)(h:jm b=some x):Spec prog 110 [.v (.int .u8 (b.toNat:Nat))] (.v (.int .u8 (x:Nat))):=by
 have c:=l5;rcases Ih b with⟨y,h1,h2,f,g⟩|⟨y,h1,h2,f,g⟩|⟨h1,-⟩
 .obtain rfl:x=y:=by rw[h1]at h;exact(_b h).symm
  have bl:_f.wrap ((b.toNat:Nat)-48:Int)=(x:Nat):=I6;generalize b.toNat=B at *;refine az {} 0 func110 fun Γ an=>ar ?_
  repeat' first|refine af ?_|simp only[bl]|refine ag ?_|refine ab ?_ ?_<;>intro h<;>try exact aa|exact al|fail
  all_goals exact bM
 .obtain rfl:x=y:=by rw[h1]at h;exact(_b h).symm
  have bl:_f.wrap ((b.toNat:Nat)-97:Int)=(b.toNat:Nat)-97:=I6;have bD:_f.wrap ((b.toNat:Nat)-97+10:Int)=(x:Nat):=I6;have d1:decide ((97:Int)<=(b.toNat:Nat))=true:=decide_eq_true G;have d2:decide (((b.toNat:Nat):Int)<=102)=true:=decide_eq_true G;generalize b.toNat=B at *;refine az {} 0 func110 fun Γ an=>ar ?_
  repeat' first|refine af ?_|simp only[bl,bD,d1,d2]|refine J c ?_|refine ag ?_|refine ab ?_ ?_<;>intro h<;>try exact aa|exact al|fail
  all_goals exact bM
 rw[h1]at h;cases h
theorem YY(b:UInt8)(h:jm b=none):gS prog 110 [.v (.int .u8 (b.toNat:Nat))] [] (iI 10) []:=by
 have c:=mq;rcases Ih b with⟨y,h1,-⟩|⟨y,h1,-⟩|⟨-,h1,h2⟩
 .rw[h1]at h;cases h
 .rw[h1]at h;cases h
 generalize b.toNat=B at *;refine eu {} 0 func110 fun Γ j m g=>ep ?_
 have f:=fun st=>g st J3 trivial
 clear g;rcases h1 with h1|h1
 .have d1:decide ((48:Int)<=(B:Nat))=false:=decide_eq_false G;have d2:decide ((97:Int)<=(B:Nat))=false:=decide_eq_false G;repeat' first|(with_reducible refine eN 6 _ rfl ?_);(repeat' first|refine af ?_|simp only[d1,d2]|refine eR ?_|refine ab ?_ ?_<;>intro h<;>try exact aa);(all_goals exact eT [] ae rfl rfl c (f _));done|refine af ?_|simp only[d1,d2]|refine ag ?_|refine ab ?_ ?_<;>intro h<;>try exact aa
 have d1:decide ((48:Int)<=(B:Nat))=true:=decide_eq_true G;have d2:decide (((B:Nat):Int)<=57)=false:=decide_eq_false G;rcases h2 with h2|h2
 .have d3:decide ((97:Int)<=(B:Nat))=false:=decide_eq_false G;repeat' first|(with_reducible refine eN 6 _ rfl ?_);(repeat' first|refine af ?_|simp only[d1,d2,d3]|refine eR ?_|refine ab ?_ ?_<;>intro h<;>try exact aa);(all_goals exact eT [] ae rfl rfl c (f _));done|refine af ?_|simp only[d1,d2,d3]|refine ag ?_|refine ab ?_ ?_<;>intro h<;>try exact aa
 have d3:decide ((97:Int)<=(B:Nat))=true:=decide_eq_true G;have d4:decide (((B:Nat):Int)<=102)=false:=decide_eq_false G;repeat' first|(with_reducible refine eN 6 _ rfl ?_);(repeat' first|refine af ?_|simp only[d1,d2,d3,d4]|refine eR ?_|refine ab ?_ ?_<;>intro h<;>try exact aa);(all_goals exact eT [] ae rfl rfl c (f _));done|refine af ?_|simp only[d1,d2,d3,d4]|refine ag ?_|refine ab ?_ ?_<;>intro h<;>try exact aa
theorem Jn:∀(s:ak),s.length%2=1->gk s=none
 |[],h=>fE
 |[_],_=>rfl
 |a::b::r,h=>by
  have:=Jn r (by simp at h;omega);unfold gk;rw[this];cases jm a<;>cases jm b<;>rfl
theorem W_:∀x y:Fin 16,bits .or .u8 (_f.wrap ((x.val:Int)*2 ^ min 4 _f.bits)) (y.val:Int)=((_a (16*x.val+y.val)).toNat:Int):=n7
theorem xA{b:UInt8}{x:Nat}(h:jm b=some x):x<16:=by
 rcases Ih b with⟨y,h1,h2,c,f⟩|⟨y,h1,h2,c,f⟩|⟨h1,-⟩
 .rw[h1]at h;obtain rfl:=_b h;omega
 .rw[h1]at h;obtain rfl:=_b h;omega
 rw[h1]at h;cases h
theorem ahP(n:Nat)(l r:List ak)(t:ak)(hl:hH l)(h:eo gk l=some (t,r)):b1 prog 56 [.ptr 0 n 1 0 0] [some (ik n l)] (fun d H=>d=.v (.string (I t))/\H=[some (ik n r)]):=by
 obtain⟨s,rfl,aj⟩:=rN h;have h1:=lW n s r;have ao:=hl s aF;have C:=l5;have ap:s.length%2=0:=by
  rcases _g s.length with q|q
  .exact q
  rw[Jn s q]at aj;cases aj
 have M:decide (_i ((s.length:Nat):Int) 2=0)=true:=by exact ON
 refine ej {} 1 func56 fun Γ O aq=>ar ?_
 have bd:n<Γ.g0:=O 0 _ rfl;repeat' first|refine af ?_|(with_reducible refine bE 0 ?_ h1 (fun _ _ _ h=>h) ?_);(exact rfl)|simp only[aU,M]|refine J C ?_|refine ag ?_|refine ab ?_ ?_<;>intro h<;>try exact aa|fail
 apply eJ
 .exact Ie
 refine bz ?_;refine bS (α:=ak×ak×Nat×Nat) (fun x=>[(⟨.d0,.d0,.d3⟩,.v (.string (I x.1))),(⟨.d0,.d0,.d4⟩,.aG 2 x.2.2.1 1 0 x.2.1.length false)]) (fun x=>[(1,none),(2,some ⟨x.2.2.1,1,fk x.2.1⟩)]) (fun x=>x.2.2.2) (fun x=>x.1.length) (fun x=>x.1.length+x.2.1.length<=s.length/\∃v,gk x.1=some v/\x.2.1++v=t) (s,[],Γ.g0,Γ.g0+1) ⟨_n _,t,aj,rfl⟩ ?_ ?_
 .exact bs
 rintro⟨q,o,au,bR⟩ ⟨ay,v,c,g⟩;dsimp only at ay c g⊢;refine bz ?_;match q,c,ay with
 |[],c,ay=>
  obtain rfl:=_b c;rw[List.append_nil]at g;subst g;have Q:decide (I ([]:ak)=(⟨#[]⟩:ByteArray))=true:=ae;have U:cp (cC (fk o) 0) o.length=fk o:=e1 yG;have X:=GO o;have Y:=KK o;have m:=i_ o;repeat' first|refine af ?_|simp only[Q,U,X,Y,m]|refine ag ?_|refine ab ?_ ?_<;>intro h<;>try exact aa|exact al|fail
  all_goals exact x8
 |[_],c,_=>cases c
 |a::b::jl,c,ay=>
  obtain⟨x,j⟩:∃x,jm a=some x:=by
   cases e:jm a with
   |some x=>exact⟨x,rfl⟩
   |none=>unfold gk at c;rw[e]at c;cases c
  obtain⟨y,u⟩:∃y,jm b=some y:=by
   cases e:jm b with
   |some y=>exact⟨y,rfl⟩
   |none=>unfold gk at c;rw[j,e]at c;cases c
  unfold gk at c;rw[j,u]at c;obtain⟨f,Z,rfl⟩:∃f,gk jl=some f/\v=_a (16*x+y)::f:=by
   cases e:gk jl with
   |some f=>rw[e]at c;exact⟨f,rfl,(_b c).symm⟩
   |none=>rw[e]at c;cases c
  have h2:=DT a x j;have ac:=DT b y u;have ah:og (I (a::b::jl)) 0=((a.toNat:Nat):Int):=b_ _ 0;have ai:og (I (a::b::jl)) 1=((b.toNat:Nat):Int):=b_ _ 1;have z:=W_ ⟨x,xA j⟩ ⟨y,xA u⟩;dsimp only at z;have am:decide (I (a::b::jl)=(⟨#[]⟩:ByteArray))=false:=decide_eq_false (fun e=>P6);have m:=i_ o;repeat' first|refine af ?_|refine J h2 ?_|refine J ac ?_|simp only[am,ah,ai,z,aU,m]|refine ag ?_|refine ab ?_ ?_<;>intro h<;>try exact aa|refine aK ⟨aH,aH,aH,aH,yG⟩ ?_|refine aK ⟨aH,qP⟩ ?_|refine aK ⟨Ah _,qP⟩ ?_|exact al|fail
  have an:(I (a::b::jl)).extract 2 (((jl.length+1+1:Nat):Int)).toNat=I jl:=S_;have Zq:fk o++[[.v (.int .u8 ((_a (16*x+y)).toNat:Nat))]]=fk (o++[_a (16*x+y)]):=OY o [_];have el:o.length+1=(o++[_a (16*x+y)]).length:=aF;rw[an,el];refine br ⟨(jl,o++[_a (16*x+y)],bR+1,bR+2),⟨by simp at ay⊢;omega,f,Z,by rw[List.append_assoc];exact g⟩,by dsimp only[_c];omega,?_⟩;exact Rb
theorem QC{P:Program}{Γ:bw}{f:FuncId}{c:List O}{b:List PanicEntry}{p:Prop}(h1:gS P f c [] b [])(g:∀st,Γ.pq b st)(h2:p):mG (It P Γ) (.call f c)/\p:=⟨⟨b,h1,g⟩,h2⟩
theorem RP{p q:Prop}(h:q)(e:q->p:=by intro ay;with_reducible dsimp only[rz,Ur,RB,run,undef,fI,IZ,Bp,zu,oJ,yO,uG,kI,yV,wq,vQ,B9,w2,Cs,vS,wN,wZ,kx,wS,zJ,wj,fX,jk,q2,uO,zr,xI,yY,wV,vT,xi,w5,hg,d_,fD,aB,cl,aW,jH,bQ.get,bQ.set,c9.get,c9.set,eH,iO,pY,xY,jI,l7,oL,fs,jY,fT,kJ,iX,cf,hv,uh,sr,tF,tb,dX,kD,lO,xw,cC,cp,eW,s8,Hd,uC,CK,AF,Dk,JI,K1,M3,I2,Mj,MQ,uT,qc,oE,ih,CI,xE,xL,vr,gY,iW,He,BD,A2,BP,ym,tz,AM,AD,xW,yI,Bh,wF,yl,x3,Ao,x0,xo,Bx,vM,BU,CS,AV,we,Cc,zq,zV,ow,BX,wH,xX,oY,wG,xB,qM,x7,xe,yD,B0,Ar,wy,AR,C6,x5,B_,w_,AO,BL,AZ,yK,z8,Ae,AN,xu,Aq,By,rk,sb,wQ,vK,xd,cond,KC,LU,hq,gP,List.length_cons,List.length_nil,Bool.true_or,Bool.false_or,Bool.or_true,Bool.or_false,IT,Lx,Nat.add_zero,Nat.zero_add,Nat.reduceAdd,Nat.reduceMul,Int.reduceToNat];exact ay):p:=e h
theorem akb(n:Nat)(l:List ak)(hl:hH l)(h:eo gk l=none):gS prog 56 [.ptr 0 n 1 0 0] [some (ik n l)] (iI 10) [none]:=by
 rcases DZ h with rfl|⟨s,r,rfl,aj⟩
 .have h1:=Fy n;refine eu {} 1 func56 fun Γ O Q cd=>ep ?_
  exact DH
 have h1:=lW n s r;have an:=hl s aF;have Y:=mq;have Z:=l5;rcases _g s.length with U|U;rotate_left
 .have u:decide (_i ((s.length:Nat):Int) 2=0)=false:=by
   rw[Int.tmod_eq_emod_of_nonneg (Int.natCast_nonneg _)];exact decide_eq_false G
  refine eu {} 1 func56 fun Γ O Q cd=>ep ?_
  have eB:=fun st=>cd st (mm _) trivial
  clear cd;repeat' first|(with_reducible refine eN 4 _ rfl ?_);(repeat' first|refine af ?_|(with_reducible refine bE 0 ?_ h1 (fun _ _ _ h=>h) ?_);(exact rfl)|simp only[aU,u]|refine eR ?_|refine ab ?_ ?_<;>intro h<;>try exact aa);(all_goals exact eT [] ae rfl rfl Y (eB _));done|refine af ?_|(with_reducible refine bE 0 ?_ h1 (fun _ _ _ h=>h) ?_);(exact rfl)|simp only[aU,u]|refine ag ?_|refine ab ?_ ?_<;>intro h<;>try exact aa
 have u:decide (_i ((s.length:Nat):Int) 2=0)=true:=by exact ON
 refine eu {} 1 func56 fun Γ O Q cd=>ep ?_
 have eB:=fun st=>cd st (mm _) trivial
 clear cd;repeat' first|refine af ?_|(with_reducible refine bE 0 ?_ h1 (fun _ _ _ h=>h) ?_);(exact rfl)|simp only[aU,u]|refine J Z ?_|refine ag ?_|refine ab ?_ ?_<;>intro h<;>try exact aa|fail
 apply eJ
 .exact Ie
 refine bz ?_;refine bS (α:=ak×ak×Nat×Nat) (fun x=>[(⟨.d0,.d0,.d3⟩,.v (.string (I x.1))),(⟨.d0,.d0,.d4⟩,.aG 2 x.2.2.1 1 0 x.2.1.length false)]) (fun x=>[(1,none),(2,some ⟨x.2.2.1,1,fk x.2.1⟩)]) (fun x=>x.2.2.2) (fun x=>x.1.length) (fun x=>x.1.length+x.2.1.length<=s.length/\x.1.length%2=0/\gk x.1=none) (s,[],Γ.g0,Γ.g0+1) ⟨_n _,U,aj⟩ ?_ ?_
 .exact bs
 rintro⟨q,o,ao,bR⟩ ⟨ay,f,c⟩;dsimp only at ay f c⊢;refine bz ?_;match q,c,ay,f with
 |[],c,_,_=>cases c
 |[_],_,_,f=>simp at f
 |a::b::jl,c,ay,f=>
  have g:og (I (a::b::jl)) 0=((a.toNat:Nat):Int):=b_ _ 0;have j:og (I (a::b::jl)) 1=((b.toNat:Nat):Int):=b_ _ 1;have m:decide (I (a::b::jl)=(⟨#[]⟩:ByteArray))=false:=decide_eq_false (fun e=>P6);cases z:jm a with
  |none=>
   have M:=YY a z;repeat' first|(with_reducible refine Wl u9 [.go,.go,.go,.rX,.off,.go,.go,.off,.off,.off,.off,.off] 3 rfl rfl ?_);(repeat' first|refine af ?_|simp only[m,g,j,aU]|with_reducible refine QC M eB ?_|refine RP ?_|rfl|decide);done|refine af ?_|simp only[m,g,j,aU]|refine ag ?_|refine ab ?_ ?_<;>intro h<;>try exact aa
  |some x=>
   have h2:=DT a x z;cases C:jm b with
   |none=>
    have M:=YY b C;repeat' first|(with_reducible refine Wl u9 [.go,.go,.go,.go,.go,.go,.go,.rX,.off,.off,.off,.off] 7 rfl rfl ?_);(repeat' first|refine af ?_|simp only[m,g,j,aU]|refine J h2 ?_|with_reducible refine QC M eB ?_|refine RP ?_|rfl|decide);done|refine af ?_|simp only[m,g,j,aU]|refine J h2 ?_|refine ag ?_|refine ab ?_ ?_<;>intro h<;>try exact aa
   |some y=>
    have ac:gk jl=none:=by
     unfold gk at c;rw[z,C]at c;cases e:gk jl with
     |none=>rfl
     |some v=>rw[e]at c;cases c
    have ah:=DT b y C;have X:=W_ ⟨x,xA z⟩ ⟨y,xA C⟩;dsimp only at X;have ai:=i_ o;repeat' first|refine af ?_|refine J h2 ?_|refine J ah ?_|simp only[m,g,j,X,aU,ai]|refine ag ?_|refine ab ?_ ?_<;>intro h<;>try exact aa|refine aK ⟨aH,aH,aH,aH,yG⟩ ?_|refine aK ⟨aH,qP⟩ ?_|refine aK ⟨Ah _,qP⟩ ?_|exact al|fail
    have am:(I (a::b::jl)).extract 2 (((jl.length+1+1:Nat):Int)).toNat=I jl:=S_;have Zq:fk o++[[.v (.int .u8 ((_a (16*x+y)).toNat:Nat))]]=fk (o++[_a (16*x+y)]):=OY o [_];have el:o.length+1=(o++[_a (16*x+y)]).length:=aF;rw[am,el];refine br ⟨(jl,o++[_a (16*x+y)],bR+1,bR+2),⟨by simp at ay⊢;omega,by dsimp only[_c]at f⊢;omega,ac⟩,by dsimp only[_c];omega,?_⟩;exact Rb
def z7:ak:=[48,49,50,51,52,53,54,55,56,57,97,98,99,100,101,102]
theorem Mw:(ByteArray.mk #[48,49,50,51,52,53,54,55,56,57,97,98,99,100,101,102]:ByteArray)=I z7:=rfl
def oR(b:UInt8):Int:=match jm b with|some x=>(x:Int)|none=>-1
theorem afJ(b:UInt8):_l z7 b=oR b:=by
 have h:∀n:Fin 256,_l z7 (_a n.val)=oR (_a n.val):=n7;have:=h ⟨b.toNat,UInt8.toNat_lt b⟩;rwa[show _a b.toNat=b from _j]at this
def j4(s:ak):ak×Bool:=match gk s with|some t=>(t,true)|none=>([],false)
theorem aaZ(s:ak)(aj:s.length<=1048576):Spec prog 65 [.v (.string (I s))] (.aS [.v (.string (I (j4 s).1)),.v (.bool (j4 s).2)]):=by
 have ac:_i ((s.length:Nat):Int) 2=((s.length%2:Nat):Int):=(Int.ofNat_tmod _ 2).symm;by_cases h1:s.length%2=1
 .have e:j4 s=([],false):=by unfold j4;rw[Jn s h1]
  rw[e];have U:decide ((0:Int)<((s.length%2:Nat):Int))=true:=decide_eq_true G;refine az {} 0 func65 fun Γ an=>ar ?_
  repeat' first|refine af ?_|simp only[aU,ac,U]|refine ag ?_|refine ab ?_ ?_<;>intro h<;>try exact aa|exact al|fail
  all_goals exact b0
 have U:decide ((0:Int)<((s.length%2:Nat):Int))=false:=decide_eq_false G;have am:∀b:UInt8,Spec prog 112 [.v (.string (I z7)),.v (.int .u8 ((b.toNat:Nat):Int))] (.v (.int .i64 (oR b))):=fun b=>by
  have:=afW z7 ((b.toNat:Nat):Int);rw[_d,show b.toNat.toUInt8=b from _j,afJ]at this;exact this
 have O:=fun a bW=>Z2 a true 0 bW
 refine az {} 0 func65 fun Γ an=>ar ?_
 repeat' first|refine af ?_|simp only[aU,ac,U]|refine ag ?_|refine ab ?_ ?_<;>intro h<;>try exact aa|exact al|fail
 refine bS (α:=ak×ak×Nat) (fun x=>[(⟨.d0,.d0,.d5⟩,.v (.int .i64 ((s.length-x.1.length:Nat):Int))),(⟨.d0,.d0,.d4⟩,.v (.string (I x.2.1)))]) (fun x=>[(0,none)]) (fun x=>x.2.2) (fun x=>x.1.length) (fun x=>(∃p,s=p++x.1)/\x.1.length%2=0/\x.2.1.length+x.1.length<=s.length/\gk s=(gk x.1).map (fun t=>x.2.1++t)) (s,[],Γ.g0) ⟨⟨[],rfl⟩,by show s.length%2=0;omega,Nat.le_of_eq (Nat.zero_add _),by cases gk s<;>rfl⟩ ?_ ?_
 .exact Xz
 rintro⟨q,o,ao⟩ ⟨⟨p,c⟩,ay,g,f⟩;dsimp only at c ay g f⊢;have m:s.length=p.length+q.length:=by rw[c,_k]
 refine bz ?_;match q,c,ay,g,f,m with
 |[],c,ay,g,f,m=>
  have e:j4 s=(o,true):=by unfold j4;rw[f];simp[gk]
  rw[e];have u:decide (((s.length-([]:ak).length:Nat):Int)<(s.length:Nat))=false:=decide_eq_false aF;repeat' first|refine af ?_|simp only[aU,u]|refine ag ?_|refine ab ?_ ?_<;>intro h<;>try exact aa|exact al|fail
  all_goals exact bM
 |[a],c,ay,g,f,m=>simp at ay
 |a::b::r,c,ay,g,f,m=>
  have ap:s.length-(a::b::r).length=p.length:=G;rw[ap];simp only[_c]at m g ay;have u:decide (((p.length:Nat):Int)<(s.length:Nat))=true:=decide_eq_true G;have ah:au s p.length=a.toNat:=by rw[c];simp[au]
  have ai:au s (p.length+1)=b.toNat:=by rw[c];simp[au]
  have bl:_e.wrap ((p.length:Int)+1)=((p.length+1:Nat):Int):=er;have bD:_e.wrap ((p.length:Int)+2)=((p.length+2:Nat):Int):=er;have z:=am a;have C:=am b;cases j:jm a with
  |none=>
   have e:j4 s=([],false):=by unfold j4;rw[f];unfold gk;rw[j];rfl
   rw[e];have X:oR a = -1:=by unfold oR;rw[j]
   rw[X]at z;have Q:decide ((-1:Int)<0)=true:=ae;generalize oR b=ax at *;repeat' first|refine af ?_|simp only[aU,u,Mw,b_,_d,ah,ai,bl,Q]|refine J z ?_|refine J C ?_|refine ag ?_|refine ab ?_ ?_<;>intro h<;>try exact aa|refine aK G ?_|exact al|fail
   all_goals exact b0
  |some x=>
   have X:oR a=((x:Nat):Int):=by unfold oR;rw[j]
   rw[X]at z;have Q:decide (((x:Nat):Int)<0)=false:=decide_eq_false G;cases M:jm b with
   |none=>
    have e:j4 s=([],false):=by unfold j4;rw[f];unfold gk;rw[j,M];rfl
    rw[e];have Y:oR b = -1:=by unfold oR;rw[M]
    rw[Y]at C;have Z:decide ((-1:Int)<0)=true:=ae;repeat' first|refine af ?_|simp only[aU,u,Mw,b_,_d,ah,ai,bl,Q,Z]|refine J z ?_|refine J C ?_|refine ag ?_|refine ab ?_ ?_<;>intro h<;>try exact aa|refine aK G ?_|exact al|fail
    all_goals exact b0
   |some y=>
    have Y:oR b=((y:Nat):Int):=by unfold oR;rw[M]
    rw[Y]at C;have aA:=xA j;have aC:=xA M;have Z:decide (((y:Nat):Int)<0)=false:=decide_eq_false G;have aq:_e.wrap (16*((x:Nat):Int))=((16*x:Nat):Int):=er;have av:_e.wrap (((16*x:Nat):Int)+((y:Nat):Int))=((16*x+y:Nat):Int):=er;have aw:u8 ((16*x+y:Nat):Int)=_a (16*x+y):=by
     unfold u8;rw[show(((16*x+y:Nat):Int)%256).toNat=16*x+y from G]
    have O:=O ((16*x+y:Nat):Int);rw[aw]at O;repeat' first|refine af ?_|simp only[aU,u,Mw,b_,_d,ah,ai,bl,bD,Q,Z,aq,av,dt]|refine J z ?_|refine J C ?_|(with_reducible refine bE 0 ?_ (O _) (fun _ _ _ h=>h) ?_);(exact rfl)|refine ag ?_|refine ab ?_ ?_<;>intro h<;>try exact aa|refine aK KX ?_|exact al|fail
    refine br ⟨(r,o++[_a (16*x+y)],ao+1),⟨⟨p++[a,b],by rw[c];simp⟩,iS,by dsimp only;rw[_k,_c,List.length_nil];omega,?_⟩,by show r.length<r.length+1+1;omega,?_⟩
    .rw[f];conv=>lhs;unfold gk
     rw[j,M];cases gk r<;>simp
    exact Xz
end Go.Proofs.YtdiobdlinjgakaaGreatDoor.R
