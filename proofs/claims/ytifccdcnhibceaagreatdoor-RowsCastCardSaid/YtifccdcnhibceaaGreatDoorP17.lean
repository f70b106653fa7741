/- A part of the proof: nothing is assumed. -/
import Derived.Test.YtifccdcnhibceaaGreatDoorP5
import Derived.Test.YtifccdcnhibceaaGreatDoorP4
import Derived.Test.YtifccdcnhibceaaGreatDoorP6
import Derived.Test.YtifccdcnhibceaaGreatDoorP16
set_option linter.all false
namespace Go.Ab
open IntKind(i64 u8)
open Int(ofNat)
open Go.Proofs
structure Sti where
 (k y a b:Int) (f:Bool)
def Sti.c(s:Sti):List T:=[uI s.k,uI s.y,iI s.a,iI s.b,.bool s.f]
def rwV(r:Nat->Sti)(n:Nat)(c:Option Nat):T:=.view 5 n (fun j=>(r j).c) c
def Y5(y:Int):T:=.fn 113 [.vp [uI y]]
def qg5(r:Nat->Sti)(n:Nat)(c:Option Nat)(y:Int)(i:Nat):List T:=[rwV r n c,Y5 y,iI n,iI i]
noncomputable def qi9(p:List T->T->Prop)(s:Sti)(y:Int):Orc:=qp.add 113 (qI p fun _=>some (.bool (decide (s.y=y))))
noncomputable def qkE(p:List T->T->Prop)(x:Int):Orc:=qp.add 137 (qI p fun _=>some (iI x))
noncomputable def qkF(x:List T->qk->Ex->List T->qk->Prop)(b:Bool)(k:Nat):List (Nat×(List T->qk->LT)):=[(2,ZX x (.ite b (.ret .ret [iI k] []) (.ret (.exit 0) [.undef] [])))]
theorem qjE(s:Sti)(y:Int):ToldOk P16 G16 113 [.agg s.c,.vp [uI y]] (.bool (decide (s.y=y))):=by
 refine qD qu qX qa (K:=qp) (A:=A16) (m:=0) ?_;rw[(show Qz P16 G16 A16 qp 0 113 [.agg s.c,.vp [uI y]] =
(
 bif decide (s.y=y) then
 some (.bool true)
 else
 some (.bool false)) from by kernel_rfl)]
 cases decide (s.y=y)<;>rfl
theorem qkG(r:Nat->Sti)(n:Nat)(c:Option Nat)(y:Int)(i:Nat)(p:List T->T->Prop):QH P16 G16 A16 (qi9 p (r i) y) 0 137 [] 2 (qg5 r n c y i) [] =
(
 bif decide (ofNat i<ofNat n) then
 bif decide (0<=ofNat i)&&decide (ofNat i<ofNat n) then
 bif qC (p [.agg (r i).c,.vp [uI y]] (.bool (decide ((r i).y=y)))) then
 bif decide ((r i).y=y) then
 some ((.ret,[iI (.ofNat i)],[]))
 else
 some ((.normal,[rwV r n c,Y5 y,iI (.ofNat n),iI (i64.wrap (ofNat i+1))],[]))
 else none else none else
 some ((.exit 0,[.undef],[]))):=by kernel_rfl
theorem qml(r:Nat->Sti)(n:Nat)(c:Option Nat)(y:Int)(b:Bool)(k:Nat)(x:List T->qk->Ex->List T->qk->Prop):y6 P16 G16 A16 qp 0 137 (qkF x b k) [rwV r n c,Y5 y] =
(
 bif b then
 bif qC (x (qg5 r n c y (nat_lit 0)) [] .ret [iI (.ofNat k)] []) then
 some (iI (.ofNat k))
 else none else
 bif qC (x (qg5 r n c y (nat_lit 0)) [] (.exit 0) [.undef] []) then
 some (iI (-1:Int))
 else
 none):=by kernel_rfl
theorem qmm(r:Nat->Sti)(n:Nat)(c:Option Nat)(y x:Int)(p:List T->T->Prop):Qz P16 G16 A16 (qkE p x) 0 114 [rwV r n c,Y5 y] =
(
 bif qC (p [rwV r n c,Y5 y] (iI x)) then
 bif decide (0<=x) then
 some (.bool true)
 else
 some (.bool false)
 else
 none):=by kernel_rfl
def usB(r:Nat->Sti)(n:Nat)(y:Int):Bool:=!(qY (fun i=>!(decide ((r i).y=y))) n)
theorem qja(r:Nat->Sti)(n:Nat)(c:Option Nat)(y:Int)(hn:n<=1000000):(usB r n y=false->LoopOk P16 G16 (A16 137) 137 2 (Qs (qg5 r n c y 0) [] (.exit 0) [.undef] []))/\(usB r n y=true->∃e v h,(e = .ret/\h=[]/\∃k:Nat,v=[iI k])/\LoopOk P16 G16 (A16 137) 137 2 (Qs (qg5 r n c y 0) [] e v h)):=by
 obtain⟨p,hp⟩:=qE P16 G16 113;have key:=yN (P:=P16) (Gl:=G16) (e1:=.exit 0) (v1:=[.undef]) (h1:=[]) qu (f:=137) (r:=2) (by kernel_rfl) (an:=A16 137) (fun i=>qg5 r n c y i) (fun _=>[]) (fun i=>!(decide ((r i).y=y))) (n:=n) (fun e v h=>e = .ret/\h=[]/\∃k:Nat,v=[iI k]) (fun i hi _ hg=>?_) (fun i hi _ hg=>?_) (fun _=>?_)
 ·unfold usB;exact⟨fun h=>key.1 (by simpa using h),fun h=>key.2 (by simpa using h)⟩
 ·have t1:=qjE (r i) y;refine Step.mk0 (A:=A16) (m:=0) (K:=qi9 p (r i) y) (qv qa (qr hp)) rfl rfl ql (h1:=[]) ?_ .nil;rw[qkG,up1 (by omega)];have q:¬(r i).y=y:=by simpa using hg
  exact BT (BT (BS (BF rfl)))
 ·have t1:=qjE (r i) y;refine⟨_,_,_,⟨rfl,rfl,i,rfl⟩,?_⟩;refine Last.mk0 (A:=A16) (m:=0) (K:=qi9 p (r i) y) (qv qa (qr hp)) rfl rfl ql (h1:=[]) (by simp) ?_ .nil;rw[qkG];have q:(r i).y=y:=by simpa using hg
  exact BT (BT (BS (BT rfl)))
 ·refine Last.mk0 (A:=A16) (m:=0) (K:=qi9 p (r n) y) (qv qa (qr hp)) rfl rfl ql (h1:=[]) (by simp) ?_ .nil;rw[qkG];exact BF rfl
theorem qjb(r:Nat->Sti)(n:Nat)(c:Option Nat)(y:Int)(hn:n<=1000000):ToldOk P16 G16 114 [rwV r n c,Y5 y] (.bool (usB r n y)):=by
 obtain⟨x,hx⟩:=zv P16 G16 (A16 137) 137 2;obtain⟨p,hp⟩:=qE P16 G16 137;have sc:=qja r n c y hn;cases hb:usB r n y
 ·have t1:=sc.1 hb;have t2:ToldOk P16 G16 137 [rwV r n c,Y5 y] (iI (-1)):=by
   refine Qr qu qX (K:=qp) qa (A:=A16) (m:=0) (l:=qkF x false 0) (by kernel_rfl) (Qo (Qh hx _)) ?_;rw[qml];exact qK (by simp) (BS rfl)
  refine qD qu qX (K:=qkE p (-1)) (qv qa (qr hp)) (A:=A16) (m:=0) ?_;rw[qmm];exact BS (qK (by decide) rfl)
 ·obtain⟨e,v,h,⟨rfl,rfl,k,rfl⟩,t1⟩:=sc.2 hb;have t2:ToldOk P16 G16 137 [rwV r n c,Y5 y] (iI k):=by
   refine Qr qu qX (K:=qp) qa (A:=A16) (m:=0) (l:=qkF x true k) (by kernel_rfl) (Qo (Qh hx _)) ?_;rw[qml];exact qt rfl (BS rfl)
  refine qD qu qX (K:=qkE p k) (qv qa (qr hp)) (A:=A16) (m:=0) ?_;rw[qmm];exact BS (qt (by simp) rfl)
def j5:List T->Sti
 |[.int .u8 k,.int .u8 y,.int .i64 a,.int .i64 b,.bool f]=>⟨k,y,a,b,f⟩
 |_=>⟨0,0,0,0,false⟩
def qg6:List T->Bool
 |[.int .u8 _,.int .u8 _,.int .i64 _,.int .i64 _,.bool _]=>true
 |_=>false
theorem qkH{l:List T}(h:qg6 l=true):l=(j5 l).c:=by
 unfold qg6 at h;split at h
 ·rfl
 ·cases h
theorem qid(g:Nat->List T)(n:Nat)(c:Option Nat)(y:Int)(hn:n<=1000000)(hg:∀j,j<n->qg6 (g j)=true):ToldOk P16 G16 114 [.view 5 n g c,Y5 y] (.bool (usB (fun j=>j5 (g j)) n y)) :=
 (qjb (fun j=>j5 (g j)) n c y hn).sim (.cons (.view (.inl rfl) fun j hj=>by rw[←qkH (hg j hj)];exact .refl _) (.refl _))
def lu(us:Int->Bool)(k:Nat):List Int:=((List.range k).map fun (i:Nat)=>(i:Int)+1).filter us
theorem qaq(us:Int->Bool)(k:Nat):lu us (k+1)=if us ((k:Int)+1)=true then lu us k++[(k:Int)+1] else lu us k:=by
 unfold lu;rw[List.range_succ,List.map_append,List.filter_append];by_cases h:us ((k:Int)+1)=true
 ·rw[if_pos h];simp[h]
 ·rw[if_neg h];simp[h]
theorem qes(us:Int->Bool){k:Nat}(hu:us ((k:Int)+1)=true):∀m,k<m->∃r,lu us m=lu us k++((k:Int)+1)::r
 |0,h=>by omega
 |m+1,h=>by
  rcases Nat.lt_or_ge k m with q|q
  ·obtain⟨r,hr⟩:=qes us hu m q;rw[qaq];split
   ·exact⟨r++[(m:Int)+1],by rw[hr];simp⟩
   ·exact⟨r,hr⟩
  ·obtain rfl:k=m:=by omega
   rw[qaq,if_pos hu];exact⟨[],rfl⟩
def bx:Nat->Nat->List T
 |0,e=>[uI (bif e==0 then 1 else 0)]
 |k+1,e=>[uI (bif e==0 then ofNat (k+2) else bif e==0 then ofNat (k+1) else 0)]
def ze(k:Nat):qk:=(List.range (k+1)).map fun i=>⟨0,1,1,bx i,true,false,none⟩
def Z5(l:Nat)(row:T)(k:Nat):List T:=[.yld l,.vp [row],.ptr k 0 0 0]
noncomputable def qkI(p:List T->T->Prop)(b:Bool):Orc:=qp.add 114 (qI p fun _=>some (.bool b))
theorem qkJ(g:Nat->List T)(n:Nat)(c:Option Nat)(us:Int->Bool)(hus:∀y,ToldOk P16 G16 114 [.view 5 n g c,Y5 y] (.bool (us y))):SeqTold P16 G16 112 [.vp [.view 5 n g c]] (lu us 6).length (fun i=>[uI ((lu us 6).getD i 0)]):=by
 obtain⟨p,hp⟩:=qE P16 G16 114;have hK:∀b,OrcOk P16 G16 (qkI p b):=fun b=>qv qa (qr hp);refine qhw (prom:=[]) Tryz.func112 rfl (by kernel_rfl) (by kernel_rfl) (by decide +kernel) (Nat.le_of_ble_eq_true (by kernel_rfl)) fun l R J Jx hJ hJx hy X g0 w W hi=>?_;refine wpIn_seq ?_;refine It.exk (m:=0) (l:=[0,1]) (vs:=[.yld l,.vp [.view 5 n g c]]) (h:=[]) (l':=[0,1,3]) (vs':=Z5 l (.view 5 n g c) 0) (h':=ze 0) (e:=.normal) qu qa (by decide +kernel) (by kernel_rfl) (by kernel_rfl) (hJ 0) (hi.only _) fun X1 g1 a1 W1 hi1=>?_;refine wpIn_block ?_;refine ZH (fun m a' W=>∃(k:Nat) (X:Nat->Prop) (gg:Gh),k<=6/\m=6-k/\It G16 [] Tryz.f112.ntmps R (J (lu us k).length) X gg (qO [0,1,3] (Z5 l (.view 5 n g c) k) (ze k)) a' W) (fun m a' W hI=>?_) 6 a1 W1 ⟨0,X1,g1,by omega,by omega,hi1⟩;obtain⟨k,X5,g5,hkn,rfl,hi5⟩:=hI;refine wpIn_seq ?_;rcases Nat.lt_or_ge k 6 with hk6|hk6
 ·have hkey:=hus ((k:Int)+1);have six:k=0∨k=1∨k=2∨k=3∨k=4∨k=5:=by omega
  refine It.exk (m:=0) (l:=[0,1,3]) (vs:=Z5 l (.view 5 n g c) k) (h:=ze k) (l':=[0,1,3]) (vs':=Z5 l (.view 5 n g c) k) (h':=ze k) (e:=.normal) qu qa (by decide +kernel) (by rcases six with rfl|rfl|rfl|rfl|rfl|rfl<;>kernel_rfl) (by kernel_rfl) (hJ _) hi5 fun X6 g6 a6 W6 hi6=>?_;refine wpIn_seq ?_;refine wpIn_block ?_;refine wpIn_seq ?_;refine It.exk (m:=0) (l:=[0,1,3]) (vs:=Z5 l (.view 5 n g c) k) (h:=ze k) (l':=[0,1,3,4]) (vs':=Z5 l (.view 5 n g c) k++[.fn 113 [.ptr k 0 0 0]]) (h':=ze k) (e:=.normal) qu qa (by decide +kernel) (by rcases six with rfl|rfl|rfl|rfl|rfl|rfl<;>kernel_rfl) (by kernel_rfl) (hJ _) hi6 fun X7 g7 a7 W7 hi7=>?_;refine wpIn_seq ?_;cases hu:us ((k:Int)+1) with
  |false =>
   rw[hu] at hkey;have eq:lu us (k+1)=lu us k:=by rw[qaq,if_neg (by rw[hu];simp)]
   refine It.exk (m:=0) (K:=qkI p false) (l:=[0,1,3,4]) (vs:=Z5 l (.view 5 n g c) k++[.fn 113 [.ptr k 0 0 0]]) (h:=ze k) (l':=[0,1,3,18]) (vs':=Z5 l (.view 5 n g c) k++[.bool false]) (h':=ze k) (e:=.normal) qu (hK false) (by decide +kernel) (Eq.trans (b:=bif qC (p [(.view 5 n g c),Y5 ((k:Int)+1)] (.bool false)) then some (.normal,Z5 l (.view 5 n g c) k++[.bool false],ze k) else none) (by rcases six with rfl|rfl|rfl|rfl|rfl|rfl<;>kernel_rfl) (qt (Qy hp hkey) rfl)) (by kernel_rfl) (hJ _) hi7 fun X8 g8 a8 W8 hi8=>?_;refine It.exk (m:=0) (l:=[0,1,3,18]) (vs:=Z5 l (.view 5 n g c) k++[.bool false]) (h:=ze k) (l':=[0,1,3]) (vs':=Z5 l (.view 5 n g c) k) (h':=ze k) (e:=.normal) qu qa (by decide +kernel) (by rcases six with rfl|rfl|rfl|rfl|rfl|rfl<;>kernel_rfl) (by kernel_rfl) (hJ _) hi8 fun X9 g9 a9 W9 hi9=>?_;refine It.exk (m:=0) (l:=[0,1,3]) (vs:=Z5 l (.view 5 n g c) k) (h:=ze k) (l':=[0,1,3]) (vs':=Z5 l (.view 5 n g c) (k+1)) (h':=ze (k+1)) (e:=.normal) qu qa (by decide +kernel) (by rcases six with rfl|rfl|rfl|rfl|rfl|rfl<;>kernel_rfl) (by kernel_rfl) (hJ _) hi9 fun X10 g10 a10 W10 hi10=>?_;exact⟨6-(k+1),by omega,k+1,X10,g10,by omega,rfl,by rw[eq];exact hi10⟩
  |true =>
   rw[hu] at hkey;obtain⟨r,hr⟩:=qes us hu 6 hk6;have eq:(lu us (k+1)).length=(lu us k).length+1:=by rw[qaq,if_pos hu];simp
   have hlen:(lu us k).length<(lu us 6).length:=by rw[hr];simp
   have hget:(lu us 6).getD (lu us k).length 0=(k:Int)+1:=by rw[hr];simp
   refine It.yield (K:=qkI p true) (k:=6) (l:=[0,1,3,4]) (l':=[0,1,3,18]) (vs:=Z5 l (.view 5 n g c) k++[.fn 113 [.ptr k 0 0 0]]) (h:=ze k) (hT:=ze k) (hF:=ze k)
    (vsT:=Z5 l (.view 5 n g c) k++[.bool false]) (vsF:=Z5 l (.view 5 n g c) k++[.bool true]) (hK true) (l0:=l) (xs:=[uI ((k:Int)+1)]) (Eq.trans (b:=bif qC (p [(.view 5 n g c),Y5 ((k:Int)+1)] (.bool true)) then some (l,[uI ((k:Int)+1)],(Z5 l (.view 5 n g c) k++[.bool false],ze k),(Z5 l (.view 5 n g c) k++[.bool true],ze k)) else none) (by rcases six with rfl|rfl|rfl|rfl|rfl|rfl<;>kernel_rfl) (qt (Qy hp hkey) rfl)) rfl (hJ _) (hJ ((lu us k).length+1)) (hJx (lu us k).length) hi7 (fun X W args hj hpp=>hy (lu us k).length X W args hlen hj (by rw[hget];exact hpp)) (fun X8 g8 a8 W8 hi8=>?_) (fun X8 g8 a8 W8 hi8=>?_)
   ·refine It.exk (m:=0) (l:=[0,1,3,18]) (vs:=Z5 l (.view 5 n g c) k++[.bool false]) (h:=ze k) (l':=[0,1,3]) (vs':=Z5 l (.view 5 n g c) k) (h':=ze k) (e:=.normal) qu qa (by decide +kernel) (by rcases six with rfl|rfl|rfl|rfl|rfl|rfl<;>kernel_rfl) (by kernel_rfl) (hJ _) hi8 fun X9 g9 a9 W9 hi9=>?_;refine It.exk (m:=0) (l:=[0,1,3]) (vs:=Z5 l (.view 5 n g c) k) (h:=ze k) (l':=[0,1,3]) (vs':=Z5 l (.view 5 n g c) (k+1)) (h':=ze (k+1)) (e:=.normal) qu qa (by decide +kernel) (by rcases six with rfl|rfl|rfl|rfl|rfl|rfl<;>kernel_rfl) (by kernel_rfl) (hJ _) hi9 fun X10 g10 a10 W10 hi10=>?_;exact⟨6-(k+1),by omega,k+1,X10,g10,by omega,rfl,by rw[eq];exact hi10⟩
   ·refine It.exk (m:=0) (l:=[0,1,3,18]) (vs:=Z5 l (.view 5 n g c) k++[.bool true]) (h:=ze k) (l':=[]) (vs':=[]) (h':=ze k) (e:=.ret) qu qa (by decide +kernel) (by rcases six with rfl|rfl|rfl|rfl|rfl|rfl<;>kernel_rfl) (by kernel_rfl) (hJx _) hi8 fun X10 g10 a10 W10 hi10=>?_;exact⟨.inr rfl,X10,g10,_,.inr ⟨_,hlen,hi10⟩⟩
 ·obtain rfl:k=6:=by omega
  refine It.exk (m:=0) (l:=[0,1,3]) (vs:=Z5 l (.view 5 n g c) 6) (h:=ze 6) (l':=[]) (vs':=[]) (h':=ze 6) (e:=.exit 0) qu qa (by decide +kernel) (by kernel_rfl) (by kernel_rfl) (hJ _) hi5 fun X6 g6 a6 W6 hi6=>?_;exact⟨.inl rfl,X6,g6,_,.inl hi6⟩
def qdo:FuncId->List T->Option (List (List T)):=fun f caps=>bif f==112 then match caps with
 |[.vp [.view 5 n g _]]=>bif Nat.ble n 1000&&(List.range n).all (fun j=>qg6 (g j)) then some ((lu (usB (fun j=>j5 (g j)) n) 6).map fun y=>[uI y]) else none
 |_=>none else none
theorem y9:jc P16 G16 qdo:=fun gf caps l h=>by
 unfold qdo at h;obtain⟨hf,h3⟩:=qn h;obtain rfl:gf=112:=by simpa using hf
 split at h3
 ·rename_i n g c;obtain⟨hc,h4⟩:=qn h3;have hc2:Nat.ble n 1000=true/\(List.range n).all (fun j=>qg6 (g j))=true:=by simpa only[Bool.and_eq_true] using hc
  have h1:=hc2.1;have h2:∀j,j<n->qg6 (g j)=true:=fun j hj=>List.all_eq_true.1 hc2.2 j (List.mem_range.2 hj);obtain rfl:=Option.some.inj h4;have key:=qkJ g n c (usB (fun j=>j5 (g j)) n) fun y=>qid g n c y (by have:=Qm h1;omega) h2;rw[List.length_map];have e:(fun i=>(List.map (fun y=>[uI y]) (lu (usB (fun j=>j5 (g j)) n) 6)).getD i [])=fun i=>(if i<(lu (usB (fun j=>j5 (g j)) n) 6).length then [uI ((lu (usB (fun j=>j5 (g j)) n) 6).getD i 0)] else []):=by
   funext i;rw[List.getD_eq_getElem?_getD,List.getElem?_map,List.getD_eq_getElem?_getD];by_cases q:i<(lu (usB (fun j=>j5 (g j)) n) 6).length
   ·rw[if_pos q,List.getElem?_eq_getElem q];rfl
   ·rw[if_neg q,List.getElem?_eq_none (by omega)];rfl
  rw[e];refine⟨key.enters,fun w U lb hU hgl ha=>?_⟩;have hit:=key.it w U lb hU hgl ha;exact fun l J Jx hJ hJx hy W a b c=>hit l J Jx hJ hJx (fun i X W args hi hj hp=>hy i X W args hi hj (by dsimp only;rw[if_pos hi];exact hp)) W a b c
 ·cases h3
end Go.Ab

