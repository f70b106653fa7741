/- A part of the proof: nothing is assumed. -/
import Derived.Test.YteoamlekamflbaaP9
import Derived.Test.YteoamlekamflbaaP10
set_option linter.all false
namespace Go.Ab
open IntKind(i64 u8)
open Int(ofNat)
open Go.Proofs
def v70(n:Nat)(a b lim:Nat)(bal par:Bool):List T:=[.own 0 0 0 n none,iI a,iI b,iI lim,.bool bal,.bool par]
def w70(n:Nat)(a b lim:Nat)(bal par:Bool)(L:Nat):List T:=v70 n a b lim bal par++[iI L]
def x70(n:Nat)(a b lim:Nat)(bal par:Bool)(L p:Nat)(hint:Int):List T:=w70 n a b lim bal par L++[iI p,iI hint]
def qcn(k:Nat)(c:Code):Code:=match k with
 |0=>inB (inB (inB (sq2 (sq2 c))))
 |k+1=>sq2 (qcn k c)
def Zj(k:Nat)(c:Code):Code:=sq1 (qcn k c)
noncomputable def KR(f:FuncId)(p:List T->qg->T->qg->Prop)(r:T)(h:qg):Orc:=K82.addRef f (qa4 p fun _ _=>some (r,h))
noncomputable def KR2(p84 p70:List T->qg->T->qg->Prop)(n m:Nat)(d:Bool)(yp yg:Nat->Int):Orc:=(K82.addRef 84 (qa4 p84 fun _ _=>some (.tup [iI m,.bool d],[ub 0 n yp]))).addRef 70 (qa4 p70 fun _ _=>some (.tup [],[ub 0 n yg]))
structure I70(x:Nat->Int)(n a b lim:Nat)(y:Nat->Int):Prop where
 pr:Pr x y 0 n
 out:Out y n a b
 ab:a<=b
 bn:b<=n
 limB:12<b-a->b-a<=lim+12
 limC:lim<=10
noncomputable def c70:Code:=match P18.funcs[70]? with|some fn=>fn.body.getD .skip|none=>.skip
def lT:List Nat:=[0,1,2,3,8,9]
def lW:List Nat:=[0,1,2,3,8,9,10]
def lX:List Nat:=[0,1,2,3,8,9,10,11,12]
def Pc(k:Nat)(l:List Nat)(vs:List T)(h:qg)(e:Ex)(l':List Nat)(vs':List T)(h':qg):Prop:=CodeGoes P18 G18 (A18 70).prom Try.f70.ntmps (Zj k c70) (qM l vs h) e (qM l' vs' h')
def Ch(k:Nat)(l:List Nat)(vs:List T)(h:qg)(e:Ex)(l':List Nat)(vs':List T)(h':qg):Prop:=CodeGoes P18 G18 (A18 70).prom Try.f70.ntmps (qcn k c70) (qM l vs h) e (qM l' vs' h')
theorem b70:Try.f70.body=some c70:=by kernel_rfl
theorem qco(c:Code):∀k,∀b∈qC (qcn k c),b∈qC c
 |0=>fun b hb=>ZC _ _ (ZC _ _ (YV _ _ (YV _ _ (YV _ _ hb))))
 |k+1=>fun b hb=>qco c k b (ZC _ _ hb)
theorem pc{K:Orc}(hK:OrcOk P18 G18 K)(k:Nat){l l':List Nat}{vs vs':List T}{h h':qg}{e:Ex}(hk:qy P18 G18 A18 K 0 70 [] (Zj k) l vs h l'=some (e,vs',h')):Pc k l vs h e l' vs' h' :=
 Z8 qv hK Try.func70 b70 (Nat.le_of_ble_eq_true (by kernel_rfl)) (by kernel_rfl) qh (Zj k) rfl (fun b hb=>qco _ k b (YS _ _ hb)) hk
theorem pc8{K:Orc}(hK:OrcOk P18 G18 K){l l':List Nat}{vs vs':List T}{h h':qg}{e:Ex}(hk:qy P18 G18 A18 K 0 70 [] (qcn 8) l vs h l'=some (e,vs',h')):Ch 8 l vs h e l' vs' h' :=
 Z8 qv hK Try.func70 b70 (Nat.le_of_ble_eq_true (by kernel_rfl)) (by kernel_rfl) qh (qcn 8) rfl (fun b hb=>qco _ 8 b hb) hk
theorem qjj:(∀k,k<8->qcn k c70 = .seq (Zj k c70) (qcn (k+1) c70)):=by
 intro k hk;obtain rfl|rfl|rfl|rfl|rfl|rfl|rfl|rfl:k=0∨k=1∨k=2∨k=3∨k=4∨k=5∨k=6∨k=7:=by omega
 all_goals kernel_rfl
theorem Zr{k:Nat}(hk:k<8){l l1 l2:List Nat}{vs v1 v2:List T}{h h1 h2:qg}{e:Ex}(p:Pc k l vs h .normal l1 v1 h1)(q:Ch (k+1) l1 v1 h1 e l2 v2 h2):Ch k l vs h e l2 v2 h2:=by
 unfold Ch;rw[qjj k hk];exact qji p q
theorem qjk{k:Nat}(hk:k<8){l l1:List Nat}{vs v1:List T}{h h1:qg}(p:Pc k l vs h .ret l1 v1 h1):Ch k l vs h .ret l1 v1 h1:=by
 unfold Ch;rw[qjj k hk];exact qeQ p
theorem qkl{k i:Nat}(hk:k<8){l l1:List Nat}{vs v1:List T}{h h1:qg}(p:Pc k l vs h (.exit i) l1 v1 h1):Ch k l vs h (.exit i) l1 v1 h1:=by
 unfold Ch;rw[qjj k hk];exact qdd p
theorem qgV{f:FuncId}{p:List T->qg->T->qg->Prop}(hp:p=ToldRef P18 G18 f)(r:T)(h:qg):OrcOk P18 G18 (KR f p r h):=QL Zi (zf hp)
theorem qkS(n a b:Nat)(x:Nat->Int)(lim:Int)(hn:n<=1000)(hb:b<=n)(hab:a<=b)(h12:b-a<=12) :
 ∃z,(Pr x z a b/\Asc z a b)/\ToldRef P18 G18 70 [.own 0 0 0 n none,iI a,iI b,iI lim] [ub 0 n x] (.tup []) [ub 0 n z]:=by
 obtain⟨z,hz,ht⟩:=qmb n a b x hn hb hab;obtain⟨p,hp⟩:=ZO P18 G18 76;refine⟨z,hz,?_⟩;refine Qu qv q9 (K:=K70 p n z) (QL qf (zf hp)) (A:=A18) (m:=1) (by kernel_rfl) (l:=[]) qh ?_;rw[(show ZN P18 G18 A18 (K70 p n z) 1 70 [] [.own 0 0 0 n none,iI a,iI b,iI lim] [ub 0 n x] =
( bif decide (i64.wrap (ofNat b-ofNat a)<=(12:Int)) then gD (qF (p (v80 n (ofNat a) (ofNat b)) [ub (0:Nat) n x] (.tup []) [ub (0:Nat) n z]))<|some ((.tup [],[ub (0:Nat) n z])) else
 gD (decide (lim=0)) none) from by kernel_rfl)]
 rw[qn b,qn a,qI (x:=(b:Int)-a) (by omega) (by omega)];refine BT ?_;exact qm (Qe hp ht) rfl
section
variable {n a b lim:Nat} {bal par:Bool} {y:Nat->Int}
theorem q0(hb:b<=1000)(hab:a<=b):Pc 0 lT (v70 n a b lim bal par) [ub 0 n y] .normal lW (w70 n a b lim bal par (b-a)) [ub 0 n y]:=by
 refine pc qf 0 ?_;show qy P18 G18 A18 qk 0 70 [] (Zj 0) [0,1,2,3,8,9] (v70 n a b lim bal par) [ub 0 n y] [0,1,2,3,8,9,10]=_;rw[(show qy P18 G18 A18 qk 0 70 [] (Zj 0) [0,1,2,3,8,9] (v70 n a b lim bal par) [ub 0 n y] [0,1,2,3,8,9,10] =
( zN [.own 0 0 0 n
 none,iI (.ofNat a),iI (.ofNat b),iI (.ofNat lim),.bool bal,.bool par,iI (i64.wrap (ofNat b-ofNat a))] [ub (0:Nat) n y]) from by kernel_rfl)]
 rw[qn b,qn a,show i64.wrap ((b:Int)-a)=((b-a:Nat):Int) by rw[qI (by omega) (by omega)];omega];rfl
theorem q1r{L:Nat}(hL:L<=12){z:Nat->Int}(t:ToldRef P18 G18 76 [.own 0 0 0 n none,iI a,iI b] [ub 0 n y] (.tup []) [ub 0 n z]):Pc 1 lW (w70 n a b lim bal par L) [ub 0 n y] .ret [] [] [ub 0 n z]:=by
 obtain⟨q,hq⟩:=ZO P18 G18 76;refine pc (K:=KR 76 q (.tup []) [ub 0 n z]) (qgV hq _ _) 1 ?_;show qy P18 G18 A18 (KR 76 q (.tup []) [ub 0 n z]) 0 70 [] (Zj 1) [0,1,2,3,8,9,10] (w70 n a b lim bal par L) [ub 0 n y] []=_;rw[(show qy P18 G18 A18 (KR 76 q (.tup []) [ub 0 n z]) 0 70 [] (Zj 1) [0,1,2,3,8,9,10] (w70 n a b lim bal par L) [ub 0 n y] [] =
( bif decide (ofNat L<=12) then gD (qF (q (v80 n (ofNat a) (ofNat b)) [ub (0:Nat) n y] (.tup []) [ub (0:Nat) n z]))<|zR [] [ub (0:Nat) n z] else
 zN [] [ub (0:Nat) n y]) from by kernel_rfl)]
 refine BT ?_;exact qm (Qe hq t) rfl
theorem q1n{L:Nat}(hL:12<L):Pc 1 lW (w70 n a b lim bal par L) [ub 0 n y] .normal lW (w70 n a b lim bal par L) [ub 0 n y]:=by
 refine pc qf 1 ?_;show qy P18 G18 A18 qk 0 70 [] (Zj 1) [0,1,2,3,8,9,10] (w70 n a b lim bal par L) [ub 0 n y] [0,1,2,3,8,9,10]=_;rw[(show qy P18 G18 A18 qk 0 70 [] (Zj 1) [0,1,2,3,8,9,10] (w70 n a b lim bal par L) [ub 0 n y] [0,1,2,3,8,9,10] =
( bif decide (ofNat L<=12) then none else
 zN (w70 n a b lim bal par L) [ub (0:Nat) n y]) from by kernel_rfl)]
 refine BF ?_;rfl
theorem q2{L:Nat}(hl:1<=lim):Pc 2 lW (w70 n a b lim bal par L) [ub 0 n y] .normal lW (w70 n a b lim bal par L) [ub 0 n y]:=by
 refine pc qf 2 ?_;show qy P18 G18 A18 qk 0 70 [] (Zj 2) [0,1,2,3,8,9,10] (w70 n a b lim bal par L) [ub 0 n y] [0,1,2,3,8,9,10]=_;rw[(show qy P18 G18 A18 qk 0 70 [] (Zj 2) [0,1,2,3,8,9,10] (w70 n a b lim bal par L) [ub 0 n y] [0,1,2,3,8,9,10] =
( bif decide (ofNat lim=0) then none else
 zN (w70 n a b lim bal par L) [ub (0:Nat) n y]) from by kernel_rfl)]
 refine BF ?_;rfl
theorem q3t{L:Nat}:Pc 3 lW (w70 n a b lim true par L) [ub 0 n y] .normal lW (w70 n a b lim true par L) [ub 0 n y]:=by
 refine pc qf 3 ?_;show qy P18 G18 A18 qk 0 70 [] (Zj 3) [0,1,2,3,8,9,10] (w70 n a b lim true par L) [ub 0 n y] [0,1,2,3,8,9,10]=_;rw[(show qy P18 G18 A18 qk 0 70 [] (Zj 3) [0,1,2,3,8,9,10] (w70 n a b lim true par L) [ub 0 n y] [0,1,2,3,8,9,10] =
( zN (w70 n a b lim true par L) [ub (0:Nat) n y]) from by kernel_rfl)]
 try rfl
theorem q3f{L:Nat}(hl:1<=lim)(hl2:lim<=10){z:Nat->Int}(t:ToldRef P18 G18 78 [.own 0 0 0 n none,iI a,iI b] [ub 0 n y] (.tup []) [ub 0 n z]):Pc 3 lW (w70 n a b lim false par L) [ub 0 n y] .normal lW (w70 n a b (lim-1) false par L) [ub 0 n z]:=by
 obtain⟨q,hq⟩:=ZO P18 G18 78;refine pc (K:=KR 78 q (.tup []) [ub 0 n z]) (qgV hq _ _) 3 ?_;show qy P18 G18 A18 (KR 78 q (.tup []) [ub 0 n z]) 0 70 [] (Zj 3) [0,1,2,3,8,9,10] (w70 n a b lim false par L) [ub 0 n y] [0,1,2,3,8,9,10]=_;rw[(show qy P18 G18 A18 (KR 78 q (.tup []) [ub 0 n z]) 0 70 [] (Zj 3) [0,1,2,3,8,9,10] (w70 n a b lim false par L) [ub 0 n y] [0,1,2,3,8,9,10] =
( gD (qF (q (v80 n (ofNat a) (ofNat b)) [ub (0:Nat) n y] (.tup []) [ub (0:Nat) n z]))<|zN [.own 0 0 0 n
 none,iI (.ofNat a),iI (.ofNat b),iI (i64.wrap (ofNat lim-1)),.bool false,.bool par,iI (.ofNat L)] [ub (0:Nat) n z]) from by kernel_rfl)]
 refine qm (Qe hq t) ?_;rw[qn lim,show i64.wrap ((lim:Int)-1)=((lim-1:Nat):Int) by rw[qI (by omega) (by omega)];omega];rfl
theorem q4{L p:Nat}{hint:Int}(t:ToldRef P18 G18 79 [.own 0 0 0 n none,iI a,iI b] [ub 0 n y] (.tup [iI p,iI hint]) [ub 0 n y]):Pc 4 lW (w70 n a b lim bal par L) [ub 0 n y] .normal lX (x70 n a b lim bal par L p hint) [ub 0 n y]:=by
 obtain⟨q,hq⟩:=ZO P18 G18 79;refine pc (K:=KR 79 q (.tup [iI p,iI hint]) [ub 0 n y]) (qgV hq _ _) 4 ?_;show qy P18 G18 A18 (KR 79 q (.tup [iI p,iI hint]) [ub 0 n y]) 0 70 [] (Zj 4) [0,1,2,3,8,9,10] (w70 n a b lim bal par L) [ub 0 n y] [0,1,2,3,8,9,10,11,12]=_;rw[(show qy P18 G18 A18 (KR 79 q (.tup [iI p,iI hint]) [ub 0 n y]) 0 70 [] (Zj 4) [0,1,2,3,8,9,10] (w70 n a b lim bal par L) [ub 0 n y] [0,1,2,3,8,9,10,11,12] =
( gD (qF (q (v80 n (ofNat a) (ofNat b)) [ub (0:Nat) n y] (.tup [iI (.ofNat p),iI hint]) [ub (0:Nat) n y]))<|zN (x70 n a b lim bal par L p hint) [ub (0:Nat) n y]) from by kernel_rfl)]
 exact qm (Qe hq t) rfl
theorem q5t{L p:Nat}{z:Nat->Int}(hb:b<=1000)(hp:a<=p)(hp2:p<b)(t:ToldRef P18 G18 80 [.own 0 0 0 n none,iI a,iI b] [ub 0 n y] (.tup []) [ub 0 n z]):Pc 5 lX (x70 n a b lim bal par L p 2) [ub 0 n y] .normal lX (x70 n a b lim bal par L (b-1-(p-a)) 1) [ub 0 n z]:=by
 obtain⟨q,hq⟩:=ZO P18 G18 80;refine pc (K:=KR 80 q (.tup []) [ub 0 n z]) (qgV hq _ _) 5 ?_;show qy P18 G18 A18 (KR 80 q (.tup []) [ub 0 n z]) 0 70 [] (Zj 5) [0,1,2,3,8,9,10,11,12] (x70 n a b lim bal par L p 2) [ub 0 n y] [0,1,2,3,8,9,10,11,12]=_;rw[(show qy P18 G18 A18 (KR 80 q (.tup []) [ub 0 n z]) 0 70 [] (Zj 5) [0,1,2,3,8,9,10,11,12] (x70 n a b lim bal par L p 2) [ub 0 n y] [0,1,2,3,8,9,10,11,12] =
( gD (qF (q (v80 n (ofNat a) (ofNat b)) [ub (0:Nat) n y] (.tup []) [ub (0:Nat) n z]))<|zN [.own 0 0 0 n
 none,iI (.ofNat a),iI (.ofNat b),iI (.ofNat lim),.bool bal,.bool par,iI (.ofNat L),iI (i64.wrap (i64.wrap (ofNat b-1)-i64.wrap (ofNat p-ofNat a))),iI 1] [ub (0:Nat) n z]) from by kernel_rfl)]
 refine qm (Qe hq t) ?_;rw[qn b,qn p,qn a,qI (x:=(b:Int)-1) (by omega) (by omega),qI (x:=(p:Int)-a) (by omega) (by omega),show i64.wrap ((b:Int)-1-((p:Int)-a))=((b-1-(p-a):Nat):Int) by rw[qI (by omega) (by omega)];omega];rfl
theorem q5f{L p:Nat}{hint:Int}(hh:hint≠2):Pc 5 lX (x70 n a b lim bal par L p hint) [ub 0 n y] .normal lX (x70 n a b lim bal par L p hint) [ub 0 n y]:=by
 refine pc qf 5 ?_;show qy P18 G18 A18 qk 0 70 [] (Zj 5) [0,1,2,3,8,9,10,11,12] (x70 n a b lim bal par L p hint) [ub 0 n y] [0,1,2,3,8,9,10,11,12]=_;rw[(show qy P18 G18 A18 qk 0 70 [] (Zj 5) [0,1,2,3,8,9,10,11,12] (x70 n a b lim bal par L p hint) [ub 0 n y] [0,1,2,3,8,9,10,11,12] =
( bif decide (hint=2) then none else
 zN (x70 n a b lim bal par L p hint) [ub (0:Nat) n y]) from by kernel_rfl)]
 rw[dF hh];rfl
end
section
variable {n a b lim L p:Nat} {hint:Int} {bal par:Bool} {y:Nat->Int}
theorem q6n(hf:(bal&&(par&&decide (hint=1)))=false):Pc 6 lX (x70 n a b lim bal par L p hint) [ub 0 n y] .normal lX (x70 n a b lim bal par L p hint) [ub 0 n y]:=by
 refine pc qf 6 ?_;show qy P18 G18 A18 qk 0 70 [] (Zj 6) [0,1,2,3,8,9,10,11,12] (x70 n a b lim bal par L p hint) [ub 0 n y] [0,1,2,3,8,9,10,11,12]=_;rw[(show qy P18 G18 A18 qk 0 70 [] (Zj 6) [0,1,2,3,8,9,10,11,12] (x70 n a b lim bal par L p hint) [ub 0 n y] [0,1,2,3,8,9,10,11,12] =
( bif bal then bif par then bif decide (hint=1) then none else
 zN (x70 n a b lim bal par L p hint) [ub (0:Nat) n y] else
 zN (x70 n a b lim bal par L p hint) [ub (0:Nat) n y] else
 zN (x70 n a b lim bal par L p hint) [ub (0:Nat) n y]) from by kernel_rfl)]
 cases bal
 ·rfl
 ·cases par
  ·rfl
  ·rw[Bool.true_and,Bool.true_and] at hf;rw[hf];rfl
theorem q6c{ins:Bool}(t:ToldRef P18 G18 81 [.own 0 0 0 n none,iI a,iI b] [ub 0 n y] (.bool ins) [ub 0 n y]) :
 (ins=true->Pc 6 lX (x70 n a b lim true true L p 1) [ub 0 n y] .ret [] [] [ub 0 n y])/\(ins=false->Pc 6 lX (x70 n a b lim true true L p 1) [ub 0 n y] .normal lX (x70 n a b lim true true L p 1) [ub 0 n y]):=by
 obtain⟨q,hq⟩:=ZO P18 G18 81;constructor
 ·rintro rfl;refine pc (K:=KR 81 q (.bool true) [ub 0 n y]) (qgV hq _ _) 6 ?_;show qy P18 G18 A18 (KR 81 q (.bool true) [ub 0 n y]) 0 70 [] (Zj 6) [0,1,2,3,8,9,10,11,12] (x70 n a b lim true true L p 1) [ub 0 n y] []=_;rw[(show qy P18 G18 A18 (KR 81 q (.bool true) [ub 0 n y]) 0 70 [] (Zj 6) [0,1,2,3,8,9,10,11,12] (x70 n a b lim true true L p 1) [ub 0 n y] [] =
( gD (qF (q [.own 0 0 0 n
 none,iI (.ofNat a),iI (.ofNat b)] [.mk 0 1 n (fun j=>[uI (y j)]) true false
 none] (.bool true) [.mk 0 1 n (fun j=>[uI (y j)]) true false
 none]))<|zR [] [ub (0:Nat) n y]) from by kernel_rfl)]
  exact qm (Qe hq t) rfl
 ·rintro rfl;refine pc (K:=KR 81 q (.bool false) [ub 0 n y]) (qgV hq _ _) 6 ?_;show qy P18 G18 A18 (KR 81 q (.bool false) [ub 0 n y]) 0 70 [] (Zj 6) [0,1,2,3,8,9,10,11,12] (x70 n a b lim true true L p 1) [ub 0 n y] [0,1,2,3,8,9,10,11,12]=_;rw[(show qy P18 G18 A18 (KR 81 q (.bool false) [ub 0 n y]) 0 70 [] (Zj 6) [0,1,2,3,8,9,10,11,12] (x70 n a b lim true true L p 1) [ub 0 n y] [0,1,2,3,8,9,10,11,12] =
( gD (qF (q [.own 0 0 0 n
 none,iI (.ofNat a),iI (.ofNat b)] [.mk 0 1 n (fun j=>[uI (y j)]) true false
 none] (.bool false) [.mk 0 1 n (fun j=>[uI (y j)]) true false
 none]))<|zN (x70 n a b lim true true L p (1:Int)) [ub (0:Nat) n y]) from by kernel_rfl)]
  exact qm (Qe hq t) rfl
theorem q7n(hn:n<=1000)(hp:p<n)(ha:a<=n)(hc:a=0∨y (a-1)<y p):Pc 7 lX (x70 n a b lim bal par L p hint) [ub 0 n y] .normal lX (x70 n a b lim bal par L p hint) [ub 0 n y]:=by
 refine pc Zi 7 ?_;show qy P18 G18 A18 K82 0 70 [] (Zj 7) [0,1,2,3,8,9,10,11,12] (x70 n a b lim bal par L p hint) [ub 0 n y] [0,1,2,3,8,9,10,11,12]=_;rw[(show qy P18 G18 A18 K82 0 70 [] (Zj 7) [0,1,2,3,8,9,10,11,12] (x70 n a b lim bal par L p hint) [ub 0 n y] [0,1,2,3,8,9,10,11,12] =
( bif decide (0<ofNat a) then gD (decide (0<=i64.wrap (ofNat a-1))&&decide (i64.wrap (ofNat a-1)<ofNat n))<|gD (((0:Nat)+(i64.wrap (ofNat a-(1:Int))).toNat).blt n)<|gD (decide (0<=ofNat p)&&decide (ofNat p<ofNat n))<|gD (((0:Nat)+p).blt n)<|gD (decide (y ((0:Nat)+(i64.wrap (ofNat a-(1:Int))).toNat)<y (0+p)))<|zN (x70 n a b lim bal par L p hint) [ub (0:Nat) n y] else
 zN (x70 n a b lim bal par L p hint) [ub (0:Nat) n y]) from by kernel_rfl)]
 rcases Nat.eq_zero_or_pos a with q|q
 ·subst q;refine BF ?_;rfl
 ·have h:=hc.resolve_left (by omega);rw[qn a,show i64.wrap ((a:Int)-1)=((a-1:Nat):Int) by rw[qI (by omega) (by omega)];omega,QJ];refine BT ?_;refine BT ?_;refine BT ?_;refine BT ?_;refine BT ?_;refine BT ?_;rfl
theorem q7e(hn:n<=1000)(hp:p<n)(ha:a<=n)(h0:0<a)(hc:¬y (a-1)<y p){m:Nat}{z:Nat->Int}(t:ToldRef P18 G18 83 [.own 0 0 0 n none,iI a,iI b,iI p] [ub 0 n y] (iI m) [ub 0 n z]):Pc 7 lX (x70 n a b lim bal par L p hint) [ub 0 n y] (.exit 1) lT (v70 n m b lim bal par) [ub 0 n z]:=by
 obtain⟨q,hq⟩:=ZO P18 G18 83;refine pc (K:=KR 83 q (iI m) [ub 0 n z]) (qgV hq _ _) 7 ?_;show qy P18 G18 A18 (KR 83 q (iI m) [ub 0 n z]) 0 70 [] (Zj 7) [0,1,2,3,8,9,10,11,12] (x70 n a b lim bal par L p hint) [ub 0 n y] [0,1,2,3,8,9]=_;rw[(show qy P18 G18 A18 (KR 83 q (iI m) [ub 0 n z]) 0 70 [] (Zj 7) [0,1,2,3,8,9,10,11,12] (x70 n a b lim bal par L p hint) [ub 0 n y] [0,1,2,3,8,9] =
( bif decide (0<ofNat a) then gD (decide (0<=i64.wrap (ofNat a-1))&&decide (i64.wrap (ofNat a-1)<ofNat n))<|gD (((0:Nat)+(i64.wrap (ofNat a-(1:Int))).toNat).blt n)<|gD (decide (0<=ofNat p)&&decide (ofNat p<ofNat n))<|gD (((0:Nat)+p).blt n)<|bif decide (y ((0:Nat)+(i64.wrap (ofNat a-(1:Int))).toNat)<y (0+p)) then zN (v70 n a b lim bal par) [ub (0:Nat) n y] else
 gD (qF (q [.own 0 0 0 n
 none,iI (.ofNat a),iI (.ofNat b),iI (.ofNat p)] [.mk 0 1 n (fun j=>[uI (y j)]) true false
 none] (iI (.ofNat m)) [.mk 0 1 n (fun j=>[uI (z j)]) true false
 none]))<|zX 1 (v70 n m b lim bal par) [ub (0:Nat) n z] else
 zN (v70 n a b lim bal par) [ub (0:Nat) n y]) from by kernel_rfl)]
 rw[qn a,show i64.wrap ((a:Int)-1)=((a-1:Nat):Int) by rw[qI (by omega) (by omega)];omega,QJ];refine BT ?_;refine BT ?_;refine BT ?_;refine BT ?_;refine BT ?_;refine BF ?_;exact qm (Qe hq t) rfl
theorem q8(hn:n<=1000)(hb:b<=n){m:Nat}{d:Bool}{yp:Nat->Int}(hm1:a<=m)(hm2:m<b)(t:ToldRef P18 G18 84 [.own 0 0 0 n none,iI a,iI b,iI p] [ub 0 n y] (.tup [iI m,.bool d]) [ub 0 n yp]) :
 (m-a<b-m->∀yg,ToldRef P18 G18 70 [.own 0 0 0 n none,iI a,iI m,iI lim] [ub 0 n yp] (.tup []) [ub 0 n yg]->∃bal2 par2,Ch 8 lX (x70 n a b lim bal par L p hint) [ub 0 n y] .normal lT (v70 n (m+1) b lim bal2 par2) [ub 0 n yg]) ∧
 (¬m-a<b-m->∀yg,ToldRef P18 G18 70 [.own 0 0 0 n none,iI (m+1:Nat),iI b,iI lim] [ub 0 n yp] (.tup []) [ub 0 n yg]->∃bal2 par2,Ch 8 lX (x70 n a b lim bal par L p hint) [ub 0 n y] .normal lT (v70 n a m lim bal2 par2) [ub 0 n yg]):=by
 obtain⟨q,hq⟩:=ZO P18 G18 84;obtain⟨q2,hq2⟩:=ZO P18 G18 70;have e1:i64.wrap (ofNat m-ofNat a)=((m-a:Nat):Int):=by rw[qn,qn,qI (by omega) (by omega)];omega
 have e2:i64.wrap (ofNat b-ofNat m)=((b-m:Nat):Int):=by rw[qn,qn,qI (by omega) (by omega)];omega
 have e3:i64.wrap (ofNat m+1)=((m+1:Nat):Int):=by rw[qn,qI (by omega) (by omega)];omega
 have tree:=fun yg=>(show qy P18 G18 A18 (KR2 q q2 n m d yp yg) 0 70 [] (qcn 8) [0,1,2,3,8,9,10,11,12] (x70 n a b lim bal par L p hint) [ub 0 n y] [0,1,2,3,8,9] =
( gD (qF (q [.own 0 0 0 n
 none,iI (.ofNat a),iI (.ofNat b),iI (.ofNat p)] [.mk 0 1 n (fun j=>[uI (y j)]) true false
 none] (.tup [iI (.ofNat m),.bool d]) [.mk 0 1 n (fun j=>[uI (yp j)]) true false
 none]))<|bif d then bif decide (i64.wrap (ofNat m-ofNat a)<i64.wrap (ofNat b-ofNat m)) then bif decide (i64.wrap ((ofNat L).tdiv 8)<=i64.wrap (ofNat m-ofNat a)) then gD (qF (q2 [.own 0 0 0 n
 none,iI (.ofNat a),iI (.ofNat m),iI (.ofNat lim)] [.mk 0 1 n (fun j=>[uI (yp j)]) true false
 none] (.tup []) [.mk 0 1 n (fun j=>[uI (yg j)]) true false
 none]))<|zN [.own 0 0 0 n
 none,iI (i64.wrap (ofNat m+1)),iI (.ofNat b),iI (.ofNat lim),.bool true,.bool true] [ub (0:Nat) n yg] else
 gD (qF (q2 [.own 0 0 0 n
 none,iI (.ofNat a),iI (.ofNat m),iI (.ofNat lim)] [.mk 0 1 n (fun j=>[uI (yp j)]) true false
 none] (.tup []) [.mk 0 1 n (fun j=>[uI (yg j)]) true false
 none]))<|zN [.own 0 0 0 n
 none,iI (i64.wrap (ofNat m+1)),iI (.ofNat b),iI (.ofNat lim),.bool false,.bool true] [ub (0:Nat) n yg] else
 bif decide (i64.wrap ((ofNat L).tdiv 8)<=i64.wrap (ofNat b-ofNat m)) then gD (qF (q2 [.own 0 0 0 n
 none,iI (i64.wrap (ofNat m+1)),iI (.ofNat b),iI (.ofNat lim)] [.mk 0 1 n (fun j=>[uI (yp j)]) true false
 none] (.tup []) [.mk 0 1 n (fun j=>[uI (yg j)]) true false
 none]))<|zN (v70 n a m lim true true) [ub (0:Nat) n yg] else
 gD (qF (q2 [.own 0 0 0 n
 none,iI (i64.wrap (ofNat m+1)),iI (.ofNat b),iI (.ofNat lim)] [.mk 0 1 n (fun j=>[uI (yp j)]) true false
 none] (.tup []) [.mk 0 1 n (fun j=>[uI (yg j)]) true false
 none]))<|zN (v70 n a m lim false true) [ub (0:Nat) n yg] else
 bif decide (i64.wrap (ofNat m-ofNat a)<i64.wrap (ofNat b-ofNat m)) then bif decide (i64.wrap ((ofNat L).tdiv 8)<=i64.wrap (ofNat m-ofNat a)) then gD (qF (q2 [.own 0 0 0 n
 none,iI (.ofNat a),iI (.ofNat m),iI (.ofNat lim)] [.mk 0 1 n (fun j=>[uI (yp j)]) true false
 none] (.tup []) [.mk 0 1 n (fun j=>[uI (yg j)]) true false
 none]))<|zN [.own 0 0 0 n
 none,iI (i64.wrap (ofNat m+1)),iI (.ofNat b),iI (.ofNat lim),.bool true,.bool false] [ub (0:Nat) n yg] else
 gD (qF (q2 [.own 0 0 0 n
 none,iI (.ofNat a),iI (.ofNat m),iI (.ofNat lim)] [.mk 0 1 n (fun j=>[uI (yp j)]) true false
 none] (.tup []) [.mk 0 1 n (fun j=>[uI (yg j)]) true false
 none]))<|zN [.own 0 0 0 n
 none,iI (i64.wrap (ofNat m+1)),iI (.ofNat b),iI (.ofNat lim),.bool false,.bool false] [ub (0:Nat) n yg] else
 bif decide (i64.wrap ((ofNat L).tdiv 8)<=i64.wrap (ofNat b-ofNat m)) then gD (qF (q2 [.own 0 0 0 n
 none,iI (i64.wrap (ofNat m+1)),iI (.ofNat b),iI (.ofNat lim)] [.mk 0 1 n (fun j=>[uI (yp j)]) true false
 none] (.tup []) [.mk 0 1 n (fun j=>[uI (yg j)]) true false
 none]))<|zN (v70 n a m lim true false) [ub (0:Nat) n yg] else
 gD (qF (q2 [.own 0 0 0 n
 none,iI (i64.wrap (ofNat m+1)),iI (.ofNat b),iI (.ofNat lim)] [.mk 0 1 n (fun j=>[uI (yp j)]) true false
 none] (.tup []) [.mk 0 1 n (fun j=>[uI (yg j)]) true false
 none]))<|zN (v70 n a m lim false false) [ub (0:Nat) n yg]) from by kernel_rfl)
 simp only[e1,e2,e3] at tree;have hK:∀yg,OrcOk P18 G18 (KR2 q q2 n m d yp yg):=fun yg=>QL (QL Zi (zf hq)) (zf hq2);constructor
 ·intro hlt yg t2;have c1:decide (((m-a:Nat):Int)<((b-m:Nat):Int))=true:=dT (by omega);have tr:=tree yg;rw[c1] at tr;simp only[cond_true] at tr;cases hc:decide (i64.wrap ((ofNat L).tdiv 8)<=((m-a:Nat):Int))<;>rw[hc] at tr<;>cases d
  ·exact⟨false,false,pc8 (hK yg) (tr.trans (qm (Qe hq t) (qZ (by decide) (qZ (by decide) (qm (Qe hq2 t2) rfl)))))⟩
  ·exact⟨false,true,pc8 (hK yg) (tr.trans (qm (Qe hq t) (qm rfl (qZ (by decide) (qm (Qe hq2 t2) rfl)))))⟩
  ·exact⟨true,false,pc8 (hK yg) (tr.trans (qm (Qe hq t) (qZ (by decide) (qm rfl (qm (Qe hq2 t2) rfl)))))⟩
  ·exact⟨true,true,pc8 (hK yg) (tr.trans (qm (Qe hq t) (qm rfl (qm rfl (qm (Qe hq2 t2) rfl)))))⟩
 ·intro hlt yg t2;have c1:decide (((m-a:Nat):Int)<((b-m:Nat):Int))=false:=dF (by omega);have tr:=tree yg;rw[c1] at tr;simp only[cond_false] at tr;cases hc:decide (i64.wrap ((ofNat L).tdiv 8)<=((b-m:Nat):Int))<;>rw[hc] at tr<;>cases d
  ·exact⟨false,false,pc8 (hK yg) (tr.trans (qm (Qe hq t) (qZ (by decide) (qZ (by decide) (qm (Qe hq2 t2) rfl)))))⟩
  ·exact⟨false,true,pc8 (hK yg) (tr.trans (qm (Qe hq t) (qm rfl (qZ (by decide) (qm (Qe hq2 t2) rfl)))))⟩
  ·exact⟨true,false,pc8 (hK yg) (tr.trans (qm (Qe hq t) (qZ (by decide) (qm rfl (qm (Qe hq2 t2) rfl)))))⟩
  ·exact⟨true,true,pc8 (hK yg) (tr.trans (qm (Qe hq t) (qm rfl (qm rfl (qm (Qe hq2 t2) rfl)))))⟩
end
theorem Yd{e:Ex}{l:List Nat}{vs v1:List T}{h h1:qg}:CodeGoes P18 G18 (A18 70).prom Try.f70.ntmps (.block 1 (qcn 0 c70)) (qM lT vs h) e (qM l v1 h1)->CodeGoes P18 G18 (A18 70).prom Try.f70.ntmps (QW P18 70 2) (qM lT vs h) e (qM l v1 h1):=fun hh=>by
 have e:QW P18 70 2 = .block 1 (qcn 0 c70):=by kernel_rfl
 rw[e];exact hh
theorem r70(x:Nat->Int)(n a b lim:Nat)(bal par:Bool)(y:Nat->Int)(hn:n<=16)(hI:I70 x n a b lim y) :
 (∃a2 b2 lim2 bal2 par2 y2,b2-a2<b-a/\I70 x n a2 b2 lim2 y2/\CodeGoes P18 G18 (A18 70).prom Try.f70.ntmps (QW P18 70 2) (qM lT (v70 n a b lim bal par) [ub 0 n y]) .normal (qM lT (v70 n a2 b2 lim2 bal2 par2) [ub 0 n y2])) ∨
 ∃z,(Pr x z 0 n/\Asc z 0 n)/\CodeGoes P18 G18 (A18 70).prom Try.f70.ntmps (QW P18 70 2) (qM lT (v70 n a b lim bal par) [ub 0 n y]) .ret (qM [] [] [ub 0 n z]):=by
 have hab:=hI.ab;have hbn:=hI.bn;have hlb:=hI.limB;have hlc:=hI.limC;have s0:=q0 (n:=n) (lim:=lim) (bal:=bal) (par:=par) (y:=y) (show b<=1000 by omega) hab;rcases Nat.lt_or_ge 12 (b-a) with q|q
 ·have hlb:=hlb q;have s1:=q1n (n:=n) (a:=a) (b:=b) (lim:=lim) (bal:=bal) (par:=par) (y:=y) q;have s2:=q2 (n:=n) (a:=a) (b:=b) (bal:=bal) (par:=par) (y:=y) (L:=b-a) (show 1<=lim by omega);have st3:∃lim1 y1,lim<=lim1+1/\lim1<=10/\Pr y y1 a b/\Pc 3 lW (w70 n a b lim bal par (b-a)) [ub 0 n y] .normal lW (w70 n a b lim1 bal par (b-a)) [ub 0 n y1]:=by
   cases bal
   ·obtain⟨z,B,hz,t⟩:=qnW n a b y (by omega) hbn (by omega) (by omega);have t2:=t.trim (k:=1) (Nat.le_refl _) rfl rfl;exact⟨lim-1,z,by omega,by omega,hz,q3f (by omega) hlc t2⟩
   ·exact⟨lim,y,by omega,hlc,.refl _ _ _,q3t⟩
  obtain⟨lim1,y1,k1,k2,hp1,s3⟩:=st3;have ho1:=hI.out.move hp1 hbn;have hx1:Pr x y1 0 n:=hI.pr.trans (hp1.wider (Nat.zero_le _) hbn);obtain⟨p,hint,B,⟨hpa,hpb⟩,t4⟩:=qnT n a b y1 (by omega) hbn (by omega) (by omega);have t4:=t4.trim (k:=1) (Nat.le_refl _) rfl rfl;have s4:=q4 (lim:=lim1) (bal:=bal) (par:=par) (L:=b-a) t4;have st5:∃p2 hint2 y2,a<=p2/\p2<b/\Pr y1 y2 a b/\Pc 5 lX (x70 n a b lim1 bal par (b-a) p hint) [ub 0 n y1] .normal lX (x70 n a b lim1 bal par (b-a) p2 hint2) [ub 0 n y2]:=by
   by_cases hh:hint=2
   ·subst hh;obtain⟨z,hz,t⟩:=qnR n a b y1 (by omega) hbn (by omega);exact⟨b-1-(p-a),1,z,by omega,by omega,hz,q5t (by omega) hpa hpb t⟩
   ·exact⟨p,hint,y1,hpa,hpb,.refl _ _ _,q5f hh⟩
  obtain⟨p2,hint2,y2,hp2a,hp2b,hp2,s5⟩:=st5;have ho2:=ho1.move hp2 hbn;have hx2:Pr x y2 0 n:=hx1.trans (hp2.wider (Nat.zero_le _) hbn);have pre:∀{e:Ex} {l:List Nat} {vs:List T} {h:qg},Ch 6 lX (x70 n a b lim1 bal par (b-a) p2 hint2) [ub 0 n y2] e l vs h->Ch 0 lT (v70 n a b lim bal par) [ub 0 n y] e l vs h:=fun hc =>
   Zr (by omega) s0 (Zr (by omega) s1 (Zr (by omega) s2 (Zr (by omega) s3 (Zr (by omega) s4 (Zr (by omega) s5 hc)))))
  have st6:(∃_:Asc y2 a b,Pc 6 lX (x70 n a b lim1 bal par (b-a) p2 hint2) [ub 0 n y2] .ret [] [] [ub 0 n y2])∨Pc 6 lX (x70 n a b lim1 bal par (b-a) p2 hint2) [ub 0 n y2] .normal lX (x70 n a b lim1 bal par (b-a) p2 hint2) [ub 0 n y2]:=by
   cases hf:(bal&&(par&&decide (hint2=1)))
   ·exact .inr (q6n hf)
   ·simp only[Bool.and_eq_true,decide_eq_true_eq] at hf;obtain⟨rfl,rfl,rfl⟩:=hf;obtain⟨ins,h1,t⟩:=qmd n a b y2 (by omega) hbn (by omega) (by omega);cases ins
    ·exact .inr ((q6c t).2 rfl)
    ·exact .inl ⟨h1 rfl,(q6c t).1 rfl⟩
  rcases st6 with⟨hs,s6⟩|s6
  ·refine .inr ⟨y2,⟨hx2,ho2.asc hs⟩,Yd (KI (pre (qjk (by omega) s6)))⟩
  ·left;by_cases he:0<a/\¬y2 (a-1)<y2 p2
   ·
    have hmin:∀e,a<=e->e<b->y2 p2<=y2 e:=fun e g1 g2=>Int.le_trans (Int.not_lt.1 he.2) (ho2 (a-1) e (by omega) (by omega) (.inl (by omega)));obtain⟨z,m,z1,z2,z3,z4,t⟩:=qnU n a b p2 y2 (by omega) hbn hp2a hp2b (by omega) hmin;have s7:=q7e (lim:=lim1) (bal:=bal) (par:=par) (L:=b-a) (hint:=hint2) (by omega) (by omega) (by omega) he.1 he.2 t;refine⟨m,b,lim1,bal,par,z,by omega,⟨hx2.trans (z1.wider (Nat.zero_le _) hbn),(ho2.move z1 hbn).equal (by omega) z3 z4,z3,hbn,fun _=>by omega,k2⟩,?_⟩;exact Yd (qa7 (pre (Zr (by omega) s6 (qkl (by omega) s7))))
   ·have hc:a=0∨y2 (a-1)<y2 p2:=by
     rcases Nat.eq_zero_or_pos a with g|g
     ·exact .inl g
     ·right;by_cases g2:y2 (a-1)<y2 p2
      ·exact g2
      ·exact absurd ⟨g,g2⟩ he
    have s7:=q7n (a:=a) (b:=b) (lim:=lim1) (bal:=bal) (par:=par) (L:=b-a) (hint:=hint2) (y:=y2) (p:=p2) (show n<=1000 by omega) (by omega) (by omega) hc;obtain⟨yp,m,d,z1,z2,t⟩:=qmi n a b p2 y2 (by omega) hbn hp2a hp2b (by omega);have hlo:=z2.lo;have hhi:=z2.hi;have ho3:=ho2.move z1 hbn;have hx3:Pr x yp 0 n:=hx2.trans (z1.wider (Nat.zero_le _) hbn);obtain⟨w1,w2⟩:=q8 (lim:=lim1) (bal:=bal) (par:=par) (L:=b-a) (hint:=hint2) (by omega) hbn hlo hhi t;by_cases hlt:m-a<b-m
    ·obtain⟨yg,⟨g1,g2⟩,tg⟩:=qkS n a m yp lim1 (by omega) (by omega) hlo (by omega);obtain⟨bal2,par2,s8⟩:=w1 hlt yg tg;refine⟨m+1,b,lim1,bal2,par2,yg,by omega,⟨hx3.trans (g1.wider (Nat.zero_le _) (by omega)),z2.goRight ho3 g1 g2 hbn,by omega,hbn,fun _=>by omega,k2⟩,?_⟩;exact Yd (qcm (pre (Zr (by omega) s6 (Zr (by omega) s7 s8))))
    ·obtain⟨yg,⟨g1,g2⟩,tg⟩:=qkS n (m+1) b yp lim1 (by omega) hbn (by omega) (by omega);obtain⟨bal2,par2,s8⟩:=w2 hlt yg tg;refine⟨a,m,lim1,bal2,par2,yg,by omega,⟨hx3.trans (g1.wider (Nat.zero_le _) hbn),z2.goLeft ho3 g1 g2 hbn,hlo,by omega,fun _=>by omega,k2⟩,?_⟩;exact Yd (qcm (pre (Zr (by omega) s6 (Zr (by omega) s7 s8))))
 ·obtain⟨z,⟨h1,h2⟩,t⟩:=qmb n a b y (by omega) hbn hab;refine .inr ⟨z,⟨hI.pr.trans (h1.wider (Nat.zero_le _) hbn),(hI.out.move h1 hbn).asc h2⟩,?_⟩;exact Yd (KI (Zr (by omega) s0 (qjk (by omega) (q1r q t))))
theorem l70(x:Nat->Int)(n lim:Nat)(hn:n<=16)(hl:12<n->n<=lim+12)(hl2:lim<=10) :
 ∃z,(Pr x z 0 n/\Asc z 0 n)/\LoopOk P18 G18 (A18 70) 70 2 (qE (v70 n 0 n lim true true) [ub 0 n x] .ret [] [ub 0 n z]):=by
 refine Exists.elim (qif (P:=P18) (Gl:=G18) (prom:=(A18 70).prom) (nt:=Try.f70.ntmps) (b:=QW P18 70 2) (lin:=lT) (lout:=[])
  (fun m vs h=>∃a b lim bal par y,m=b-a/\vs=v70 n a b lim bal par/\h=[ub 0 n y]/\I70 x n a b lim y)
  (fun e vs h=>∃z,e = .ret/\vs=[]/\h=[ub 0 n z]/\(Pr x z 0 n/\Asc z 0 n))
  (fun m vs h ⟨a,b,lim,bal,par,y,hm,hv,hh,hI⟩=>?_) (n:=n-0) (vs:=v70 n 0 n lim true true) (h:=[ub 0 n x]) ⟨0,n,lim,true,true,x,rfl,rfl,rfl,⟨.refl _ _ _,.start _ _,Nat.zero_le _,Nat.le_refl _,fun h=>hl (by omega),hl2⟩⟩) ?_
 ·subst hm hv hh;rcases r70 x n a b lim bal par y hn hI with⟨a2,b2,lim2,bal2,par2,y2,g1,g2,g3⟩|⟨z,hz,g3⟩
  ·exact .inl ⟨b2-a2,_,_,g1,g3,a2,b2,lim2,bal2,par2,y2,rfl,rfl,rfl,g2⟩
  ·exact .inr ⟨.ret,_,_,by simp,g3,z,rfl,rfl,rfl,hz⟩
 ·rintro e ⟨vs1,h1,⟨z,rfl,rfl,rfl,hz⟩,hg⟩;refine⟨z,hz,.lit fun fn hf hnt=>?_⟩;rw[Try.func70] at hf;obtain rfl:=Option.some.inj hf;have e:Zv (QW P18 70 2) = .loop (QW P18 70 2):=by kernel_rfl
  rw[e];exact hg
theorem qll(n lim:Nat)(x:Nat->Int)(hn:n<=16)(hl:12<n->n<=lim+12)(hl2:lim<=10) :
 ∃z,(Pr x z 0 n/\Asc z 0 n)/\ToldRef P18 G18 70 [.own 0 0 0 n none,iI 0,iI n,iI lim] [ub 0 n x] (.tup []) [ub 0 n z]:=by
 obtain⟨z,hz,hl⟩:=l70 x n lim hn hl hl2;refine⟨z,hz,?_⟩;refine Qu qv q9 qf (A:=A18) (m:=0) (by kernel_rfl) (qK hl) ?_;rw[(show ZN P18 G18 A18 qk 0 70 [(2,qE (v70 n 0 n lim true true) [ub 0 n x] .ret [] [ub 0 n z])] [.own 0 0 0 n none,iI 0,iI n,iI lim] [ub 0 n x] =
( gD (qS (v70 n (nat_lit 0) n lim true true) [ub (0:Nat) n x] (v70 n (nat_lit 0) n lim true true) [ub (0:Nat) n x])<|some ((.tup [],[ub (0:Nat) n z]))) from by kernel_rfl)]
 exact qm (qw ⟨rfl,.refl _⟩) rfl
def ZS:Nat:=16
theorem qmo(n:Nat)(x:Nat->Int)(hn:n<=ZS) :
 ∃z,(Pr x z 0 n/\Asc z 0 n)/\ToldRef P18 G18 61 [.own 0 0 0 n none] [ub 0 n x] (.tup []) [ub 0 n z]:=by
 have hn2:=hn;unfold ZS at hn2;obtain⟨lim0,c1,c2,h71⟩:=qnP n (by omega);obtain⟨z,hz,ht⟩:=qll n lim0 x (by omega) c2 c1;generalize ((lim0:Nat):Int)=lim at *
 obtain⟨p,hp⟩:=ZO P18 G18 70;obtain⟨p71,hp71⟩:=qD P18 G18 71;refine⟨z,hz,?_⟩;refine Qu qv q9 (K:=K61 p71 lim p n z) (QL (qq qf (qj hp71)) (zf hp)) (A:=A18) (m:=0) (by kernel_rfl) (l:=[]) qh ?_;refine Eq.trans (show ZN P18 G18 A18 (K61 p71 lim p n z) 0 61 [] [.own 0 0 0 n none] [ub 0 n x] =
( gD (qF (p71 [.int .u64 (IntKind.u64.wrap (ofNat n))] (iI lim)))<|gD (qF (p [.own 0 0 0 n
 none,iI 0,iI (.ofNat n),iI lim] [.mk 0 1 n (fun j=>[uI (x j)]) true false
 none] (.tup []) [.mk 0 1 n (fun j=>[uI (z j)]) true false
 none]))<|some ((.tup [],[.mk 0 1 n (fun j=>[uI (z j)]) true false
 none]))) from by kernel_rfl) ?_
 have e:IntKind.u64.wrap (ofNat n)=(n:Int):=by
  show IntKind.u64.wrap (n:Int)=n;exact qdK (by omega) (by omega)
 rw[e];refine qm (qp hp71 h71) ?_;exact qm (Qe hp ht) rfl
noncomputable def K47(p60:List T->T->Prop)(p61 p62:List T->qg->T->qg->Prop)(n:Nat)(x y z:Nat->Int)(k:Nat):Orc :=
 ((qk.add 60 (qL p60 fun _=>some (.fresh true 1 n (fun j=>[uI (x j)]) n none))).addRef 61 (qa4 p61 fun _ _=>some (.tup [],[ub 0 n y]))).addRef 62 (qa4 p62 fun _ _=>some (.own 0 0 0 k none,[ub 0 n z]))
def jz(x:Nat->Int)(n:Nat):List Int:=((List.range 256).map ofNat).filter fun v=>(List.range n).any fun j=>decide (x j=v)
def csK(x:Nat->Int)(n j:Nat):Int:=(jz x n).getD j 0
def kK(x:Nat->Int)(n:Nat):Nat:=(jz x n).length
theorem qig{x:Nat->Int}{n:Nat}(hx:∀j,j<n->0<=x j/\x j<256)(v:Int):v∈jz x n↔Mem x 0 n v:=by
 unfold jz Mem;simp only[List.mem_filter,List.mem_map,List.mem_range,List.any_eq_true,decide_eq_true_eq];constructor
 ·rintro⟨_,j,h1,h2⟩;exact⟨j,Nat.zero_le _,h1,h2⟩
 ·rintro⟨j,_,h1,h2⟩;have:=hx j h1;exact⟨⟨v.toNat,by omega,by show((v.toNat:Nat):Int)=v;omega⟩,j,h1,h2⟩
theorem qih(x:Nat->Int)(n:Nat):(jz x n).Pairwise (·<·):=by
 unfold jz;refine List.Pairwise.filter _ ?_;rw[List.pairwise_map];exact List.pairwise_lt_range.imp (fun {a b} h=>by show(a:Int)<(b:Int);omega)
theorem KY{x:Nat->Int}{n:Nat}(hx:∀j,j<n->0<=x j/\x j<256)(v:Int):Mem (csK x n) 0 (kK x n) v↔Mem x 0 n v:=by
 rw[←qig hx,List.mem_iff_getElem];unfold Mem csK kK;constructor
 ·rintro⟨j,_,h1,h2⟩;refine⟨j,h1,?_⟩;rw[List.getD_eq_getElem?_getD,List.getElem?_eq_getElem h1] at h2;exact h2
 ·rintro⟨j,h1,h2⟩;exact⟨j,Nat.zero_le _,h1,by rw[List.getD_eq_getElem?_getD,List.getElem?_eq_getElem h1];exact h2⟩
theorem qeR(x:Nat->Int)(n:Nat):SAsc (csK x n) (kK x n):=by
 intro p q h1 h2;unfold kK at h2;have:=List.pairwise_iff_getElem.1 (qih x n) p q (by omega) h2 h1;unfold csK;rw[List.getD_eq_getElem?_getD,List.getElem?_eq_getElem (by omega),List.getD_eq_getElem?_getD,List.getElem?_eq_getElem h2];exact this
theorem qlm(x:Nat->Int)(n:Nat)(c:Option Nat)(h1:1<=n)(hn:n<=1000):ToldOk P18 G18 60 [qB x n c] (.fresh true 1 n (fun j=>[uI (x j)]) n none):=by
 refine qP qv q9 qf (K:=qk) (A:=A18) (m:=0) ?_;refine Eq.trans (show QU P18 G18 A18 qk 0 60 [qB x n c] =
( gD (Nat.blt 0 (match c with|some x=>x|none=>(0:Nat)) || Nat.blt 0 n)<|bif n==(0:Nat) then some (.fresh true (1:Nat) (0:Nat) (fun j=>[]) (0:Nat) (some 0)) else
 gD ((((0:Nat)+n)*(2:Nat)).ble 70368744177664)<|bif ((0:Nat)+n).ble 0 then gD (((0:Nat)+n).ble 0)<|some (bif ((0:Nat)+((0:Nat)+n)).ble 0 then .fresh true (1:Nat) (0:Nat) (fun j =>
 bif Nat.ble 0 (0+j)&&((0:Nat)+j).blt (0+n) then [uI (x (0+j-0))]
 else []) (0+n) (some 0)
 else .undef) else
 some (bif ((0:Nat)+((0:Nat)+n)).ble (0+n) then .fresh true (1:Nat) (0+n-0) (fun j=>[uI (x (0+j-0))]) (0+n) none else .undef)) from by kernel_rfl) ?_
 refine qm (by rw[Bool.or_eq_true];exact .inr (Qy (by omega))) ?_;simp only[Nat.zero_add,Nat.sub_zero];refine qZ (by simp;omega) ?_;refine qm (QZ (by omega)) ?_;rw[qa2 (show 0<n by omega),cond_false,QZ (Nat.le_refl _),cond_true]
theorem qeS(x:Nat->Int)(n:Nat)(c:Option Nat)(h1:1<=n)(hn:n<=ZS)(hx:∀j,j<n->0<=x j/\x j<256):ToldOk P18 G18 47 [qB x n c] (.new (qB (csK x n) (kK x n) none)):=by
 have hn2:=hn;unfold ZS at hn2;have h60:=qlm x n c h1 (by omega);obtain⟨y,⟨hy1,hy2⟩,h61⟩:=qmo n x hn;obtain⟨z,k,hz,h62⟩:=qmc n y (by omega) h1 hy2;obtain⟨p60,hp60⟩:=qD P18 G18 60;obtain⟨p61,hp61⟩:=ZO P18 G18 61;obtain⟨p62,hp62⟩:=ZO P18 G18 62;have hu:=SAsc.unique hz.asc (qeR x n) fun v=>(hz.mem v).trans ((hy1.mem v).trans (KY hx v).symm);refine ToldOk.resTo (r:=.new (.view 1 k (fun j=>[uI (z j)]) none)) ?_ (.new (by
  rw[←hu.1];refine .view (.inl rfl) fun j hj=>?_;show Sims [uI (z j)] [uI (csK x n j)];rw[hu.2 j hj];exact Sims.refl _))
 refine ToldOk.frz (r:=.fresh true 1 n (fun j=>[uI (z j)]) k none) ?_;refine qP qv q9 (K:=K47 p60 p61 p62 n x y z k) (QL (QL (qq qf (qj hp60)) (zf hp61)) (zf hp62)) (A:=A18) (m:=0) ?_;have hk:=hz.kn;refine Eq.trans (show QU P18 G18 A18 (K47 p60 p61 p62 n x y z k) 0 47 [qB x n c] =
( gD (qF (p60 [qB x n c] (.fresh true (1:Nat) n (fun j=>[uI (x j)]) n
 none)))<|gD (qF (p61 [.own 0 0 0 n
 none] [.mk 0 1 n (fun j=>[uI (x j)]) true false
 none] (.tup []) [.mk 0 1 n (fun j=>[uI (y j)]) true false
 none]))<|gD (qF (p62 [.own 0 0 0 n
 none] [.mk 0 1 n (fun j=>[uI (y j)]) true false
 none] (.own 0 0 0 k
 none) [.mk 0 1 n (fun j=>[uI (z j)]) true false
 none]))<|some (bif ((0:Nat)+k).ble n then .fresh true (1:Nat) (n-0) (fun j=>[uI (z (0+j))]) k none else .undef)) from by kernel_rfl) ?_
 refine qm (qp hp60 h60) ?_;refine qm (Qe hp61 h61) ?_;refine qm (Qe hp62 h62) ?_;simp only[Nat.zero_add,Nat.sub_zero];rw[QZ hk,cond_true]
def mnF(r:Nat->Int):Nat->Int
 |0=>r 0
 |i+1=>bif decide (r (i+1)<mnF r i) then r (i+1) else mnF r i
def mxF(r:Nat->Int):Nat->Int
 |0=>r 0
 |i+1=>bif decide (mxF r i<r (i+1)) then r (i+1) else mxF r i
def v45(r:Nat->Int)(n:Nat)(c:Option Nat)(a:Int)(i:Int):List T:=[qB r n c,uI a,iI i]
def qR(R:Nat->Nat->Int)(n h:Nat)(rc c:Option Nat):T:=.view 1 h (fun i=>[qB (R i) n rc]) c
def v29(R:Nat->Nat->Int)(n h:Nat)(rc c:Option Nat)(i:Int):List T:=[qR R n h rc c,qR R n h rc c,iI h,iI i]
def qeT(R:Nat->Nat->Int)(n h:Nat)(rc c:Option Nat)(i:Int):List T:=[qR R n h rc c,iI h,iI i]
structure PicOk(R:Nat->Nat->Int)(n h:Nat):Prop where
 n1:1<=n
 nm:n<=ZS
 h1:h<=31
 odd:h%2=1
 col:∀i,i<h->∀j,j<n->1<=R i j/\R i j<=6
 two:∀i,i<h->kK (R i) n<=2
noncomputable def K29(p q:List T->T->Prop)(a b:Int):Orc:=(qk.add 45 (qL p fun _=>some (uI a))).add 46 (qL q fun _=>some (uI b))
noncomputable def qgW(p:List T->T->Prop)(r:T):Orc:=qk.add 47 (qL p fun _=>some r)
theorem qcp(r:Nat->Int)(lo:Int):∀i,(∀j,j<=i->lo<=r j)->lo<=mnF r i
 |0,h=>h 0 (Nat.le_refl _)
 |i+1,h=>by
  have h1:=qcp r lo i (fun j hj=>h j (by omega));have h2:=h (i+1) (Nat.le_refl _);unfold mnF;cases decide (r (i+1)<mnF r i)
  ·exact h1
  ·exact h2
theorem qcq(r:Nat->Int)(hi:Int):∀i,(∀j,j<=i->r j<=hi)->mxF r i<=hi
 |0,h=>h 0 (Nat.le_refl _)
 |i+1,h=>by
  have h1:=qcq r hi i (fun j hj=>h j (by omega));have h2:=h (i+1) (Nat.le_refl _);unfold mxF;cases decide (mxF r i<r (i+1))
  ·exact h1
  ·exact h2
theorem qln(r:Nat->Int)(n:Nat)(c:Option Nat)(h1:1<=n)(hn:n<=1000):ToldOk P18 G18 45 [qB r n c] (uI (mnF r (n-1))):=by
 have hl:LoopOk P18 G18 (A18 45) 45 5 (qE (v45 r n c (r 0) 1) [] (.exit 0) [uI (mnF r (n-1))] []):=by
  refine qz qv (by kernel_rfl) (fun i=>v45 r n c (mnF r i) (i+1:Nat)) (fun _=>[]) (n:=n-1) (fun i hi=>?_) ?_
  ·refine Step.mk0 (A:=A18) (m:=0) qf rfl rfl qh (h1:=[]) ?_ .nil;have e:mnF r (i+1)=bif decide (r (i+1)<mnF r i) then r (i+1) else mnF r i:=rfl;rw[e];generalize mnF r i=a;refine Eq.trans (show qA P18 G18 A18 qk 0 45 [] 5 (v45 r n c a (i+1:Nat)) [] =
( bif decide (ofNat (i+1)<ofNat n) then gD (decide (0<=ofNat (i+1))&&decide (ofNat (i+1)<ofNat n))<|zN (v45 r n c (bif decide (r (i+1)<a) then r (i+1)
 else a) (i64.wrap (ofNat (i+1)+(1:Int)))) [] else
 zX 0 [uI a] []) from by kernel_rfl) ?_
   (repeat (first|refine BT ?_|refine BG ?_))
   rw[qn (i+1),qI (x:=((i+1:Nat):Int)+1) (by omega) (by omega)];rfl
  ·generalize mnF r (n-1)=a;rw[show n-1+1=n by omega];refine Last.mk0 (A:=A18) (m:=0) qf rfl rfl qh (h1:=[]) (by simp) ?_ .nil;refine Eq.trans (show qA P18 G18 A18 qk 0 45 [] 5 (v45 r n c a (n:Nat)) [] =
( bif decide (ofNat n<ofNat n) then gD (decide (0<=ofNat n)&&decide (ofNat n<ofNat n))<|zN (v45 r n c (bif decide (r n<a) then r n
 else a) (i64.wrap (ofNat n+1))) [] else
 zX 0 [uI a] []) from by kernel_rfl) ?_
   (repeat (first|refine BT ?_|refine BG ?_))
   rfl
 generalize mnF r (n-1)=a at *
 refine qJ qv q9 qf (A:=A18) (m:=0) (by kernel_rfl) (qK hl) ?_;refine Eq.trans (show QB P18 G18 A18 qk 0 45 [(5,qE (v45 r n c (r 0) 1) [] (.exit 0) [uI a] [])] [qB r n c] =
( bif decide (ofNat n<1) then none else
 gD (decide (0<ofNat n))<|gD (qS (v45 r n c (r (0:Nat)) (1:Int)) [] (v45 r n c (r (0:Nat)) (1:Int)) [])<|some (uI a)) from by kernel_rfl) ?_
 (repeat (first|refine BT ?_|refine BG ?_))
 exact qm (qw ⟨rfl,.refl _⟩) rfl
theorem qlo(r:Nat->Int)(n:Nat)(c:Option Nat)(h1:1<=n)(hn:n<=1000):ToldOk P18 G18 46 [qB r n c] (uI (mxF r (n-1))):=by
 have hl:LoopOk P18 G18 (A18 46) 46 5 (qE (v45 r n c (r 0) 1) [] (.exit 0) [uI (mxF r (n-1))] []):=by
  refine qz qv (by kernel_rfl) (fun i=>v45 r n c (mxF r i) (i+1:Nat)) (fun _=>[]) (n:=n-1) (fun i hi=>?_) ?_
  ·refine Step.mk0 (A:=A18) (m:=0) qf rfl rfl qh (h1:=[]) ?_ .nil;have e:mxF r (i+1)=bif decide (mxF r i<r (i+1)) then r (i+1) else mxF r i:=rfl;rw[e];generalize mxF r i=a;refine Eq.trans (show qA P18 G18 A18 qk 0 46 [] 5 (v45 r n c a (i+1:Nat)) [] =
( bif decide (ofNat (i+1)<ofNat n) then gD (decide (0<=ofNat (i+1))&&decide (ofNat (i+1)<ofNat n))<|zN (v45 r n c (bif decide (a<r (i+1)) then r (i+1)
 else a) (i64.wrap (ofNat (i+1)+(1:Int)))) [] else
 zX 0 [uI a] []) from by kernel_rfl) ?_
   (repeat (first|refine BT ?_|refine BG ?_))
   rw[qn (i+1),qI (x:=((i+1:Nat):Int)+1) (by omega) (by omega)];rfl
  ·generalize mxF r (n-1)=a;rw[show n-1+1=n by omega];refine Last.mk0 (A:=A18) (m:=0) qf rfl rfl qh (h1:=[]) (by simp) ?_ .nil;refine Eq.trans (show qA P18 G18 A18 qk 0 46 [] 5 (v45 r n c a (n:Nat)) [] =
( bif decide (ofNat n<ofNat n) then gD (decide (0<=ofNat n)&&decide (ofNat n<ofNat n))<|zN (v45 r n c (bif decide (a<r n) then r n
 else a) (i64.wrap (ofNat n+1))) [] else
 zX 0 [uI a] []) from by kernel_rfl) ?_
   (repeat (first|refine BT ?_|refine BG ?_))
   rfl
 generalize mxF r (n-1)=a at *
 refine qJ qv q9 qf (A:=A18) (m:=0) (by kernel_rfl) (qK hl) ?_;refine Eq.trans (show QB P18 G18 A18 qk 0 46 [(5,qE (v45 r n c (r 0) 1) [] (.exit 0) [uI a] [])] [qB r n c] =
( bif decide (ofNat n<1) then none else
 gD (decide (0<ofNat n))<|gD (qS (v45 r n c (r (0:Nat)) (1:Int)) [] (v45 r n c (r (0:Nat)) (1:Int)) [])<|some (uI a)) from by kernel_rfl) ?_
 (repeat (first|refine BT ?_|refine BG ?_))
 exact qm (qw ⟨rfl,.refl _⟩) rfl
section
variable (R:Nat->Nat->Int) (n h:Nat) (rc c:Option Nat)
theorem qnX(hn:n<=16)(hh:h<=31):LoopOk P18 G18 (A18 29) 29 4 (qE (v29 R n h rc c 0) [] (.exit 0) [qR R n h rc c,.undef] []):=by
 refine qz qv (by kernel_rfl) (fun i=>v29 R n h rc c (i:Nat)) (fun _=>[]) (n:=h) (fun i hi=>?_) ?_
 ·refine Step.mk0 (A:=A18) (m:=0) qf rfl rfl qh (h1:=[]) ?_ .nil;refine Eq.trans (show qA P18 G18 A18 qk 0 29 [] 4 (v29 R n h rc c i) [] =
( bif decide (ofNat i<ofNat h) then gD (decide (0<=ofNat i)&&decide (ofNat i<ofNat h))<|bif decide (16<ofNat n) then zR [qR R n h rc c,iI 3] [] else
 zN (v29 R n h rc c (i64.wrap (ofNat i+1))) [] else
 zX 0 [qR R n h rc c,.undef] []) from by kernel_rfl) ?_
  (repeat (first|refine BT ?_|refine BG ?_))
  rw[qn i,qI (x:=(i:Int)+1) (by omega) (by omega)];rfl
 ·refine Last.mk0 (A:=A18) (m:=0) qf rfl rfl qh (h1:=[]) (by simp) ?_ .nil;refine Eq.trans (show qA P18 G18 A18 qk 0 29 [] 4 (v29 R n h rc c h) [] =
( bif decide (ofNat h<ofNat h) then gD (decide (0<=ofNat h)&&decide (ofNat h<ofNat h))<|bif decide (16<ofNat n) then zR [qR R n h rc c,iI 3] [] else
 zN (v29 R n h rc c (i64.wrap (ofNat h+1))) [] else
 zX 0 [qR R n h rc c,.undef] []) from by kernel_rfl) ?_
  (repeat (first|refine BT ?_|refine BG ?_))
  rfl
theorem qnY(hn1:1<=n)(hn:n<=16)(hh:h<=31)(hc:∀i,i<h->∀j,j<n->1<=R i j/\R i j<=6):LoopOk P18 G18 (A18 29) 29 12 (qE (v29 R n h rc c 0) [] (.exit 2) [qR R n h rc c,.undef] []):=by
 obtain⟨p,hp⟩:=qD P18 G18 45;obtain⟨q,hq⟩:=qD P18 G18 46;refine qz qv (by kernel_rfl) (fun i=>v29 R n h rc c (i:Nat)) (fun _=>[]) (n:=h) (fun i hi=>?_) ?_
 ·have t1:=qln (R i) n rc hn1 (by omega);have t2:=qlo (R i) n rc hn1 (by omega);have g1:=qcp (R i) 1 (n-1) fun j hj=>(hc i hi j (by omega)).1;have g2:=qcq (R i) 6 (n-1) fun j hj=>(hc i hi j (by omega)).2;clear hc;generalize mnF (R i) (n-1)=a at *
  generalize mxF (R i) (n-1)=b at *
  refine Step.mk0 (A:=A18) (K:=K29 p q a b) (m:=0) (qq (qq qf (qj hp)) (qj hq)) rfl rfl qh (h1:=[]) ?_ .nil;refine Eq.trans (show qA P18 G18 A18 (K29 p q a b) 0 29 [] 12 (v29 R n h rc c i) [] =
( bif decide (ofNat i<ofNat h) then gD (decide (0<=ofNat i)&&decide (ofNat i<ofNat h))<|bif decide (ofNat n=0) then zR [qR R n h rc c,iI 1] [] else
 gD (qF (p [.view 1 n (fun j=>[uI (R i j)]) rc] (uI a)))<|bif decide (a<1) then zR [qR R n h rc c,iI 1] [] else
 gD (qF (q [.view 1 n (fun j=>[uI (R i j)]) rc] (uI b)))<|bif decide (6<b) then zR [qR R n h rc c,iI 1] [] else
 zN (v29 R n h rc c (i64.wrap (ofNat i+1))) [] else
 zX 2 [qR R n h rc c,.undef] []) from by kernel_rfl) ?_
  refine BT ?_;refine BT ?_;refine BF ?_;refine qm (qp hp t1) ?_;refine BF ?_;refine qm (qp hq t2) ?_;refine BF ?_;rw[qn i,qI (x:=(i:Int)+1) (by omega) (by omega)];rfl
 ·clear hc;refine Last.mk0 (A:=A18) (m:=0) qf rfl rfl qh (h1:=[]) (by simp) ?_ .nil;refine Eq.trans (show qA P18 G18 A18 qk 0 29 [] 12 (v29 R n h rc c h) [] =
( bif decide (ofNat h<ofNat h) then gD (decide (0<=ofNat h)&&decide (ofNat h<ofNat h))<|gD (decide (ofNat n=0))<|zR [qR R n h rc c,iI 1] [] else
 zX 2 [qR R n h rc c,.undef] []) from by kernel_rfl) ?_
  (repeat (first|refine BT ?_|refine BG ?_))
  rfl
theorem qnZ(hh:h<=31):LoopOk P18 G18 (A18 29) 29 18 (qE (v29 R n h rc c 0) [] (.exit 4) [qR R n h rc c,.undef] []):=by
 refine qz qv (by kernel_rfl) (fun i=>v29 R n h rc c (i:Nat)) (fun _=>[]) (n:=h) (fun i hi=>?_) ?_
 ·refine Step.mk0 (A:=A18) (m:=0) qf rfl rfl qh (h1:=[]) ?_ .nil;refine Eq.trans (show qA P18 G18 A18 qk 0 29 [] 18 (v29 R n h rc c i) [] =
( bif decide (ofNat i<ofNat h) then gD (decide (0<=ofNat i)&&decide (ofNat i<ofNat h))<|gD (decide (0<ofNat h))<|bif !decide (ofNat n=ofNat n) then zR [qR R n h rc c,iI 5] [] else
 zN (v29 R n h rc c (i64.wrap (ofNat i+1))) [] else
 zX 4 [qR R n h rc c,.undef] []) from by kernel_rfl) ?_
  (repeat (first|refine BT ?_|refine BG ?_))
  refine qZ (by simp) ?_;rw[qn i,qI (x:=(i:Int)+1) (by omega) (by omega)];rfl
 ·refine Last.mk0 (A:=A18) (m:=0) qf rfl rfl qh (h1:=[]) (by simp) ?_ .nil;refine Eq.trans (show qA P18 G18 A18 qk 0 29 [] 18 (v29 R n h rc c h) [] =
( bif decide (ofNat h<ofNat h) then gD (decide (0<=ofNat h)&&decide (ofNat h<ofNat h))<|gD (decide (0<ofNat h))<|bif !decide (ofNat n=ofNat n) then zR [qR R n h rc c,iI 5] [] else
 zN (v29 R n h rc c (i64.wrap (ofNat h+1))) [] else
 zX 4 [qR R n h rc c,.undef] []) from by kernel_rfl) ?_
  (repeat (first|refine BT ?_|refine BG ?_))
  rfl
theorem qn0(hn1:1<=n)(hn:n<=ZS)(hh:h<=31)(hc:∀i,i<h->∀j,j<n->1<=R i j/\R i j<=6)(h2:∀i,i<h->kK (R i) n<=2):LoopOk P18 G18 (A18 29) 29 24 (qE (qeT R n h rc c 0) [] (.exit 6) [.undef] []):=by
 obtain⟨p,hp⟩:=qD P18 G18 47;refine qz qv (by kernel_rfl) (fun i=>qeT R n h rc c (i:Nat)) (fun _=>[]) (n:=h) (fun i hi=>?_) ?_
 ·have t1:=qeS (R i) n rc hn1 hn fun j hj=>by have:=hc i hi j hj;omega
  have g1:=h2 i hi;clear hc h2;generalize kK (R i) n=k at *
  generalize csK (R i) n=cs at *
  refine Step.mk0 (A:=A18) (K:=qgW p (.new (qB cs k none))) (m:=0) (qq qf (qj hp)) rfl rfl qh (h1:=[]) ?_ .nil;refine Eq.trans (show qA P18 G18 A18 (qgW p (.new (qB cs k none))) 0 29 [] 24 (qeT R n h rc c i) [] =
( bif decide (ofNat i<ofNat h) then gD (decide (0<=ofNat i)&&decide (ofNat i<ofNat h))<|gD (qF (p [.view 1 n (fun j=>[uI (R i j)]) rc] (qB cs k
 none).new))<|bif decide (2<ofNat k) then zR [iI 14] [] else
 zN (qeT R n h rc c (i64.wrap (ofNat i+1))) [] else
 zX 6 [.undef] []) from by kernel_rfl) ?_
  refine BT ?_;refine BT ?_;refine qm (qp hp t1) ?_;refine BF ?_;rw[qn i,qI (x:=(i:Int)+1) (by omega) (by omega)];rfl
 ·clear hc h2;refine Last.mk0 (A:=A18) (m:=0) qf rfl rfl qh (h1:=[]) (by simp) ?_ .nil;refine Eq.trans (show qA P18 G18 A18 qk 0 29 [] 24 (qeT R n h rc c h) [] =
( bif decide (ofNat h<ofNat h) then gD (decide (0<=ofNat h)&&decide (ofNat h<ofNat h)) none else
 zX 6 [.undef] []) from by kernel_rfl) ?_
  (repeat (first|refine BT ?_|refine BG ?_))
  rfl
theorem qcr(ok:PicOk R n h):ToldOk P18 G18 29 [qR R n h rc c] (iI 0):=by
 have hn2:=ok.nm;unfold ZS at hn2;have h1:=ok.h1;have h2:=ok.odd;refine qJ qv q9 qf (A:=A18) (m:=0) (by kernel_rfl) (zq (qnX R n h rc c (by omega) h1) (zq (qnY R n h rc c ok.n1 (by omega) h1 ok.col) (zq (qnZ R n h rc c h1) (qK (qn0 R n h rc c ok.n1 ok.nm h1 ok.col ok.two))))) ?_;refine Eq.trans (show QB P18 G18 A18 qk 0 29 [(4,qE (v29 R n h rc c 0) [] (.exit 0) [qR R n h rc c,.undef] []),(12,qE (v29 R n h rc c 0) [] (.exit 2) [qR R n h rc c,.undef] []),(18,qE (v29 R n h rc c 0) [] (.exit 4) [qR R n h rc c,.undef] []),(24,qE (qeT R n h rc c 0) [] (.exit 6) [.undef] [])] [qR R n h rc c] =
( bif decide (31<ofNat h) then some (iI 3) else
 gD (qS (v29 R n h rc c (0:Int)) [] (v29 R n h rc c (0:Int)) [])<|bif decide ((ofNat h).tmod 2=0) then some (iI 1) else
 gD (qS (v29 R n h rc c (0:Int)) [] (v29 R n h rc c (0:Int)) [])<|gD (qS (v29 R n h rc c (0:Int)) [] (v29 R n h rc c (0:Int)) [])<|gD (qS (qeT R n h rc c (0:Int)) [] (qeT R n h rc c (0:Int)) [])<|some (iI 0)) from by kernel_rfl) ?_
 refine BF ?_;refine qm (qw ⟨rfl,.refl _⟩) ?_;refine qZ (by
  have e:(ofNat h).tmod 2=((h%2:Nat):Int):=rfl;rw[e,h2];simp) ?_
 refine qm (qw ⟨rfl,.refl _⟩) ?_;refine qm (qw ⟨rfl,.refl _⟩) ?_;exact qm (qw ⟨rfl,.refl _⟩) rfl
end
def QC(N:Nat->Int):Nat->Int
 |0=>0
 |i+1=>QC N i+N i
def h14(h:Nat)(w:Nat->T):qg:=[⟨0,1,h,fun e=>[w e],false,false,none⟩]
def v14(R:Nat->Nat->Int)(n h:Nat)(rc c:Option Nat)(most tot i:Int):List T:=[iI most,.own 0 0 0 h (some h),iI tot,qR R n h rc c,iI h,iI i]
def zn(n:Nat)(W:Nat->Int):T:=.view 1 n (fun j=>[uI (W j)]) (some n)
noncomputable def K14(p:List T->T->Prop)(r:T):Orc:=qk.add 30 (qL p fun _=>some r)
noncomputable def qmp(p:List T->T->Prop):Orc:=qk.add 29 (qL p fun _=>some (iI 0))
theorem qeU{N:Nat->Int}{h:Nat}(hN:∀i,i<h->0<=N i/\N i<=1001):∀i,i<=h->0<=QC N i/\QC N i<=1001*i
 |0,_=>by unfold QC;omega
 |i+1,hi=>by
  have h1:=qeU hN i (by omega);have h2:=hN i (by omega);unfold QC;omega
theorem l14(R:Nat->Nat->Int)(n h:Nat)(rc c:Option Nat)(most:Int)(W:Nat->Nat->Int)(N:Nat->Int)(hh:h<=31)(hN:∀i,i<h->0<=N i/\N i<=1001)
 (hW:∀i,i<h->ToldOk P18 G18 30 [qB (R i) n rc,iI most] (.tup [.new (zn n (W i)),iI (N i)])) :
 LoopOk P18 G18 (A18 14) 14 9 (qE (v14 R n h rc c most 0 0) (h14 h fun _=>.nils) (.exit 0) [.own 0 0 0 h (some h),iI (QC N h)] (h14 h fun e=>zn n (W e))):=by
 obtain⟨p,hp⟩:=qD P18 G18 30;refine qz qv (by kernel_rfl) (fun i=>v14 R n h rc c most (QC N i) (i:Nat)) (fun i=>h14 h fun e=>bif Nat.blt e i then zn n (W e) else .nils) (n:=h) (fun i hi=>?_) ?_
 ·have t1:=hW i hi;have hb:=qeU hN i (by omega);have hb2:=hN i hi;have e:QC N (i+1)=QC N i+N i:=rfl;rw[e];obtain⟨w,hw⟩:∃w:Nat->T,w=fun e=>bif Nat.blt e i then zn n (W e) else .nils:=⟨_,rfl⟩;have ew:(fun e=>bif Nat.blt e (i+1) then zn n (W e) else .nils)=fun e=>bif e==0+i then zn n (W i) else w e:=by
   subst hw;funext e;show _=bif e==0+i then zn n (W i) else(bif Nat.blt e i then zn n (W e) else .nils);rw[Nat.zero_add];by_cases q:e=i
   ·subst q;rw[beq_self_eq_true,cond_true,Qy (by omega),cond_true]
   ·rw[show(e==i)=false by simpa using q,cond_false];by_cases q2:e<i
    ·rw[Qy q2,Qy (by omega)]
    ·rw[Zg (by omega),Zg (by omega)]
  rw[ew,←hw];clear hN hW ew hw;generalize W i=Wi at *
  generalize QC N i=tot at *
  generalize N i=a at *
  refine Step.mk0 (A:=A18) (K:=K14 p (.tup [.new (zn n Wi),iI a])) (m:=0) (qq qf (qj hp)) rfl rfl qh (h1:=h14 h fun e=>bif e==0+i then zn n Wi else w e) ?_ (.refl _);refine Eq.trans (show qA P18 G18 A18 (K14 p (.tup [.new (zn n Wi),iI a])) 0 14 [] 9 (v14 R n h rc c most tot i) (h14 h w) =
( bif decide (ofNat i<ofNat h) then gD (decide (0<=ofNat i)&&decide (ofNat i<ofNat h))<|gD (qF (p [qB (R i) n rc,iI most] (.tup [(zn n Wi).new,iI a])))<|gD (decide (0<=ofNat i)&&decide (ofNat i<ofNat h))<|gD (((0:Nat)+i).blt h&&[zn n Wi].length==(1:Nat)&&true&&true)<|zN (v14 R n h rc c most (i64.wrap (tot+a)) (i64.wrap (ofNat i+1))) (h14 h fun e =>
 bif e==0+i then zn n Wi
 else w e) else
 zX 0 [.own 0 0 0 h (some h),iI tot] (h14 h w)) from by kernel_rfl) ?_
  refine BT ?_;refine BT ?_;refine qm (qp hp t1) ?_;refine BT ?_;refine BT ?_;rw[qn i,qI (x:=(i:Int)+1) (by omega) (by omega),qI (x:=tot+a) (by omega) (by omega)];rfl
 ·generalize QC N h=tot at *
  refine Last.mk0 (A:=A18) (m:=0) qf rfl rfl qh (h1:=h14 h fun e=>bif Nat.blt e h then zn n (W e) else .nils) (by simp) ?_ (.cons ⟨rfl,rfl,rfl,id,fun j hj=>?_⟩ .nil)
  ·generalize (fun e=>bif Nat.blt e h then zn n (W e) else .nils)=w at *
   refine Eq.trans (show qA P18 G18 A18 qk 0 14 [] 9 (v14 R n h rc c most tot h) (h14 h w) =
( bif decide (ofNat h<ofNat h) then gD (decide (0<=ofNat h)&&decide (ofNat h<ofNat h)) none else
 zX 0 [.own 0 0 0 h (some h),iI tot] (h14 h w)) from by kernel_rfl) ?_
   (repeat (first|refine BT ?_|refine BG ?_))
   rfl
  ·show [zn n (W j)]=[bif Nat.blt j h then zn n (W j) else .nils];rw[Qy hj,cond_true]
theorem qcs(R:Nat->Nat->Int)(n h:Nat)(rc c:Option Nat)(most:Int)(W:Nat->Nat->Int)(N:Nat->Int)(ok:PicOk R n h)(hm:1<=most/\most<=16)(hN:∀i,i<h->0<=N i/\N i<=1001)
 (hW:∀i,i<h->ToldOk P18 G18 30 [qB (R i) n rc,iI most] (.tup [.new (zn n (W i)),iI (N i)])) :
 ToldOk P18 G18 14 [qR R n h rc c,iI most] (.tup [.fresh false 1 h (fun i=>[zn n (W i)]) h (some h),iI (QC N h),iI 0]):=by
 obtain⟨p,hp⟩:=qD P18 G18 29;have h1:=ok.h1;have t1:=qcr R n h rc c ok;have hl:=l14 R n h rc c most W N h1 hN hW;generalize QC N h=tot at *
 clear hW hN;refine qJ qv q9 (K:=qmp p) (qq qf (qj hp)) (A:=A18) (m:=0) (by kernel_rfl) (qK hl) ?_;refine Eq.trans (show QB P18 G18 A18 (qmp p) 0 14 [(9,qE (v14 R n h rc c most 0 0) (h14 h fun _=>.nils) (.exit 0) [.own 0 0 0 h (some h),iI tot] (h14 h fun e=>zn n (W e)))] [qR R n h rc c,iI most] =
( gD (qF (p [qR R n h rc c] (iI 0)))<|bif decide (most<1) then some (.tup [.nils,iI 0,iI 1]) else
 bif decide (16<most) then some (.tup [.nils,iI 0,iI 1]) else
 gD (decide (0<=ofNat h)&&decide (ofNat h<=ofNat h)&&decide (ofNat h*24<=140737488355328)&&decide (ofNat h<=9223372036854775807))<|gD (qS (v14 R n h rc c most (0:Int) (0:Int)) (h14 h fun e=>.nils) (v14 R n h rc c most (0:Int) (0:Int)) (h14 h fun e=>.nils))<|some (.tup [bif ((0:Nat)+h).ble h then .fresh false (1:Nat) (h-0) (fun j=>[zn n (W (0+j))]) h (some h)
 else .undef,iI tot,iI 0])) from by kernel_rfl) ?_
 refine qm (qp hp t1) ?_;refine BF ?_;refine BF ?_;refine BT ?_;refine qm (qw ⟨rfl,.refl _⟩) ?_;simp only[Nat.zero_add,Nat.sub_zero,QZ (Nat.le_refl _),cond_true]
 try rfl
section
variable (r:Nat->Int) (n:Nat) (cs:Nat->Int) (k:Nat) (most:Int)
def lkB(f:PS->Int)(a:Nat)(s:PS):Nat->Int
 |0=>(n:Int)+1
 |i+1=>bif s.ok most (cs i) then(bif decide (f (s.nx (cs i))+chg (r a) (cs i)<lkB f a s i) then f (s.nx (cs i))+chg (r a) (cs i) else lkB f a s i) else lkB f a s i
def lk:Nat->PS->Int
 |0,_=>0
 |m+1,s=>lkB r n cs most (lk m) (n-(m+1)) s k
end
def Good(r:Nat->Int)(n:Nat)(cs:Nat->Int)(k:Nat)(most:Int)(m:MapD)(a:Nat)(s:PS):Prop:=m.val (s.key a)=lk r n cs k most (n-a) s
theorem qkm{a b:Bool}(h:b2i a=b2i b):a=b:=by
 cases a<;>cases b<;>first|rfl|(simp[b2i] at h)
theorem qkn{s t:PS}{a b:Int}(h:s.key a=t.key b):a=b/\s=t:=by
 obtain⟨c,ru,i⟩:=s;obtain⟨c2,ru2,i2⟩:=t;simp only[PS.key,List.cons.injEq,and_true] at h;obtain⟨h1,h2,h3,h4⟩:=h;obtain rfl:=qkm h4;subst h1 h2 h3;exact⟨rfl,rfl⟩
section
variable {r:Nat->Int} {n:Nat} {cs:Nat->Int} {k:Nat} {most:Int}
theorem qfW(val:List Int->Int)(f:PS->Int)(a:Nat)(s:PS):∀i,(∀j,j<i->val ((s.nx (cs j)).key ((a:Int)+1))=f (s.nx (cs j)))->ZD r n cs most val a s.c s.run s.inn i=lkB r n cs most f a s i
 |0,_=>rfl
 |i+1,h=>by
  have ih:=qfW val f a s i fun j hj=>h j (by omega);have hi:=h i (by omega);unfold ZD lkB;rw[ih];have e:qdb r most val a s.c s.run s.inn (cs i)=f (s.nx (cs i))+chg (r a) (cs i):=by
   rw[←hi];rfl
  rw[e];rfl
theorem qii(a:Nat)(s:PS)(m:MapD)(l:List Int):(Qt r n cs k most a s.c s.run s.inn m).val l=if l=s.key a then k8 r n cs k most m.val a s.c s.run s.inn else m.val l:=by
 show(bif keq l [(a:Int),s.c,s.run,b2i s.inn] then k8 r n cs k most m.val ((a:Int)).toNat s.c s.run s.inn else m.val l)=_;by_cases q:l=s.key a
 ·rw[if_pos q,q];show(bif keq [(a:Int),s.c,s.run,b2i s.inn] [(a:Int),s.c,s.run,b2i s.inn] then _ else _)=_;rw[YE,cond_true];rfl
 ·rw[if_neg q,show keq l [(a:Int),s.c,s.run,b2i s.inn]=false from qdZ q,cond_false]
theorem Good.fill{m:MapD}{a b:Nat}{s t:PS}(ha:a<=n)(h:Good r n cs k most m b t∨(b=a/\t=s))(hs:a<n->∀j,j<k->Good r n cs k most m (a+1) (s.nx (cs j))):Good r n cs k most (Qt r n cs k most a s.c s.run s.inn m) b t:=by
 unfold Good;rw[qii];by_cases q:t.key b=s.key a
 ·rw[if_pos q];obtain⟨q1,rfl⟩:=qkn q;obtain rfl:b=a:=by omega
  unfold k8;by_cases q2:b=n
  ·subst q2;rw[if_pos rfl,Nat.sub_self];rfl
  ·rw[if_neg q2];obtain⟨m',hm'⟩:∃m',n-b=m'+1:=⟨n-b-1,by omega⟩;rw[hm',qfW (f:=lk r n cs k most m') m.val b t k fun j hj=>?_]
   ·show _=lkB r n cs most (lk r n cs k most m') (n-(m'+1)) t k;rw[show n-(m'+1)=b by omega]
   ·have:=hs (by omega) j hj;unfold Good at this;rw[show n-(b+1)=m' by omega] at this;rw[←this];rfl
 ·rw[if_neg q];rcases h with h|⟨rfl,rfl⟩
  ·exact h
  ·exact absurd rfl q
def Pl(cs:Nat->Int)(k a:Nat)(s:PS):Prop:=∃i j,i<k/\1<=j/\j<=a/\s.c=cs i/\s.run=((j:Nat):Int)
theorem qct{m:MapD}{a j:Nat}(ha:a<=n)(hs:a<n->∀i b,i<k->∀e,e<k->Good r n cs k most m (a+1) (PS.nx ⟨cs i,(j:Nat),b⟩ (cs e))):∀i,i<=k->(∀b t,Good r n cs k most m b t->Good r n cs k most (ZW (Qt r n cs k most) cs a j m i) b t)/\∀i',i'<i->∀b,Good r n cs k most (ZW (Qt r n cs k most) cs a j m i) a ⟨cs i',(j:Nat),b⟩
 |0,_=>⟨fun _ _ h=>h,fun i' h=>by omega⟩
 |i+1,hi=>by
  obtain⟨h1,h2⟩:=qct ha hs i (by omega);have s1:a<n->∀e,e<k->Good r n cs k most (ZW (Qt r n cs k most) cs a j m i) (a+1) (PS.nx ⟨cs i,(j:Nat),false⟩ (cs e)):=fun q e he=>h1 _ _ (hs q i false (by omega) e he);have f1:∀b t,(Good r n cs k most (ZW (Qt r n cs k most) cs a j m i) b t∨(b=a/\t=⟨cs i,(j:Nat),false⟩))->Good r n cs k most (Qt r n cs k most a (cs i) (j:Nat) false (ZW (Qt r n cs k most) cs a j m i)) b t:=fun b t h=>Good.fill (s:=⟨cs i,(j:Nat),false⟩) ha h s1;have s2:a<n->∀e,e<k->Good r n cs k most (Qt r n cs k most a (cs i) (j:Nat) false (ZW (Qt r n cs k most) cs a j m i)) (a+1) (PS.nx ⟨cs i,(j:Nat),true⟩ (cs e)):=fun q e he=>f1 _ _ (.inl (h1 _ _ (hs q i true (by omega) e he)));have f2:∀b t,(Good r n cs k most (ZW (Qt r n cs k most) cs a j m i) b t∨(b=a/\t=⟨cs i,(j:Nat),false⟩)∨(b=a/\t=⟨cs i,(j:Nat),true⟩))->Good r n cs k most (ZW (Qt r n cs k most) cs a j m (i+1)) b t:=fun b t h =>
   Good.fill (s:=⟨cs i,(j:Nat),true⟩) ha (h.elim (fun h=>.inl (f1 b t (.inl h))) fun h=>h.elim (fun h=>.inl (f1 b t (.inr h))) .inr) s2
  refine⟨fun b t h=>f2 b t (.inl (h1 b t h)),fun i' hi' b=>?_⟩;by_cases q:i'=i
  ·subst q;cases b
   ·exact f2 _ _ (.inr (.inl ⟨rfl,rfl⟩))
   ·exact f2 _ _ (.inr (.inr ⟨rfl,rfl⟩))
  ·exact f2 _ _ (.inl (h2 i' (by omega) b))
theorem qkT{a i j e:Nat}(hi:i<k)(he:e<k)(h1:1<=j)(hj:j<=a)(b:Bool):Pl cs k (a+1) (PS.nx ⟨cs i,(j:Nat),b⟩ (cs e)):=by
 unfold PS.nx;dsimp only;unfold nK;rw[decide_eq_false (show ¬((j:Int)=0) by omega),cond_false];by_cases q:cs i=cs e
 ·rw[decide_eq_true q,cond_true];exact⟨e,j+1,he,by omega,by omega,rfl,by show(j:Int)+1=((j+1:Nat):Int);omega⟩
 ·rw[decide_eq_false q,cond_false];exact⟨e,1,he,by omega,by omega,rfl,rfl⟩
theorem qcu{m:MapD}{a:Nat}(ha:a<=n)(hs:a<n->∀s,Pl cs k (a+1) s->Good r n cs k most m (a+1) s):∀j,j<=a->(∀b t,Good r n cs k most m b t->Good r n cs k most (YT (Qt r n cs k most) cs k a m j) b t)/\∀j',1<=j'->j'<=j->∀i,i<k->∀b,Good r n cs k most (YT (Qt r n cs k most) cs k a m j) a ⟨cs i,(j':Nat),b⟩
 |0,_=>⟨fun _ _ h=>h,fun j' h1 h2=>by omega⟩
 |j+1,hj=>by
  obtain⟨h1,h2⟩:=qcu ha hs j (by omega);obtain⟨g1,g2⟩:=qct (m:=YT (Qt r n cs k most) cs k a m j) (j:=j+1) ha (fun q i b hi e he=>h1 _ _ (hs q _ (qkT hi he (by omega) (by omega) b))) k (Nat.le_refl _);refine⟨fun b t h=>g1 b t (h1 b t h),fun j' q1 q2 i hi b=>?_⟩;by_cases q:j'=j+1
  ·subst q;exact g2 i hi b
  ·exact g1 _ _ (h2 j' q1 (by omega) i hi b)
theorem qcv:∀i,i<=n->∀a,n-i<a->a<=n->∀s,Pl cs k a s->Good r n cs k most (KG (Qt r n cs k most) cs k n i) a s
 |0,_,a,h1,h2,s,_=>by omega
 |i+1,hi,a,h1,h2,s,hp=>by
  have ih:=qcv i (by omega);obtain⟨g1,g2⟩:=qcu (m:=KG (Qt r n cs k most) cs k n i) (a:=n-i) (by omega) (fun q s hp=>ih (n-i+1) (by omega) (by omega) s hp) (n-i) (Nat.le_refl _);by_cases q:a=n-i
  ·obtain⟨c,j,hc,hj1,hj2,e1,e2⟩:=hp;obtain⟨sc,sr,sb⟩:=s;dsimp only at e1 e2;subst e1 e2;rw[q];exact g2 j hj1 (by omega) c hc sb
  ·exact g1 _ _ (ih a (by omega) h2 s hp)
theorem jT{a:Nat}{s:PS}(h1:1<=n)(ha:a<=n)(h:Pl cs k a s∨(a=0/\s=⟨0,0,false⟩)):Good r n cs k most (zH r n cs k most) a s:=by
 have g:=qcv (r:=r) (n:=n) (cs:=cs) (k:=k) (most:=most) n (Nat.le_refl _);refine Good.fill (a:=0) (s:=⟨0,0,false⟩) (Nat.zero_le _) ?_ fun _ j hj=>?_
 ·rcases h with h|h
  ·obtain⟨c,j,hc,hj1,hj2,e1,e2⟩:=h;exact .inl (g a (by omega) ha s ⟨c,j,hc,hj1,hj2,e1,e2⟩)
  ·exact .inr h
 ·refine g 1 (by omega) h1 _ ⟨j,1,hj,Nat.le_refl _,Nat.le_refl _,rfl,?_⟩;rfl
end
def PlS(cs:Nat->Int)(k a:Nat)(s:PS):Prop:=Pl cs k a s∨(a=0/\s=⟨0,0,false⟩)
section
variable (r:Nat->Int) (n:Nat) (cs:Nat->Int) (k:Nat) (most:Int)
def qa8(i:Nat)(s:PS)(d:Int):Bool:=s.ok most d&&decide (lk r n cs k most (n-(i+1)) (s.nx d)+chg (r i) d=lk r n cs k most (n-i) s)
def qcw(i:Nat)(s:PS):Nat:=fnd (fun j=>qa8 r n cs k most i s (cs j)) k 0
def psL:Nat->PS
 |0=>⟨0,0,false⟩
 |i+1=>(psL i).nx (cs (qcw r n cs k most i (psL i)))
def wvL(i:Nat):Int:=(psL r n cs k most (i+1)).c
end
section
variable {r:Nat->Int} {n:Nat} {cs:Nat->Int} {k:Nat} {most:Int}
theorem PlS.ok{a:Nat}{s:PS}(hk:1<=k)(h:PlS cs k a s):∃j,j<k/\s.ok most (cs j)=true:=by
 rcases h with⟨i,j,hi,hj1,hj2,e1,e2⟩|⟨rfl,rfl⟩
 ·refine⟨i,hi,?_⟩;unfold PS.ok nO;rw[e2,decide_eq_false (show ¬((j:Int)=0) by omega),cond_false,decide_eq_true e1,cond_true]
 ·exact⟨0,hk,rfl⟩
theorem PlS.nx{a e:Nat}{s:PS}(he:e<k)(h:PlS cs k a s):Pl cs k (a+1) (s.nx (cs e)):=by
 rcases h with⟨i,j,hi,hj1,hj2,e1,e2⟩|⟨rfl,rfl⟩
 ·obtain⟨c,ru,b⟩:=s;dsimp only at e1 e2;subst e1 e2;exact qkT hi he hj1 hj2 b
 ·exact⟨e,1,he,Nat.le_refl _,Nat.le_refl _,rfl,rfl⟩
theorem qcx(f:PS->Int)(a:Nat)(s:PS):∀i j,j<i->s.ok most (cs j)=true->lkB r n cs most f a s i<=f (s.nx (cs j))+chg (r a) (cs j)
 |i+1,j,hj,ho=>by
  unfold lkB;have ih:=qcx f a s i;by_cases q:j=i
  ·subst q;rw[ho,cond_true];by_cases q2:f (s.nx (cs j))+chg (r a) (cs j)<lkB r n cs most f a s j
   ·rw[decide_eq_true q2,cond_true];exact Int.le_refl _
   ·rw[decide_eq_false q2,cond_false];omega
  ·have:=ih j (by omega) ho;cases s.ok most (cs i)
   ·exact this
   ·rw[cond_true];by_cases q2:f (s.nx (cs i))+chg (r a) (cs i)<lkB r n cs most f a s i
    ·rw[decide_eq_true q2,cond_true];omega
    ·rw[decide_eq_false q2,cond_false];exact this
theorem qjl(f:PS->Int)(a:Nat)(s:PS):∀i,lkB r n cs most f a s i=(n:Int)+1∨∃j,j<i/\s.ok most (cs j)=true/\f (s.nx (cs j))+chg (r a) (cs j)=lkB r n cs most f a s i
 |0=>.inl rfl
 |i+1=>by
  have ih:=qjl f a s i;have key:lkB r n cs most f a s i=(n:Int)+1∨∃j,j<i+1/\s.ok most (cs j)=true/\f (s.nx (cs j))+chg (r a) (cs j)=lkB r n cs most f a s i:=by
   rcases ih with h|⟨j,h1,h2,h3⟩
   ·exact .inl h
   ·exact .inr ⟨j,by omega,h2,h3⟩
  unfold lkB;cases q:s.ok most (cs i)
  ·exact key
  ·rw[cond_true];by_cases q2:f (s.nx (cs i))+chg (r a) (cs i)<lkB r n cs most f a s i
   ·rw[decide_eq_true q2,cond_true];exact .inr ⟨i,by omega,q,rfl⟩
   ·rw[decide_eq_false q2,cond_false];exact key
theorem qjm(hk:1<=k):∀m a s,a+m=n->PlS cs k a s->lk r n cs k most m s<=m
 |0,_,_,_,_=>Int.le_refl _
 |m+1,a,s,ha,h=>by
  obtain⟨j,hj,ho⟩:=h.ok (most:=most) hk;have h1:=qjm hk m (a+1) (s.nx (cs j)) (by omega) (.inl (h.nx hj));have h2:=qcx (r:=r) (n:=n) (lk r n cs k most m) (n-(m+1)) s k j hj ho;have h3:=qeI (r (n-(m+1))) (cs j);show lkB r n cs most (lk r n cs k most m) (n-(m+1)) s k<=_;omega
theorem qkU(hk:1<=k){m a:Nat}{s:PS}(ha:a+(m+1)=n)(h:PlS cs k a s):∃j,j<k/\s.ok most (cs j)=true/\lk r n cs k most m (s.nx (cs j))+chg (r a) (cs j)=lk r n cs k most (m+1) s:=by
 have h1:=qjm (r:=r) (most:=most) hk (m+1) a s ha h;have h2:=qjl (r:=r) (n:=n) (cs:=cs) (most:=most) (lk r n cs k most m) a s k;have e:n-(m+1)=a:=by omega
 show ∃j,j<k/\s.ok most (cs j)=true/\lk r n cs k most m (s.nx (cs j))+chg (r a) (cs j)=lkB r n cs most (lk r n cs k most m) (n-(m+1)) s k;rw[e];rcases h2 with h2|h2
 ·exfalso;change lkB r n cs most (lk r n cs k most m) (n-(m+1)) s k<=_ at h1;rw[e,h2] at h1;omega
 ·exact h2
theorem qlp{t:Nat->Bool}{m j:Nat}(h:∃i,j<=i/\i<j+m/\t i=true):fnd t m j<j+m:=by
 obtain⟨i,h1,h2,h3⟩:=h;have:=qlf t m j;rcases Nat.lt_or_ge (fnd t m j) (j+m) with q|q
 ·exact q
 ·have:=qjf t m j i h1 (by omega);rw[h3] at this;cases this
theorem qbi(hk:1<=k){i:Nat}{s:PS}(hi:i<n)(h:PlS cs k i s):qcw r n cs k most i s<k:=by
 obtain⟨m,hm⟩:∃m,n=i+(m+1):=⟨n-i-1,by omega⟩;obtain⟨j,hj,ho,he⟩:=qkU (r:=r) (most:=most) hk hm.symm h;have:=@qlp (fun j=>qa8 r n cs k most i s (cs j)) k 0 ⟨j,Nat.zero_le _,by omega,by
  unfold qa8;rw[ho,Bool.true_and,decide_eq_true_eq,show n-(i+1)=m by omega,show n-i=m+1 by omega];exact he⟩
 unfold qcw;omega
theorem qcy(hk:1<=k):∀i,i<=n->PlS cs k i (psL r n cs k most i)
 |0,_=>.inr ⟨rfl,rfl⟩
 |i+1,hi=>by
  have ih:=qcy hk i (by omega);exact .inl (ih.nx (qbi hk (by omega) ih))
theorem qmq(h1:1<=n)(hk:1<=k){i j:Nat}{s:PS}(hi:i<n)(hj:j<k)(h:PlS cs k i s):tst r most (zH r n cs k most).val i s (cs j)=qa8 r n cs k most i s (cs j):=by
 have g1:=jT (r:=r) (most:=most) h1 (Nat.le_of_lt hi) h;have g2:=jT (r:=r) (most:=most) (a:=i+1) h1 hi (.inl (h.nx hj));unfold Good at g1 g2;unfold tst qa8;rw[show((i:Int)+1)=((i+1:Nat):Int) by omega,g1,g2]
theorem qdL{t u:Nat->Bool}:∀{m j:Nat},(∀i,j<=i->i<j+m->t i=u i)->fnd t m j=fnd u m j
 |0,_,_=>rfl
 |m+1,j,h=>by
  unfold fnd;rw[h j (Nat.le_refl _) (by omega),qdL (fun i h1 h2=>h i (by omega) (by omega))]
theorem qkV(h1:1<=n)(hk:1<=k){i:Nat}{s:PS}(hi:i<n)(h:PlS cs k i s):psC r cs k most (zH r n cs k most).val i s=qcw r n cs k most i s:=by
 unfold psC qcw;exact qdL fun j _ hj=>qmq h1 hk hi (by omega) h
theorem qjn(h1:1<=n)(hk:1<=k):∀i,i<=n->psT r cs k most (zH r n cs k most).val i=psL r n cs k most i
 |0,_=>rfl
 |i+1,hi=>by
  have ih:=qjn h1 hk i (by omega);unfold psT psL;rw[ih,qkV h1 hk (by omega) (qcy hk i (by omega))]
theorem qmr(h1:1<=n)(hk:1<=k){i:Nat}(hi:i<n):wvn r cs k most (zH r n cs k most).val i=wvL r n cs k most i:=by
 unfold wvn wvL;rw[qjn h1 hk (i+1) (by omega)]
theorem qko(h1:1<=n):(zH r n cs k most).val [0,0,0,0]=lk r n cs k most n ⟨0,0,false⟩:=jT (r:=r) (most:=most) (a:=0) h1 (Nat.zero_le _) (.inr ⟨rfl,rfl⟩)
theorem qkp(h1:1<=n)(hk:1<=k)(i:Nat)(hi:i<n):psC r cs k most (zH r n cs k most).val i (psT r cs k most (zH r n cs k most).val i)<k:=by
 rw[qjn h1 hk i (by omega),qkV h1 hk hi (qcy hk i (by omega))];exact qbi hk hi (qcy hk i (by omega))
end
theorem qcz(r:Nat->Int)(n:Nat)(c:Option Nat)(most:Int)(h1:1<=n)(hn:n<=ZS)(hr:∀j,j<n->0<=r j/\r j<256) :
 ToldOk P18 G18 30 [qB r n c,iI most] (.tup [.new (zn n (wvL r n (csK r n) (kK r n) most)),iI (lk r n (csK r n) (kK r n) most n ⟨0,0,false⟩)]):=by
 have hn2:=hn;unfold ZS at hn2;have hk:1<=kK r n:=by
  obtain⟨j,_,h2,_⟩:=(KY hr (r 0)).2 ⟨0,Nat.le_refl _,h1,rfl⟩;omega
 have hk2:kK r n<=256:=by
  unfold kK jz;refine Nat.le_trans (List.length_filter_le _ _) ?_;simp
 have t:=(qkk r n c (csK r n) (kK r n) none most (by omega) (by omega) (qeS r n c h1 hn hr) (qkp h1 hk)).frz;rw[qko h1] at t;refine ToldOk.tupTo t (.cons (.new (.view (.inl rfl) fun j hj=>?_)) (.cons (.refl _) .nil));show Sims [uI (wvn r (csK r n) (kK r n) most (zH r n (csK r n) (kK r n) most).val j)] [uI (wvL r n (csK r n) (kK r n) most j)];rw[qmr h1 hk hj];exact .refl _
def ZF(l:List Int)(j:Nat):Int:=l.getD j 0
def flT(l:List (List T)):T:=.new (.view 3 l.length (fun j=>l.getD j []) (some l.length))
def qjo(x:List T)(v:Int):Bool:=match x with
 |[.int .u8 y]=>decide (y=v)
 |_=>false
def Ye(g:Nat->List T)(l:List Int):Bool:=(List.range l.length).all fun j=>qjo (g j) (ZF l j)
def exA:List (List T):=[[uI 1,iI 1,iI 2],[uI 2,iI 3,iI 2]]
def exB:List (List T):=[[uI 1,iI 1,iI 2]]
def qlq:List T->Tree
 |[.view 1 6 g _]=>.ite (Ye g [1,2,2,1,1,2]) (.ret (flT exA)) .none
 |[.view 1 4 g _]=>.ite (Ye g [1,2,3,1]) (.ret (flT exB)) (.ite (Ye g [1,1,2,2]) (.ret (flT [])) .none)
 |_=>.none
def qeV(n:Nat)(l:List Int)(tot:Int):T:=.tup [.fresh false 1 1 (fun _=>[zn n (ZF l)]) 1 (some 1),iI tot,iI 0]
def qlr:List T->Tree
 |[.view 1 1 G _,.int .i64 m]=>match G 0 with
  |[.view 1 5 g _]=>.ite (Ye g [1,2,2,2,1]&&decide (m=2)) (.ret (qeV 5 [1,1,2,2,1] 1)) .none
  |[.view 1 7 g _]=>.ite (Ye g [1,2,2,2,2,2,1]&&decide (m=2)) (.ret (qeV 7 [1,2,2,1,2,2,1] 1)) .none
  |[.view 1 4 g _]=>.ite (Ye g [1,2,2,2]&&decide (m=1)) (.ret (qeV 4 [1,2,2,2] 0)) .none
  |_=>.none
 |_=>.none
noncomputable def K12:Orc:=(qk.add 10 qlq).add 14 qlr
theorem qij:QU P18 G18 A18 K12 4 12 []=some (.bool true):=by kernel_rfl
theorem qkq{g:Nat->List T}{l:List Int}(h:Ye g l=true){j:Nat}(hj:j<l.length):g j=[uI (ZF l j)]:=by
 have:=List.all_eq_true.1 h j (List.mem_range.2 hj);revert this;generalize g j=x;intro this;unfold qjo at this;split at this
 ·rw[of_decide_eq_true this]
 ·cases this
theorem qhC{g:Nat->List T}{l:List Int}{n:Nat}{c:Option Nat}(h:Ye g l=true)(hn:n=l.length):Sim (.view 1 n g c) (qB (ZF l) n c):=by
 subst hn;refine .view (.inl rfl) fun j hj=>?_;rw[qkq h hj];exact .refl _
theorem qls{g:Nat->List T}{n:Nat}{c:Option Nat}(l:List Int)(e:List (List T))(hl:n=l.length)(hn:n<=60)(hr:∀j,j<n->0<=ZF l j/\ZF l j<256)(he:(fl (ZF l) n n).length=e.length)(hg:∀j,j<e.length->flG (ZF l) n j=e.getD j [])
 (h:Ye g l=true):ToldOk P18 G18 10 [.view 1 n g c] (flT e):=by
 have t:=(qhx (ZF l) n c (by omega) hr).sim (args:=[.view 1 n g c]) (.cons (qhC h hl) .nil);rw[he] at t;refine t.resTo (.new (.view (.inl rfl) fun j hj=>?_));rw[hg j hj];exact .refl _
theorem qan{l:List Int}{n:Nat}(h:(List.range n).all (fun j=>decide (1<=ZF l j)&&decide (ZF l j<=6))=true){j:Nat}(hj:j<n):1<=ZF l j/\ZF l j<=6:=by
 have:=List.all_eq_true.1 h j (List.mem_range.2 hj);simp only[Bool.and_eq_true,decide_eq_true_eq] at this;exact this
theorem qgX{p:Nat->Prop}{n:Nat}[DecidablePred p](h:(List.range n).all (fun j=>decide (p j))=true)(j:Nat)(hj:j<n):p j:=of_decide_eq_true (List.all_eq_true.1 h j (List.mem_range.2 hj))
theorem qn1{args:List T}{r:T}(h:(qlq args).run some=some r):ToldOk P18 G18 10 args r:=by
 unfold qlq at h;split at h
 ·simp only[Tree.run] at h;obtain⟨h1,h⟩:=qu h;obtain rfl:=Option.some.inj h;refine qls [1,2,2,1,1,2] exA rfl (by omega) (fun j hj=>?_) (by decide +kernel) (fun j hj=>?_) h1
  ·have:=qan (l:=[1,2,2,1,1,2]) (n:=6) (by decide +kernel) hj;omega
  ·have:j<2:=hj;obtain rfl|rfl:j=0∨j=1:=by omega
   ·exact(show flG (ZF [1,2,2,1,1,2]) 6 0=exA.getD 0 [] from by kernel_rfl)
   ·exact(show flG (ZF [1,2,2,1,1,2]) 6 1=exA.getD 1 [] from by kernel_rfl)
 ·simp only[Tree.run] at h;rename_i g c;cases q:Ye g [1,2,3,1]
  ·rw[q] at h;obtain⟨h1,h⟩:=qu h;obtain rfl:=Option.some.inj h;refine qls [1,1,2,2] [] rfl (by omega) (fun j hj=>?_) (by decide +kernel) (fun j hj=>by cases hj) h1;have:=qan (l:=[1,1,2,2]) (n:=4) (by decide +kernel) hj;omega
  ·rw[q] at h;obtain rfl:=Option.some.inj h;refine qls [1,2,3,1] exB rfl (by omega) (fun j hj=>?_) (by decide +kernel) (fun j hj=>?_) q
   ·have:=qan (l:=[1,2,3,1]) (n:=4) (by decide +kernel) hj;omega
   ·have:j<1:=hj;obtain rfl:j=0:=by omega
    exact(show flG (ZF [1,2,3,1]) 4 0=exB.getD 0 [] from by kernel_rfl)
 ·cases h
theorem qlt{G:Nat->List T}{g:Nat->List T}{n:Nat}{rc c:Option Nat}(l e cl:List Int)(most tot:Int)(hG:G 0=[.view 1 n g rc])(hl:n=l.length)(hn1:1<=n)(hn:n<=ZS)(hm:1<=most/\most<=16)
 (hr:∀j,j<n->1<=ZF l j/\ZF l j<=6) (hk:jz (ZF l) n=cl) (hk2:cl.length<=2) (hw:∀j,j<n->wvL (ZF l) n (fun j=>cl.getD j 0) cl.length most j=ZF e j) (ht:lk (ZF l) n (fun j=>cl.getD j 0) cl.length most n ⟨0,0,false⟩ = tot) (htb:0<=tot/\tot<=1000)
 (h:Ye g l=true):ToldOk P18 G18 14 [.view 1 1 G c,iI most] (qeV n e tot):=by
 have hk3:kK (ZF l) n=cl.length:=by unfold kK;rw[hk]
 have hc3:csK (ZF l) n=fun j=>cl.getD j 0:=by funext j;unfold csK;rw[hk]
 have t:=qcz (ZF l) n rc most hn1 hn fun j hj=>by have:=hr j hj;omega
 rw[hk3,hc3,ht] at t;have t2:ToldOk P18 G18 30 [qB (ZF l) n rc,iI most] (.tup [.new (zn n (ZF e)),iI tot]):=by
  refine ToldOk.tupTo t (.cons (.new (.view (.inl rfl) fun j hj=>?_)) (.cons (.refl _) .nil));rw[hw j hj];exact .refl _
 have ok:PicOk (fun _=>ZF l) n 1:=⟨hn1,hn,by omega,rfl,fun i _=>hr,fun i _=>by rw[hk3];exact hk2⟩;have t3:=qcs (fun _=>ZF l) n 1 rc c most (fun _=>ZF e) (fun _=>tot) ok hm (fun i _=>by omega) fun i _=>t2;rw[show QC (fun _=>tot) 1=tot by simp[QC]] at t3;refine t3.sim (.cons (.view (.inl rfl) fun j hj=>?_) (.cons (.refl _) .nil));have hj:j<1:=hj;obtain rfl:j=0:=by omega
 rw[hG];exact .cons (qhC h hl) .nil
theorem qn2{args:List T}{r:T}(h:(qlr args).run some=some r):ToldOk P18 G18 14 args r:=by
 unfold qlr at h;split at h
 ·split at h
  ·rename_i hG;simp only[Tree.run] at h;obtain⟨h1,h⟩:=qu h;obtain rfl:=Option.some.inj h;simp only[Bool.and_eq_true,decide_eq_true_eq] at h1;obtain⟨h1,rfl⟩:=h1;exact qlt [1,2,2,2,1] [1,1,2,2,1] [1,2] 2 1 hG rfl (by omega) (by unfold ZS;omega) (by omega) (fun j hj=>qan (n:=5) (by decide +kernel) hj) (by decide +kernel) (by decide) (qgX (by decide +kernel)) (by decide +kernel) (by omega) h1
  ·rename_i hG;simp only[Tree.run] at h;obtain⟨h1,h⟩:=qu h;obtain rfl:=Option.some.inj h;simp only[Bool.and_eq_true,decide_eq_true_eq] at h1;obtain⟨h1,rfl⟩:=h1;exact qlt [1,2,2,2,2,2,1] [1,2,2,1,2,2,1] [1,2] 2 1 hG rfl (by omega) (by unfold ZS;omega) (by omega) (fun j hj=>qan (n:=7) (by decide +kernel) hj) (by decide +kernel) (by decide) (qgX (by decide +kernel)) (by decide +kernel) (by omega) h1
  ·rename_i hG;simp only[Tree.run] at h;obtain⟨h1,h⟩:=qu h;obtain rfl:=Option.some.inj h;simp only[Bool.and_eq_true,decide_eq_true_eq] at h1;obtain⟨h1,rfl⟩:=h1;exact qlt [1,2,2,2] [1,2,2,2] [1,2] 1 0 hG rfl (by omega) (by unfold ZS;omega) (by omega) (fun j hj=>qan (n:=4) (by decide +kernel) hj) (by decide +kernel) (by decide) (qgX (by decide +kernel)) (by decide +kernel) (by omega) h1
  ·cases h
 ·cases h
theorem Yf:ToldOk P18 G18 12 [] (.bool true):=qP qv q9 (qq (qq qf fun _ _=>qn1) fun _ _=>qn2) qij
def v3(a b d:Nat->Int)(m:Nat)(i:Int):List T:=[.view 3 m (fun j=>[uI (a j),iI (b j),iI (d j)]) (some m),.view 3 m (fun j=>[uI (a j),iI (b j),iI (d j)]) none,iI i]
noncomputable def K3(p q l:List T->T->Prop)(a b d:Nat->Int)(m:Nat):Orc:=((qk.add 10 (qL p fun _=>some (.new (.view 3 m (fun j=>[uI (a j),iI (b j),iI (d j)]) (some m))))).add 11 (qL q fun _=>some (.new (.view 3 m (fun j=>[uI (a j),iI (b j),iI (d j)]) none)))).add 12 (qL l fun _=>some (.bool true))
theorem l3(a b d:Nat->Int)(m:Nat)(hm:m<=1000):LoopOk P18 G18 (A18 3) 3 8 (qE (v3 a b d m 0) [] (.exit 0) [.undef] []):=by
 refine qz qv (by kernel_rfl) (fun i=>v3 a b d m (i:Nat)) (fun _=>[]) (n:=m) (fun i hi=>?_) ?_
 ·refine Step.mk0 (A:=A18) (m:=0) qf rfl rfl qh (h1:=[]) ?_ .nil;refine Eq.trans (show qA P18 G18 A18 qk 0 3 [] 8 (v3 a b d m i) [] =
( bif decide (ofNat i<ofNat m) then gD (decide (0<=ofNat i)&&decide (ofNat i<ofNat m))<|gD (decide (0<=ofNat i)&&decide (ofNat i<ofNat m))<|bif decide (a i=a i) then bif decide (b i=b i) then bif decide (d i=d i) then zN (v3 a b d m (i64.wrap (ofNat i+1))) [] else
 zR [.bool false] [] else
 zR [.bool false] [] else
 zR [.bool false] [] else
 zX 0 [.undef] []) from by kernel_rfl) ?_
  (repeat (first|refine BT ?_|refine BG ?_))
  rw[qn i,qI (x:=(i:Int)+1) (by omega) (by omega)]
  first|rfl|(refine qZ (by simp) ?_;rfl)
 ·refine Last.mk0 (A:=A18) (m:=0) qf rfl rfl qh (h1:=[]) (by simp) ?_ .nil;refine Eq.trans (show qA P18 G18 A18 qk 0 3 [] 8 (v3 a b d m (m:Nat)) [] =
( bif decide (ofNat m<ofNat m) then gD (decide (0<=ofNat m)&&decide (ofNat m<ofNat m))<|gD (decide (0<=ofNat m)&&decide (ofNat m<ofNat m))<|bif decide (a m=a m) then bif decide (b m=b m) then bif decide (d m=d m) then zN (v3 a b d m (i64.wrap (ofNat m+1))) [] else
 zR [.bool false] [] else
 zR [.bool false] [] else
 zR [.bool false] [] else
 zX 0 [.undef] []) from by kernel_rfl) ?_
  (repeat (first|refine BT ?_|refine BG ?_))
  rfl
theorem qn3(r:Nat->Int)(n:Nat)(c:Option Nat)(hr:∀j,j<n->0<=r j/\r j<256):ToldOk P18 G18 3 [qB r n c] (.bool true):=by
 rcases Nat.lt_or_ge 60 n with q|q
 ·refine qP qv q9 qf (A:=A18) (m:=0) ?_;refine Eq.trans (show QU P18 G18 A18 qk 0 3 [qB r n c] =
( gD (decide (60<ofNat n))<|some (.bool true)) from by kernel_rfl) ?_
  exact BT rfl
 ·obtain⟨p,hp⟩:=qD P18 G18 10;obtain⟨p2,hp2⟩:=qD P18 G18 11;obtain⟨l,hl⟩:=qD P18 G18 12;have t1:=qhx r n c (by omega) hr;have t2:=qcj r n c (by omega) hr;have hb:=jS r n n;have hl3:=l3 (fun j=>r ((fl r n n).getD j 0)) (fun j=>(((fl r n n).getD j 0:Nat):Int)+1) (fun j=>Zh r n ((fl r n n).getD j 0)-((fl r n n).getD j 0:Nat)-1) (fl r n n).length (by omega);change ToldOk P18 G18 10 _ (.new (.view 3 (fl r n n).length (fun j=>[uI ((fun j=>r ((fl r n n).getD j 0)) j),iI ((fun j=>(((fl r n n).getD j 0:Nat):Int)+1) j),iI ((fun j=>Zh r n ((fl r n n).getD j 0)-((fl r n n).getD j 0:Nat)-1) j)]) (some (fl r n n).length))) at t1;change ToldOk P18 G18 11 _ (.new (.view 3 (fl r n n).length (fun j=>[uI ((fun j=>r ((fl r n n).getD j 0)) j),iI ((fun j=>(((fl r n n).getD j 0:Nat):Int)+1) j),iI ((fun j=>Zh r n ((fl r n n).getD j 0)-((fl r n n).getD j 0:Nat)-1) j)]) none)) at t2;generalize (fun j=>r ((fl r n n).getD j 0))=a at *
  generalize (fun j=>(((fl r n n).getD j 0:Nat):Int)+1)=b at *
  generalize (fun j=>Zh r n ((fl r n n).getD j 0)-((fl r n n).getD j 0:Nat)-1)=d at *
  generalize (fl r n n).length=m at *
  refine qJ qv q9 (K:=K3 p p2 l a b d m) (qq (qq (qq qf (qj hp)) (qj hp2)) (qj hl)) (A:=A18) (m:=0) (by kernel_rfl) (qK hl3) ?_;refine Eq.trans (show QB P18 G18 A18 (K3 p p2 l a b d m) 0 3 [(8,qE (v3 a b d m 0) [] (.exit 0) [.undef] [])] [qB r n c] =
( bif decide (60<ofNat n) then some (.bool true) else
 gD (qF (p [qB r n c] (T.view 3 m (fun j=>[uI (a j),iI (b j),iI (d j)]) (some m)).new))<|gD (qF (p2 [qB r n c] (T.view 3 m (fun j=>[uI (a j),iI (b j),iI (d j)])
 none).new))<|bif !decide (ofNat m=ofNat m) then some (.bool false) else
 bif !decide (ofNat m=ofNat m) then some (.bool false) else
 gD (qS (v3 a b d m (0:Int)) [] (v3 a b d m (0:Int)) [])<|gD (qF (l [] (.bool true)))<|some (.bool true)) from by kernel_rfl) ?_
  refine BF ?_;refine qm (qp hp t1) ?_;refine qm (qp hp2 t2) ?_;refine qZ (by simp) ?_;refine qZ (by simp) ?_;refine qm (qw ⟨rfl,.refl _⟩) ?_;exact qm (qp hl Yf) rfl
def ZP(r w:Nat->Int):Nat->Nat->Int
 |0,_=>0
 |m+1,a=>chg (r a) (w a)+ZP r w m (a+1)
def YW(most:Int)(w:Nat->Int):Nat->Nat->PS->Bool
 |0,_,_=>true
 |m+1,a,s=>s.ok most (w a)&&YW most w m (a+1) (s.nx (w a))
def wb(lo hi:Int)(n b j:Nat):Int:=if b.testBit (n-1-j)=true then hi else lo
theorem qaS{r w v:Nat->Int}:∀{m a:Nat},(∀j,a<=j->j<a+m->w j=v j)->ZP r w m a=ZP r v m a
 |0,_,_=>rfl
 |m+1,a,h=>by
  unfold ZP;rw[h a (Nat.le_refl _) (by omega),qaS fun j h1 h2=>h j (by omega) (by omega)]
theorem kH{most:Int}{w v:Nat->Int}:∀{m a:Nat} {s:PS},(∀j,a<=j->j<a+m->w j=v j)->YW most w m a s=YW most v m a s
 |0,_,_,_=>rfl
 |m+1,a,s,h=>by
  unfold YW;rw[h a (Nat.le_refl _) (by omega),kH fun j h1 h2=>h j (by omega) (by omega)]
theorem qjp(lo hi:Int){n m a b j:Nat}(ha:a+(m+1)=n)(hj:a+1<=j)(hj2:j<n):wb lo hi n (2 ^ m+b) j=wb lo hi n b j:=by
 unfold wb;by_cases q:n-1-j<m
 ·rw[Nat.testBit_two_pow_add_gt q]
 ·omega
theorem qao(lo hi:Int){n m a b:Nat}(ha:a+(m+1)=n)(hb:b<2 ^ m):wb lo hi n b a=lo/\wb lo hi n (2 ^ m+b) a=hi:=by
 unfold wb;have e:n-1-a=m:=by omega
 have h1:b.testBit m=false:=Nat.testBit_lt_two_pow hb;constructor
 ·rw[e,h1];simp
 ·rw[e,Nat.testBit_two_pow_add_eq,h1];simp
section
variable {r:Nat->Int} {n:Nat} {cs:Nat->Int} {most:Int}
def Fol(r:Nat->Int)(n:Nat)(cs:Nat->Int)(most:Int)(w:Nat->Int):Nat->Nat->PS->Prop
 |0,_,_=>True
 |m+1,a,s=>w a=cs (qcw r n cs 2 most a s)/\Fol r n cs most w m (a+1) (s.nx (w a))
theorem Fol.congr{w v:Nat->Int}:∀{m a:Nat} {s:PS},(∀j,a<=j->j<a+m->w j=v j)->Fol r n cs most v m a s->Fol r n cs most w m a s
 |0,_,_,_,_=>trivial
 |m+1,a,s,h,hf=>by
  have e:=h a (Nat.le_refl _) (by omega);refine⟨e.trans hf.1,?_⟩;rw[e];exact Fol.congr (fun j h1 h2=>h j (by omega) (by omega)) hf.2
theorem qjq(i:Nat)(s:PS):qcw r n cs 2 most i s=if qa8 r n cs 2 most i s (cs 0)=true then 0 else if qa8 r n cs 2 most i s (cs 1)=true then 1 else 2:=rfl
theorem qap:∀m a s,a+m=n->PlS cs 2 a s->∃b0,b0<2 ^ m/\Fol r n cs most (wb (cs 0) (cs 1) n b0) m a s/\YW most (wb (cs 0) (cs 1) n b0) m a s=true/\ZP r (wb (cs 0) (cs 1) n b0) m a=lk r n cs 2 most m s ∧
 ∀b,b<2 ^ m->YW most (wb (cs 0) (cs 1) n b) m a s=true->lk r n cs 2 most m s<=ZP r (wb (cs 0) (cs 1) n b) m a/\(b<b0->lk r n cs 2 most m s<ZP r (wb (cs 0) (cs 1) n b) m a)
 |0,a,s,_,_=>⟨0,by simp,trivial,rfl,rfl,fun b hb _=>⟨Int.le_refl _,fun h=>by omega⟩⟩
 |m+1,a,s,ha,hs=>by
  have hx:=qbi (r:=r) (n:=n) (most:=most) (i:=a) (by omega:1<=2) (by omega) hs;have e1:n-(a+1)=m:=by omega
  have e2:n-a=m+1:=by omega
  obtain⟨c0,p1,p2,p3,p4,p5⟩:=qap m (a+1) (s.nx (cs 0)) (by omega) (.inl (hs.nx (by omega)));obtain⟨c1,q1,q2,q3,q4,q5⟩:=qap m (a+1) (s.nx (cs 1)) (by omega) (.inl (hs.nx (by omega)));have l0:s.ok most (cs 0)=true->lk r n cs 2 most (m+1) s<=lk r n cs 2 most m (s.nx (cs 0))+chg (r a) (cs 0):=fun h=>by
   have:=qcx (r:=r) (n:=n) (lk r n cs 2 most m) (n-(m+1)) s 2 0 (by omega) h;rw[show n-(m+1)=a by omega] at this;show lkB r n cs most (lk r n cs 2 most m) (n-(m+1)) s 2<=_;rw[show n-(m+1)=a by omega];exact this
  have l1:s.ok most (cs 1)=true->lk r n cs 2 most (m+1) s<=lk r n cs 2 most m (s.nx (cs 1))+chg (r a) (cs 1):=fun h=>by
   have:=qcx (r:=r) (n:=n) (lk r n cs 2 most m) (n-(m+1)) s 2 1 (by omega) h;rw[show n-(m+1)=a by omega] at this;show lkB r n cs most (lk r n cs 2 most m) (n-(m+1)) s 2<=_;rw[show n-(m+1)=a by omega];exact this
  have low:∀b,b<2 ^ m->ZP r (wb (cs 0) (cs 1) n b) (m+1) a=chg (r a) (cs 0)+ZP r (wb (cs 0) (cs 1) n b) m (a+1)/\(YW most (wb (cs 0) (cs 1) n b) (m+1) a s=true↔s.ok most (cs 0)=true/\YW most (wb (cs 0) (cs 1) n b) m (a+1) (s.nx (cs 0))=true):=fun b hb=>by
   have h:=(qao (cs 0) (cs 1) ha hb).1;constructor
   ·show chg (r a) (wb (cs 0) (cs 1) n b a)+_=_;rw[h]
   ·show(s.ok most (wb (cs 0) (cs 1) n b a)&&YW most (wb (cs 0) (cs 1) n b) m (a+1) (s.nx (wb (cs 0) (cs 1) n b a)))=true↔_;rw[h,Bool.and_eq_true]
  have high:∀b,b<2 ^ m->ZP r (wb (cs 0) (cs 1) n (2 ^ m+b)) (m+1) a=chg (r a) (cs 1)+ZP r (wb (cs 0) (cs 1) n b) m (a+1)/\(YW most (wb (cs 0) (cs 1) n (2 ^ m+b)) (m+1) a s=true↔s.ok most (cs 1)=true/\YW most (wb (cs 0) (cs 1) n b) m (a+1) (s.nx (cs 1))=true):=fun b hb=>by
   have h:=(qao (cs 0) (cs 1) ha hb).2;have hc:∀j,a+1<=j->j<a+1+m->wb (cs 0) (cs 1) n (2 ^ m+b) j=wb (cs 0) (cs 1) n b j:=fun j h1 h2=>qjp _ _ ha h1 (by omega);constructor
   ·show chg (r a) (wb (cs 0) (cs 1) n (2 ^ m+b) a)+ZP r (wb (cs 0) (cs 1) n (2 ^ m+b)) m (a+1)=_;rw[h,qaS hc]
   ·show(s.ok most (wb (cs 0) (cs 1) n (2 ^ m+b) a)&&YW most (wb (cs 0) (cs 1) n (2 ^ m+b)) m (a+1) (s.nx (wb (cs 0) (cs 1) n (2 ^ m+b) a)))=true↔_;rw[h,Bool.and_eq_true,kH hc]
  have part:∀b,b<2 ^ (m+1)->b<2 ^ m∨∃b',b'<2 ^ m/\b=2 ^ m+b':=fun b hb=>by
   rw[Nat.pow_succ] at hb;rcases Nat.lt_or_ge b (2 ^ m) with h|h
   ·exact .inl h
   ·exact .inr ⟨b-2 ^ m,by omega,by omega⟩
  have hpw:2 ^ (m+1)=2 ^ m+2 ^ m:=by rw[Nat.pow_succ];omega
  rw[qjq] at hx;by_cases t0:qa8 r n cs 2 most a s (cs 0)=true
  ·have hc0:qcw r n cs 2 most a s=0:=by rw[qjq,if_pos t0]
   unfold qa8 at t0;rw[e1,e2,Bool.and_eq_true,decide_eq_true_eq] at t0;obtain⟨t1,t2⟩:=t0;refine⟨c0,by omega,⟨?_,?_⟩,?_,?_,fun b hb hadm=>?_⟩
   ·rw[(qao (cs 0) (cs 1) ha p1).1,hc0]
   ·rw[(qao (cs 0) (cs 1) ha p1).1];exact p2
   ·exact(low c0 p1).2.2 ⟨t1,p3⟩
   ·rw[(low c0 p1).1,p4];omega
   ·rcases part b hb with h|⟨b',h,rfl⟩
    ·obtain⟨_,h2⟩:=(low b h).2.1 hadm;have:=p5 b h h2;rw[(low b h).1];refine⟨by omega,fun h3=>?_⟩;have:=this.2 h3;omega
    ·obtain⟨h1,h2⟩:=(high b' h).2.1 hadm;have:=q5 b' h h2;have:=l1 h1;rw[(high b' h).1];exact⟨by omega,fun h3=>by omega⟩
  ·rw[if_neg t0] at hx;have t1:qa8 r n cs 2 most a s (cs 1)=true:=by
    by_cases q:qa8 r n cs 2 most a s (cs 1)=true
    ·exact q
    ·rw[if_neg q] at hx;omega
   have hc1:qcw r n cs 2 most a s=1:=by rw[qjq,if_neg t0,if_pos t1]
   unfold qa8 at t0 t1;rw[e1,e2,Bool.and_eq_true,decide_eq_true_eq] at t0 t1;obtain⟨t1,t2⟩:=t1;refine⟨2 ^ m+c1,by omega,⟨?_,?_⟩,?_,?_,fun b hb hadm=>?_⟩
   ·rw[(qao (cs 0) (cs 1) ha q1).2,hc1]
   ·rw[(qao (cs 0) (cs 1) ha q1).2];exact Fol.congr (fun j h1 h2=>qjp _ _ ha h1 (by omega)) q2
   ·exact(high c1 q1).2.2 ⟨t1,q3⟩
   ·rw[(high c1 q1).1,q4];omega
   ·rcases part b hb with h|⟨b',h,rfl⟩
    ·obtain⟨h1,h2⟩:=(low b h).2.1 hadm;have:=p5 b h h2;have:=l0 h1;have hne:lk r n cs 2 most m (s.nx (cs 0))+chg (r a) (cs 0)≠lk r n cs 2 most (m+1) s:=fun h3=>t0 ⟨h1,h3⟩;rw[(low b h).1];exact⟨by omega,fun _=>by omega⟩
    ·obtain⟨h1,h2⟩:=(high b' h).2.1 hadm;have:=q5 b' h h2;rw[(high b' h).1];refine⟨by omega,fun h3=>?_⟩;have:=this.2 (by omega);omega
theorem qhD(w:Nat->Int):∀m a,a+m=n->Fol r n cs most w m a (psL r n cs 2 most a)->∀j,a<=j->j<n->w j=wvL r n cs 2 most j
 |0,a,ha,_,j,h1,h2=>by omega
 |m+1,a,ha,hf,j,h1,h2=>by
  have e:w a=wvL r n cs 2 most a:=hf.1;rcases Nat.lt_or_ge a j with q|q
  ·have h:=hf.2;rw[hf.1] at h;exact qhD w m (a+1) (by omega) h j q h2
  ·obtain rfl:a=j:=by omega
   exact e
end
def lgF(d:Nat->Int):Nat->Int
 |0=>0
 |i+1=>bif decide (lgF d i<d i) then d i else lgF d i
def flD(r:Nat->Int)(n j:Nat):Int:=Zh r n ((fl r n n).getD j 0)-((fl r n n).getD j 0:Nat)-1
def qY(r:Nat->Int)(n:Nat):Int:=lgF (flD r n) (fl r n n).length
theorem qjr(d:Nat->Int)(most:Int)(hm:0<=most):∀m,lgF d m<=most↔∀i,i<m->d i<=most
 |0=>⟨fun _ i h=>by omega,fun _=>hm⟩
 |m+1=>by
  have ih:=qjr d most hm m;unfold lgF;by_cases q:lgF d m<d m
  ·rw[dT q,cond_true];constructor
   ·intro h i hi;by_cases q2:i=m
    ·rw[q2];exact h
    ·exact ih.1 (by omega) i (by omega)
   ·intro h;exact h m (by omega)
  ·rw[dF q,cond_false,ih];constructor
   ·intro h i hi;by_cases q2:i=m
    ·have:=ih.2 h;rw[q2];omega
    ·exact h i (by omega)
   ·intro h i hi;exact h i (by omega)
theorem qjs{r:Nat->Int}{n m k:Nat}:k∈fl r n m↔k<m/\(k:Int)+1<Zh r n k:=by
 unfold fl;rw[List.mem_filter,List.mem_range,decide_eq_true_eq]
theorem qcA(r:Nat->Int)(n:Nat)(most:Int)(hm:0<=most):qY r n<=most↔∀k,k<n->(k:Int)+1<Zh r n k->Zh r n k-k-1<=most:=by
 unfold qY;rw[qjr _ _ hm];constructor
 ·intro h k hk hf;obtain⟨i,hi,he⟩:=List.mem_iff_getElem.1 (qjs.2 ⟨hk,hf⟩);have:=h i hi;unfold flD at this;rw[List.getD_eq_getElem?_getD,List.getElem?_eq_getElem hi,Option.getD_some,he] at this;exact this
 ·intro h i hi;have hmem:(fl r n n)[i]∈fl r n n:=List.getElem_mem _;have:=qjs.1 hmem;unfold flD;rw[List.getD_eq_getElem?_getD,List.getElem?_eq_getElem hi,Option.getD_some];exact h _ this.1 this.2
def stW(w:Nat->Int):Nat->PS
 |0=>⟨0,0,false⟩
 |p+1=>(stW w p).nx (w p)
theorem qfX(most:Int)(w:Nat->Int):∀m a,YW most w m a (stW w a)=true↔∀p,a<=p->p<a+m->(stW w p).ok most (w p)=true
 |0,a=>⟨fun _ p h1 h2=>by omega,fun _=>rfl⟩
 |m+1,a=>by
  have ih:=qfX most w m (a+1);unfold YW;rw[Bool.and_eq_true];change _/\YW most w m (a+1) (stW w (a+1))=true↔_;rw[ih];constructor
  ·rintro⟨h1,h2⟩ p h3 h4;by_cases q:p=a
   ·rw[q];exact h1
   ·exact h2 p (by omega) (by omega)
  ·intro h;exact⟨h a (Nat.le_refl _) (by omega),fun p h1 h2=>h p (by omega) (by omega)⟩
structure StI(w:Nat->Int)(p:Nat)(R:Nat):Prop where
 c:(stW w p).c=w (p-1)
 run:(stW w p).run=R
 r1:1<=R
 rp:R<=p
 same:∀j,p-R<=j->j<p->w j=w (p-1)
 inn:(R=p/\(stW w p).inn=false)∨(R<p/\w (p-R-1)≠w (p-1)/\(stW w p).inn=true)
theorem stI(w:Nat->Int):∀p,1<=p->∃R,StI w p R
 |0,h=>by omega
 |1,_=>⟨1,rfl,rfl,Nat.le_refl _,Nat.le_refl _,fun j _ h=>by rw[show j=0 by omega],.inl ⟨rfl,rfl⟩⟩
 |p+2,_=>by
  obtain⟨R,h⟩:=stI w (p+1) (by omega);have hc:=h.c;have hr:=h.run;have h1:=h.r1;have hrp:=h.rp;have es:stW w (p+2)=(stW w (p+1)).nx (w (p+1)):=rfl;have e0:decide ((stW w (p+1)).run=0)=false:=by rw[hr];exact decide_eq_false (by omega)
  rw[show p+1-1=p by omega] at hc;by_cases q:w p=w (p+1)
  ·have e1:decide ((stW w (p+1)).c=w (p+1))=true:=by rw[hc];exact decide_eq_true q
   refine⟨R+1,?_,?_,by omega,by omega,fun j h2 h3=>?_,?_⟩
   ·rw[es];rfl
   ·rw[es];show nK _ _ _=_;unfold nK;rw[e0,cond_false,e1,cond_true,hr];omega
   ·rw[show p+2-1=p+1 by omega];by_cases q2:j=p+1
    ·rw[q2]
    ·rw[←q];have:=h.same j (by omega) (by omega);rw[show p+1-1=p by omega] at this;exact this
   ·have ei:(stW w (p+2)).inn=(stW w (p+1)).inn:=by
     rw[es];show nI _ _ _ _=_;unfold nI;rw[e0,cond_false,e1,cond_true]
    rw[ei];rcases h.inn with⟨g1,g2⟩|⟨g1,g2,g3⟩
    ·exact .inl ⟨by omega,g2⟩
    ·refine .inr ⟨by omega,?_,g3⟩;rw[show p+2-(R+1)-1=p+1-R-1 by omega,show p+2-1=p+1 by omega,←q];rw[show p+1-1=p by omega] at g2;exact g2
  ·have e1:decide ((stW w (p+1)).c=w (p+1))=false:=by rw[hc];exact decide_eq_false q
   refine⟨1,?_,?_,Nat.le_refl _,by omega,fun j h2 h3=>by rw[show j=p+1 by omega];rfl,.inr ⟨by omega,?_,?_⟩⟩
   ·rw[es];rfl
   ·rw[es];show nK _ _ _=_;unfold nK;rw[e0,cond_false,e1,cond_false];rfl
   ·rw[show p+2-1-1=p by omega,show p+2-1=p+1 by omega];exact q
   ·rw[es];show nI _ _ _ _=_;unfold nI;rw[e0,cond_false,e1,cond_false]
theorem ZE(w:Nat->Int)(n:Nat)(lo hi:Int)(most:Int)(hm:0<=most)(hw:∀j,j<n->w j=lo∨w j=hi) :
 YW most w n 0 ⟨0,0,false⟩ = true↔qY w n<=most:=by
 rw[qcA _ _ _ hm];have hk:=qfX most w n 0;change YW most w n 0 ⟨0,0,false⟩ = true↔_ at hk;rw[hk];constructor
 ·intro h k hk hf;rw[JN] at hf ⊢;by_cases q:sI w n k<n
  ·rw[if_pos q] at hf ⊢;have hne:=qbh w (w k) (n-(k+1)) (k+1);have heq:=qeH w (w k) (n-(k+1)) (k+1);change ∀j,k+1<=j->j<sI w n k->w j≠w k at hne;change sI w n k<_->w (sI w n k)=w k at heq;have heq:=heq (by omega);generalize sI w n k=J at *
   obtain⟨R,hI⟩:=stI w J (by omega);have ho:=h J (Nat.zero_le _) (by omega);have h1:=hne (J-1) (by omega) (by omega);have hrp:=hI.rp;have hr1:=hI.r1;have e:R=J-1-k:=by
    rcases Nat.lt_trichotomy R (J-1-k) with g|g|g
    ·exfalso;rcases hI.inn with⟨g1,_⟩|⟨_,g2,_⟩
     ·omega
     ·have h2:=hne (J-R-1) (by omega) (by omega);rcases hw (J-R-1) (by omega) with a|a<;>rcases hw (J-1) (by omega) with b|b<;>rcases hw k hk with c|c<;>rw[a,b] at g2<;>rw[a,c] at h2<;>rw[b,c] at h1<;>first|exact g2 rfl|exact h2 rfl|exact h1 rfl
    ·exact g
    ·exfalso;have:=hI.same k (by omega) (by omega);exact h1 this.symm
   have hin:(stW w J).inn=true:=by
    rcases hI.inn with⟨g1,_⟩|⟨_,_,g3⟩
    ·omega
    ·exact g3
   unfold PS.ok nO at ho;rw[hI.run,decide_eq_false (by omega),cond_false,hI.c,heq,decide_eq_false h1,cond_false,hin,cond_true,decide_eq_true_eq] at ho;omega
  ·rw[if_neg q] at hf;omega
 ·intro h p _ hp;rcases Nat.eq_zero_or_pos p with q|q
  ·subst q;rfl
  ·obtain⟨R,hI⟩:=stI w p q;have hrp:=hI.rp;have hr1:=hI.r1;unfold PS.ok nO;rw[hI.run,decide_eq_false (by omega),cond_false,hI.c];by_cases q2:w (p-1)=w p
   ·rw[decide_eq_true q2,cond_true]
   ·rw[decide_eq_false q2,cond_false];rcases hI.inn with⟨_,g2⟩|⟨g1,g2,g3⟩
    ·rw[g2,cond_false]
    ·rw[g3,cond_true,decide_eq_true_eq];have hk2:p-R-1<n:=by omega
     have e:w p=w (p-R-1):=by
      rcases hw p (by omega) with a|a<;>rcases hw (p-1) (by omega) with b|b<;>rcases hw (p-R-1) hk2 with c|c<;>rw[b,a] at q2<;>rw[c,b] at g2<;>first|(rw[a,c];done)|exact absurd rfl q2|exact absurd rfl g2
     have hs:sI w n (p-R-1)=p:=by
      have hge:=KW w (w (p-R-1)) (n-(p-R-1+1)) (p-R-1+1);have hne:=qbh w (w (p-R-1)) (n-(p-R-1+1)) (p-R-1+1);have heq:=qeH w (w (p-R-1)) (n-(p-R-1+1)) (p-R-1+1);unfold sI;generalize Ya w (w (p-R-1)) (n-(p-R-1+1)) (p-R-1+1)=J at *
      rcases Nat.lt_trichotomy J p with g|g|g
      ·exfalso;have h1:=heq (by omega);have h2:=hI.same J (by omega) g;exact g2 (by rw[←h1,h2])
      ·exact g
      ·exfalso;exact hne p (by omega) g e
     have hh:=h (p-R-1) hk2;have hp2:p<n:=by omega
     rw[JN,hs,if_pos hp2] at hh;have:=hh (by omega);omega
end Go.Ab

