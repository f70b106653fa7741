/- A part of the proof: nothing is assumed. -/
import Derived.Test.YtifccdcnhibceaaGreatDoorP4
import Derived.Test.YtifccdcnhibceaaGreatDoorP5
import Derived.Test.YtifccdcnhibceaaGreatDoorP3
import Derived.Test.YtifccdcnhibceaaGreatDoorP2
set_option linter.all false
namespace Go.Ab
open IntKind(i64 u8)
open Int(ofNat)
open Go.Proofs
set_option maxHeartbeats 1000000
set_option maxRecDepth 100000
def RB(a b)(s):∀(l:List aU) (p:List aU×Bool),((l.foldl (fE a b s) p).1).length+(if (l.foldl (fE a b s) p).2 then 0 else 1)<=p.1.length+(if p.2 then 0 else 1)+l.length
 |[],p=>wc _
 |x::l,p=>by
  have d:=RB a b s l (fE a b s p x);grind[KI,fE]
def qeU(a b)(s)(p):(jF a b s p).length=p.1.length+(if p.2 then 0 else 1):=by
 unfold jF;cases p.2<;>simp
def qiX(l)(a b)(s):(Z0 l a b s).length<=l.length+1:=by
 unfold Z0;cases Ce a b
 .rw[wq,qeU];have:=RB a b s l ([],false);grind
 .rw[wp,qeU];have:=RB b a s l ([],false);grind
def fo{α}(f:List aU->α->List aU)(l:List α)(c:List aU)(i:Nat):List aU:=(l.take i).foldl f c
def HI{α:Type}(f:List aU->α->List aU)(l)(c:List aU)(d:α){i:Nat}(h:i<l.length):fo f l c (i+1)=f (fo f l c i) (l.getD i d):=by
 unfold fo;rw[zC l d h,xC];rfl
def jH{α}(f)(l:List α)(c:List aU):fo f l c l.length=l.foldl f c:=by
 unfold fo;rw[xh]
def KK{α:Type}(f:List aU->α->List aU)(l)(c:List aU)(N:Nat)(h:∀c x,x∈l->(f c x).length<=c.length+N)(d:α):∀i,i<=l.length->(fo f l c i).length<=c.length+N*i
 |0,_=>by grind[fo]
 |i+1,e=>by
  have a:=KK f l c N h d i ab;rw[HI f l c d ab];have:=h (fo f l c i) (l.getD i d) (Z1 ab);rw[Nat.mul_succ];omega
def fY(x:aw)(g:Int)(c:List aU)(y:aw):List aU:=Z0 c x y g
def Do(r:aB)(g:Int)(c:List aU)(x:aw):List aU:=r.l.foldl (fY x g) c
def AX(a:aB)(g:Int)(c:List aU)(r:aB):List aU:=a.l.foldl (Do r g) c
def AY(R:List aB)(g:Int)(c:List aU)(a:aB):List aU:=R.foldl (AX a g) c
def qdG(c:List aU)(L R)(g):Fy c L R g=L.foldl (AY R g) c:=by
 unfold Fy KJ AY AX Do fY;simp only[List.foldl_flatMap,List.foldl_map]
def qmX{x}{g}{c}{y}:(fY x g c y).length<=c.length+1:=qiX c x y g
def qmY{r:aB}{g:Int}{c}{x:aw}(h:r.l.length<=4):(Do r g c x).length<=c.length+4:=by
 unfold Do;rw[←jH];have:=KK (fY x g) r.l c 1 (λc y _=>qmX) bA r.l.length (wc _);omega
def qmZ{a r:aB}{g:Int}{c}(d:a.l.length<=4)(h:r.l.length<=4):(AX a g c r).length<=c.length+16:=by
 unfold AX;rw[←jH];have:=KK (Do r g) a.l c 4 (λc y _=>qmY h) bA a.l.length (wc _);omega
def qm0{a:aB}{R:List aB}{g}{c:List aU}(e:a.l.length<=4)(h:∀r∈R,r.l.length<=4)(hR:R.length<=4):(AY R g c a).length<=c.length+64:=by
 unfold AY;rw[←jH];have:=KK (AX a g) R c 16 (λc y d=>qmZ e (h y d)) aO R.length (wc _);omega
section
variable (s:am) (l:List aB) (a1 a2 a9 aL aK:T) (H:qa) (h0:qa)
def v5{i n}(h:i<n):(decide ((0:Int)<=ofNat i)&&decide (ofNat i<ofNat n))=true:=rx
def Dp{i n}(h:i<n):decide (ofNat i<ofNat n)=true:=wt bP
def Dq{i n}(h:n<=i):¬(decide (ofNat i<ofNat n)=true):=gW bP
def qxk(g:Int)(a b u:Nat)(I:a<l.length)(d:b<l.length)(D:u<(l.getD a aO).l.length)(J:∀x∈l,x.l.length<=4)(c:List aU)(N:c.length<=900000) :
 Pq 27 h0 [2,0,1,2,0,0,2,0,1,2,0,0,2,0,1,2,0,0,2,1,2,2,3,2,1,2,2,2,2,2,2,2,2,0,1,2,0,0,2,1,2,2,2,2,2,2,2] bG [a1,a2,aQ c,a9,aL,aK,.ag s.c,bQ l none,iI g,iI (ofNat a),iI (ofNat b),iI (ofNat u),iI (ofNat 0)] H .normal bV [a1,a2,aQ ((l.getD b aO).l.foldl (fY ((l.getD a aO).l.getD u bA) g) c),a9,aL,aK,.ag s.c,bQ l none,iI g,iI (ofNat a),iI (ofNat b),iI (ofNat u)] H:=by
 have run:=λ{p l o h C r M e} (k:cD 27 p l o h C=some (e,r,M))=>aP h0 k;obtain⟨p,j⟩:=qz au G16 56
 let x:=(l.getD a aO).l.getD u bA
 let L:=(l.getD b aO).l
 have O:L.length<=4:=J _ (Z1 d)
 let st:Nat->List aU:=fo (fY x g) L c
 let V:Nat->t7:=λy=>[a1,a2,aQ (st y),a9,aL,aK,.ag s.c,bQ l none,iI g,iI (ofNat a),iI (ofNat b),iI (ofNat u),iI (ofNat y)]
 have round:∀y,y<L.length->Pq 27 h0 [0,0,2,0,1,2,0,0,2,0,1,2,0,0,2,0,1,2,0,0,2,1,2,2,3,2,1,2,2,2,2,2,2,2,2,0,1,2,0,0,2,1,2,2,2,2,2,2,2] bG (V y) H .normal bG (V (y+1)) H:=λy f=>by
  have E:(st y).length<=1000000:=by
   have:=KK (fY x g) L c 1 (λc y _=>qmX) bA y ab;grind
  have t:=qol (st y) x (L.getD y bA) g E;have B:=run ((qxh s (st y) l a1 a2 a9 aL aK H g a b u y).trans (qj (v5 d) (qj (Dp f) rfl)));have A:=bR (qr qm (qn j)) h0 ((qxj p (st (y+1)) s (st y) l a1 a2 a9 aL aK H g a b u y).trans (qj (v5 I) (qj (v5 D) (qj (v5 d) (qj (v5 f) (qj (by
   show qx (p [aQ (st y),.agg x.c,.agg (L.getD y bA).c,iI g] (.new (aQ (fo (fY x g) L c (y+1)))))=true;rw[HI (fY x g) L c bA f];exact qu j t) rfl))))))
  have i:=run (qxi s (st (y+1)) l a1 a2 a9 aL aK H g a b u y);rw[dH ab] at i;exact ao B (ao (cO 11 A) i)
 have last:=run ((qtG s (st L.length) l a1 a2 a9 aL aK H g a b u L.length).trans (qj (v5 d) (qB (Dq (wc _)) rfl)));have lp:Pq 27 h0 [0,2,0,1,2,0,0,2,0,1,2,0,0,2,0,1,2,0,0,2,1,2,2,3,2,1,2,2,2,2,2,2,2,2,0,1,2,0,0,2,1,2,2,2,2,2,2,2] bG (V 0) H (.exit 10) bV [a1,a2,aQ (st L.length),a9,aL,aK,.ag s.c,bQ l none,iI g,iI (ofNat a),iI (ofNat b),iI (ofNat u)] H:=Pz.count qh V (λ_=>H) (n:=L.length) aq round (ed last);rw[show st L.length=L.foldl (fY x g) c from jH _ _ _] at lp;exact cO 10 lp
def qxl(g:Int)(a b:Nat)(d:a<l.length)(A:b<l.length)(i:∀x∈l,x.l.length<=4)(c:List aU)(N:c.length<=800000) :
 Pq 27 h0 [0,1,2,0,0,2,0,1,2,0,0,2,1,2,2,3,2,1,2,2,2,2,2,2,2,2,0,1,2,0,0,2,1,2,2,2,2,2,2,2] bX [a1,a2,aQ c,a9,aL,aK,.ag s.c,bQ l none,iI g,iI (ofNat a),iI (ofNat b)] H .normal bX [a1,a2,aQ (AX (l.getD a aO) g c (l.getD b aO)),a9,aL,aK,.ag s.c,bQ l none,iI g,iI (ofNat a),iI (ofNat b)] H:=by
 have run:=λ{p l B h I C M e} (k:cD 27 p l B h I=some (e,C,M))=>aP h0 k
 let L:=(l.getD a aO).l
 let r:=l.getD b aO
 have hr:r.l.length<=4:=i _ (Z1 A);have O:L.length<=4:=i _ (Z1 d)
 let st:Nat->List aU:=fo (Do r g) L c
 let V:Nat->t7:=λu=>[a1,a2,aQ (st u),a9,aL,aK,.ag s.c,bQ l none,iI g,iI (ofNat a),iI (ofNat b),iI (ofNat u)]
 have round:∀u,u<L.length->Pq 27 h0 [0,0,2,0,1,2,0,0,2,0,1,2,0,0,2,1,2,2,3,2,1,2,2,2,2,2,2,2,2,0,1,2,0,0,2,1,2,2,2,2,2,2,2] bV (V u) H .normal bV (V (u+1)) H:=λu f=>by
  have J:(st u).length<=900000:=by
   have:=KK (Do r g) L c 4 (λc y _=>qmY hr) bA u ab;grind
  have E:=run ((qxe s (st u) l a1 a2 a9 aL aK H g a b u).trans (qj (v5 d) (qj (Dp f) rfl)));have D:=run (qxg s (st u) l a1 a2 a9 aL aK H g a b u);have o:=qxk s l a1 a2 a9 aL aK H h0 g a b u d A f i (st u) J;have e:st (u+1)=(l.getD b aO).l.foldl (fY ((l.getD a aO).l.getD u bA) g) (st u):=HI (Do r g) L c bA f;rw[←e] at o;have j:=run (qxf s (st (u+1)) l a1 a2 a9 aL aK H g a b u);rw[dH ab] at j;exact ao E (ao (cO 9 (ao D o)) j)
 have last:=run ((qtF s (st L.length) l a1 a2 a9 aL aK H g a b L.length).trans (qj (v5 d) (qB (Dq (wc _)) rfl)));have lp:Pq 27 h0 [0,2,0,1,2,0,0,2,0,1,2,0,0,2,1,2,2,3,2,1,2,2,2,2,2,2,2,2,0,1,2,0,0,2,1,2,2,2,2,2,2,2] bV (V 0) H (.exit 8) bX [a1,a2,aQ (st L.length),a9,aL,aK,.ag s.c,bQ l none,iI g,iI (ofNat a),iI (ofNat b)] H:=Pz.count qh V (λ_=>H) (n:=L.length) aq round (ed last);rw[show st L.length=AX (l.getD a aO) g c (l.getD b aO) from jH _ _ _] at lp;exact ao (run (qxd s c l a1 a2 a9 aL aK H g a b)) (cO 8 lp)
def qxm(g:Int)(a A B:Nat)(C:s.a=(A:Int))(hB:s.b=(B:Int))(W:l.length=A+B)(hn:A+B<=4)(Y:a<A)(j:∀x∈l,x.l.length<=4)(c:List aU)(X:c.length<=700000) :
 Pq 27 h0 [0,1,2,0,0,2,1,2,2,3,2,1,2,2,2,2,2,2,2,2,0,1,2,0,0,2,1,2,2,2,2,2,2,2] b4 [a1,a2,aQ c,a9,aL,aK,.ag s.c,bQ l none,iI g,iI (ofNat a)] H .normal b4 [a1,a2,aQ (AY (l.drop A) g c (l.getD a aO)),a9,aL,aK,.ag s.c,bQ l none,iI g,iI (ofNat a)] H:=by
 have run:=λ{p l E h N I P e} (k:cD 27 p l E h N=some (e,I,P))=>aP h0 k
 let R:=l.drop A
 have hR:R.length=B:=by grind
 have Q:∀i,i<B->R.getD i aO=l.getD (A+i) aO:=λi u=>by show(l.drop A).getD i aO=_;rw[wg,wg,vK]
 have J:∀x∈R,x.l.length<=4:=λx hx=>j x (uj hx);have U:=j _ (Z1 (d:=aO) (l:=l) (i:=a) ab)
 let st:Nat->List aU:=fo (AX (l.getD a aO) g) R c
 let V:Nat->t7:=λi=>[a1,a2,aQ (st i),a9,aL,aK,.ag s.c,bQ l none,iI g,iI (ofNat a),iI (ofNat (A+i))]
 have f:i64.wrap (s.a+s.b)=ofNat (A+B):=by rw[C,hB,Qv ab ab];rfl
 have round:∀i,i<B->Pq 27 h0 [0,0,2,0,1,2,0,0,2,1,2,2,3,2,1,2,2,2,2,2,2,2,2,0,1,2,0,0,2,1,2,2,2,2,2,2,2] bX (V i) H .normal bX (V (i+1)) H:=λi u=>by
  have M:(st i).length<=800000:=by
   have:=KK (AX (l.getD a aO) g) R c 16 (λc y O=>qmZ U (J y O)) aO i ab;grind
  have L:=run ((qxb s (st i) l a1 a2 a9 aL aK H g a (A+i)).trans (qj (by rw[f];grind) rfl));have r:=qxl s l a1 a2 a9 aL aK H h0 g a (A+i) ab ab j (st i) M;have e:st (i+1)=AX (l.getD a aO) g (st i) (l.getD (A+i) aO):=by
   have:=HI (AX (l.getD a aO) g) R c aO (i:=i) ab;rw[Q i u] at this;omega
  rw[←e] at r;have o:=run (qxc s (st (i+1)) l a1 a2 a9 aL aK H g a (A+i));rw[dH ab] at o;exact ao L (ao (cO 7 r) o)
 have last:=run ((qtE s (st B) l a1 a2 a9 aL aK H g a (A+B)).trans (qB (by rw[f];grind) rfl));have lp:Pq 27 h0 [0,2,0,1,2,0,0,2,1,2,2,3,2,1,2,2,2,2,2,2,2,2,0,1,2,0,0,2,1,2,2,2,2,2,2,2] bX (V 0) H (.exit 6) b4 [a1,a2,aQ (st B),a9,aL,aK,.ag s.c,bQ l none,iI g,iI (ofNat a)] H:=Pz.count qh V (λ_=>H) (n:=B) aq round (ed last);have S:st B=AY (l.drop A) g c (l.getD a aO):=by rw[←hR];exact jH _ _ _
 rw[S] at lp;have D:=run (qxa s c l a1 a2 a9 aL aK H g a);rw[C] at D;exact ao D (cO 6 lp)
def qxn(g:Int)(A B:Nat)(f:s.a=(A:Int))(hB:s.b=(B:Int))(O:l.length=A+B)(hn:A+B<=4)(j:∀x∈l,x.l.length<=4)(c:List aU)(U:c.length<=600000) :
 Pq 27 h0 [1,2,2,3,2,1,2,2,2,2,2,2,2,2,0,1,2,0,0,2,1,2,2,2,2,2,2,2] ea [a1,a2,aQ c,a9,aL,aK,.ag s.c,bQ l none,iI g] H .normal bf [a1,a2,aQ (Fy c (l.take A) (l.drop A) g),a9,aL,aK,.ag s.c,bQ l none] H:=by
 have run:=λ{p l u h M C Q e} (k:cD 27 p l u h M=some (e,C,Q))=>aP h0 k
 let L:=l.take A
 have P:L.length=A:=by grind
 have R:∀i,i<A->L.getD i aO=l.getD i aO:=λi d=>by show(l.take A).getD i aO=_;rw[wg,wg,vG d]
 have D:∀x∈l.drop A,x.l.length<=4:=λx hx=>j x (uj hx);have J:∀x∈L,x.l.length<=4:=λx hx=>j x (ug hx)
 let st:Nat->List aU:=fo (AY (l.drop A) g) L c
 let V:Nat->t7:=λi=>[a1,a2,aQ (st i),a9,aL,aK,.ag s.c,bQ l none,iI g,iI (ofNat i)]
 have round:∀i,i<A->Pq 27 h0 [0,0,2,1,2,2,3,2,1,2,2,2,2,2,2,2,2,0,1,2,0,0,2,1,2,2,2,2,2,2,2] b4 (V i) H .normal b4 (V (i+1)) H:=λi d=>by
  have I:(st i).length<=700000:=by
   have:=KK (AY (l.drop A) g) L c 64 (λc y N=>qm0 (J y N) D (by rw[vv];omega)) aO i ab;grind
  have E:=run ((qw8 s (st i) l a1 a2 a9 aL aK H g i).trans (qj (by rw[f];grind) rfl));have r:=qxm s l a1 a2 a9 aL aK H h0 g i A B f hB O hn d j (st i) I;have e:st (i+1)=AY (l.drop A) g (st i) (l.getD i aO):=by
   have:=HI (AY (l.drop A) g) L c aO (i:=i) ab;rw[R i d] at this;omega
  rw[←e] at r;have o:=run (qw9 s (st (i+1)) l a1 a2 a9 aL aK H g i);rw[dH ab] at o;exact ao E (ao (cO 5 r) o)
 have last:=run ((qtD s (st A) l a1 a2 a9 aL aK H g A).trans (qB (by rw[f];grind) rfl));have lp:Pq 27 h0 [0,2,1,2,2,3,2,1,2,2,2,2,2,2,2,2,0,1,2,0,0,2,1,2,2,2,2,2,2,2] b4 (V 0) H (.exit 4) bf [a1,a2,aQ (st A),a9,aL,aK,.ag s.c,bQ l none] H:=Pz.count qh V (λ_=>H) (n:=A) aq round (ed last);have S:st A=Fy c (l.take A) (l.drop A) g:=by rw[qdG,←jH,P]
 rw[S] at lp;exact ao (run (qw7 s c l a1 a2 a9 aL aK H g)) (cO 4 lp)
end
def joB(v:Nat)(e:Int)(c:T)(d:Nat)(a:Nat->aw):ap:=bZ v 2 (λj=>[uI e,bif j==0 then c else aX a (d+1) none])
def HJ(v:Nat)(a:Int)(c g:T)(f:Nat)(d:Nat->aw):ap:=bZ v 2 (λe=>[uI (bif e==0 then a else a),bif e==0 then c else bif e==0 then g else aX d (f+1) none])
def joP(m d:Nat)(e a:Nat->aw):ap:=.mk 0 2 m (λj=>bif (0+m).ble j&&j.blt (0+m+(d+1)) then(a (j-(0+m))).c else(e j).c) true false none
def El(m d:Nat)(e a:Nat->aw):ap:=.mk 1 2 (m+(d+1)) (λj=>bif j.blt m then(e (0+j)).c else(a (j-m)).c) true false none
def qxo(k:Nat)(C:k<16)(o:ap)(X:Nat->ap)(e:ap)(f:Nat->ap)(v m a:Nat)(i d:Nat->aw)(j:Int)(B A x u r s g:T):cK (KG qt) 27 jr bf [B,A,x,u,r,s,g,.own 34 v 0 2 none] (Hq o (fX X k (iB m i)) e f [joB v j (.own (1+k) 0 0 m none) a d]) bf =
 (bif v==v&&true then bif v==v&&true then bif v==v&&true then bif v==v&&true then bif v==v&&true then bif v==v&&true then bif (0+m).ble m then bif ((m+(a+1))*17).ble 70368744177664 then bif (0+m+(a+1)).ble m then bif v==v&&true then bif v==v&&true then bif v==v&&true then some (.normal,[B,A,x,u,r,s,g,.own 34 v 0 2 none],(Hq o (fX X k (joP m a i d)) e f [HJ v j (.own (1+k) 0 0 (m+(a+1)) none) (.own (1+k) 0 0 m none) a d])) else none else none else none else bif v==v&&true then bif v==v&&true then bif v==v&&true then some (.normal,[B,A,x,u,r,s,g,.own 34 v 0 2 none],(Hq o (fX X k (El m a i d)) e f [HJ v j (.own (1+k) 1 0 (m+(a+1)) none) (.own (1+k) 0 0 m none) a d])) else none else none else none else none else none else none else none else none else none else none else none):=by
 cases Qb C
 all_goals kernel_rfl
def qxp(e:ap)(X:Nat->ap)(a:ap)(f:Nat->ap)(v:Nat)(g:Nat->t7)(s r o k i j d:T):cK (KG qt) 27 [2,3,2,1,2,2,2,2,2,2,2,0,1,2,0,0,2,1,2,2,2,2,2,2,2] bf [s,r,o,k,i,j,d,.own 34 v 0 2 none] (Hq e X a f [bZ v 2 g]) bf =
 (bif v==v&&true then some (.normal,[s,r,o,k,i,j,d,.own 34 v 0 1 none],(Hq e X a f [bZ v 2 g])) else none):=qh
def qxq(d:ap)(X:Nat->ap)(a:ap)(f:Nat->ap)(y:Int)(fr:Bool)(A B:Nat)(H:1<=A)(hB:1<=B)(hn:A+B<=4)(l:List aB)(s:l.length=A+B)(r o k i e g:T):cK (KG qt) 27 hS bf [r,o,k,i,e,g,.ag (am.mk 8 y (ofNat A) (ofNat B) fr).c,bQ l none] (Hq d X a f []) g6 =
 some (.normal,[r,o,k,i,e,g,.own 34 1 0 (0+B+A) none],Hq d X a f [.mk 1 2 (0+B+A) (λj=>bif j.blt (0+B) then(l.getD (A+(0+j)) aO).c else(l.getD (0+(j-(0+B))) aO).c) false false none]):=by
 have h:(A=1/\B=1)∨(A=1/\B=2)∨(A=1/\B=3)∨(A=2/\B=1)∨(A=2/\B=2)∨(A=3/\B=1):=by omega
 rcases h with⟨rfl,rfl⟩|⟨rfl,rfl⟩|⟨rfl,rfl⟩|⟨rfl,rfl⟩|⟨rfl,rfl⟩|⟨rfl,rfl⟩
 all_goals
  rcases l with _|⟨E,_|⟨D,_|⟨C,_|⟨x,_|⟨u,l⟩⟩⟩⟩⟩
  all_goals first|(exfalso;simp only[vc,vM] at s;omega)|(show _=_;kernel_rfl)
def Cj(n:Nat)(b:Nat->t7)(c:T)(j:Nat):t7:=bif j.blt n then b (0+j) else [[c]].getD (0+(j-n)) []
def ouP(n:Nat)(b:Nat->t7)(c:T)(j:Nat):t7:=bif (0+n).ble j&&j.blt (0+n+1) then [[c]].getD (0+(j-(0+n))) [] else b j
def qxr(d:ap)(X:Nat->ap)(f:Nat->ap)(n v e:Nat)(a:ap)(b:Nat->t7)(r o k i g:T):cK (KG qt) 27 ls g6 [r,o,k,i,.own 17 n 0 n none,g,.own 34 v 0 e none] (Hq d X (cR n b) f [a]) da =
 (bif n==n&&true then bif (0+n).ble n then bif ((n+1)*25).ble 70368744177664 then bif (0+n+1).ble n then some (.normal,[r,o,k,i,.own 17 n 0 (n+1) none,g],(Hq d X (.mk n 1 n (ouP n b (.own 34 v 0 e none)) false false none) f [a,.mk 0 1 1 (λj=>[[T.own 34 v 0 e none]].getD j []) false true none])) else some (.normal,[r,o,k,i,.own 17 (n+1) 0 (n+1) none,g],(Hq d X (cR (n+1) (Cj n b (.own 34 v 0 e none))) f [a,.mk 0 1 1 (λj=>[[T.own 34 v 0 e none]].getD j []) false true none])) else none else none else none):=qh
def pr3(q:t7->qa->T->qa->Prop)(w:bJ)(G:Nat->am)(n N:Nat)(b:ap)(X:Nat->ap)(y t:ap)(R:Nat->ap)(cr he fa:T)(d:Int):cK (qt.bW 22 (kH q λ_ _=>some (.agg [.own 0 N 0 N none,.own 17 6 0 6 none,.own 18 6 0 6 none,cr,he,fa,uI d],nv b X y t R []))) 27 dd eH [aN G n none,bu w] [] eH =
 (bif qx (q [.agg (w.cc none)] [] (.agg [.own 0 N 0 N none,.own 17 6 0 6 none,.own 18 6 0 6 none,cr,he,fa,uI d]) (nv b X y t R [])) then some (.normal,[aN G n none,.ag [.own 0 N 0 N none,.own 17 6 0 6 none,.own 18 6 0 6 none,cr,he,fa,uI d]],nv b X y t R []) else none):=qh
section
variable (w:bJ) (G:Nat->am) (A:Nat->Bool)
def dB:Nat->Nat
 |0=>0
 |i+1=>dB i+(G i).nN
def cP(j:Nat):List aB:=lI (G j) (fI (G j) (w.sl.drop (dB G j)))
def gT:Nat->List aU
 |0=>w.cr
 |i+1=>tH (G i) (fI (G i) (w.sl.drop (dB G i))) (gT i)
def gA(a j:Nat):T:=bif A j then(bif j.blt a then .undef else .own (1+j) 0 0 (bD w j).l.length none) else bB (bD w j).l
def XP(a k:Nat):ap:=.mk 0 2 (bif A k&&(!k.blt a&&k.blt w.sl.length) then(bD w k).l.length else 0) (λe=>((bD w k).l.getD e bA).c) true false none
def bS(j:Nat):Int:=(bD w j).b
def gv(d:Int)(a e:Nat):t7:=[uI d,gA w A a (a+e)]
def lN(a e:Nat):t7:=[iI (ofNat (bD w (a+e)).l.length)]
end
def qjV(g)(k){c:T}(h:g k=c):fC g k c=g:=funext λj=>by
 show(bif j==k then c else g j)=g j;grind
def RE(f)(k){b}(h:f k=b):fX f k b=f:=funext λj=>by
 show(bif j==k then b else f j)=f j;grind
def fw.mono{n m:Nat}{b}(h:fw n b)(hn:n<=m):fw m b:=by
 rcases h with h|h
 .exact .inl h
 .refine .inr λj a c d=>?_;have:=h j a c d;revert this;cases c<;>simp[cA]<;>omega
def ai.pre:∀(p:qa) {h h2:qa},ai h h2->ai (p++h) (p++h2)
 |[],_,_,a=>a
 |_::p,_,_,a=>.cons ⟨rfl,rfl,rfl,λh=>h,λ_ _=>rfl⟩ (ai.pre p a) rfl
def Zv(a)(X)(o)(f)(z):Hq a X o f z=Hq a X o f []++z:=rfl
def HK{n}{a}{X}{o}{f}(h1:fw n a)(h2:∀k,fw n (X k))(e:fw n o)(d:∀k,fw n (f k)):∀b∈Hq a X o f [],fw n b:=by
 refine vS.2 ⟨h1,?_⟩
 repeat (first|exact List.forall_mem_nil _|refine vS.2 ⟨h2 _,?_⟩|refine vS.2 ⟨e,?_⟩|refine vS.2 ⟨d _,?_⟩)
section
variable {w:bJ} {A:Nat->Bool}
def Mv{a j n:Nat}(h:1+j<n):cA n (gA w A a j)=true:=by
 unfold gA;cases A j with
 |true=>cases j.blt a with
  |true=>rfl
  |false=>show Nat.blt _ n=true;simp_all
 |false=>rfl
def KL{n a:Nat}(h:w.sl.length<n):fw n (fv w.sl.length (bS w) (gA w A a)):=.inr λj d c e=>by
 have d:j<w.sl.length:=d;rcases wJ.1 e with r|r
 .rw[r];rfl
 .rw[wL.1 r];exact Mv ab
def HL{n a k:Nat}:fw n (XP w A a k):=.inl rfl
def qq4(a m:Nat)(hN:w.sl.length<=16)(ham:a+m<=w.sl.length)(hm:m<=4)(d:am)(hl:∀j,j<w.sl.length->(bD w j).l.length<=1000)(C:ap)(f:Nat->ap)(ho:fw 36 C)(hf:∀k,fw 36 (f k))(B u o s:T)(l1:low 36 B=true)(l8:low 36 u=true)(l10:low 36 o=true)(l11:low 36 s=true) :
 Pq 27 [] [0,2,1,2,2,2,2,0,1,2,0,0,2,1,2,2,2,2,2,2,2] bm [B,dI w.sl.length,u,iI (ofNat a),o,s,.ag d.c,iI (ofNat m),.own 35 0 0 0 none,.own 34 0 0 0 none,iI (ofNat a)] (Hq (fv w.sl.length (bS w) (gA w A a)) (XP w A a) C f [bZ 0 0 (gv w A (zj d) a),mg 0 0 (lN w a)])
  (.exit 2) ez [B,dI w.sl.length,u,iI (ofNat a),o,s,.ag d.c,iI (ofNat m),.own 35 m 0 m none,.own 34 m 0 m none] (Hq (fv w.sl.length (bS w) (gA w A a)) (XP w A a) C f [bZ m m (gv w A (zj d) a),mg m m (lN w a)]):=by
 have run:=λ{p l U h l1 W Q e} (k:cD 27 p l U h l1=some (e,W,Q))=>aP [] k;have uC:OO (KG qt):=qA qm (λ_ _ _ _ h=>(by cases h));have D:=λ{p l U h l1 W Q e} (k:cK (KG qt) 27 p l U h l1=some (e,W,Q))=>bR uC [] k
 let N:=w.sl.length
 let E:=fv N (bS w) (gA w A a)
 let X:=XP w A a
 let g:=zj d
 let V:Nat->t7:=λj=>[B,dI N,u,iI (ofNat a),o,s,.ag d.c,iI (ofNat m),.own 35 j 0 j none,.own 34 j 0 j none,iI (ofNat (a+j))]
 let H:Nat->qa:=λj=>Hq E X C f [bZ j j (gv w A g a),mg j j (lN w a)]
 have Mw:i64.wrap (ofNat a+ofNat m)=ofNat (a+m):=by rw[Qv bP bP];simp
 have lwH:∀j,j<=m->∀b∈Hq E X C f [bZ j j (gv w A g a),mg j j (lN w a)],fw 36 b:=λj hj=>by
  intro b M;rw[Zv] at M;rcases wS.1 M with r|r
  .exact HK (KL ab) (λ_=>HL) ho hf b r
  .rcases wJ.1 r with r|r
   .rw[r];refine .inr λe he c I=>?_;have he:e<j:=he;rcases wJ.1 I with q|q
    .rw[q];rfl
    .rw[wL.1 q];exact Mv ab
   .rw[wL.1 r];exact .inl rfl
 have round:∀j,j<m->Pq 27 [] [0,0,2,1,2,2,2,2,0,1,2,0,0,2,1,2,2,2,2,2,2,2] bm (V j) (H j) .normal bm (V (j+1)) (H (j+1)):=by
  intro j hj
  let k:=a+j
  have J:k<N:=by omega
  have hka:k.blt a=false:=QZ (by omega)
  let L:=(bD w k).l
  have hL:L.length<=1000:=hl k J;have dk:dj k N=true:=v5 J;have pA:=run ((qwZ B (dI N) u o s (.ag d.c) (.own 35 j 0 j none) (.own 34 j 0 j none) a k m (H j)).trans (qj (by rw[Mw];grind) rfl));have Y:=run (qw0 B (dI N) u (iI (ofNat a)) o s (.ag d.c) (iI (ofNat m)) (.own 35 (j+1) 0 (j+1) none) (.own 34 (j+1) 0 (j+1) none) k (H (j+1)));rw[dH ab] at Y;have Dr:∀{α:Type} (x y:α),(bif decide (d.k=2) then x else bif decide (d.k=5) then x else y)=if d.k=2∨d.k=5 then x else y:=λx y=>by
   grind
  have P:∀m',m'=L.length->∀e,e<j+1->Ci j m' (lN w a) e=lN w a e:=λm' gp e he=>by
   unfold Ci;by_cases c:e<j
   .rw[qN c,wo];rfl
   .obtain rfl:e=j:=by omega
    rw[QZ (wc _),va,gp];rfl
  cases hA:A k with
  |false =>
   have O:gA w A a k=bB L:=by grind[gA]
   have pB:Pq 27 [] c6 bm (V j) (H j) .normal af [B,dI N,u,iI (ofNat a),o,s,.ag d.c,iI (ofNat m),.own 35 j 0 j none,.own 34 j 0 j none,iI (ofNat k),.ag [uI (bS w k),bB L]] (H j):=by
    have q:=qtt N k ab (bS w) (gA w A a) X C f [bZ j j (gv w A g a),mg j j (lN w a)] L.length (λi=>L.getD i bA) B u (iI (ofNat a)) o s (.ag d.c) (iI (ofNat m)) (.own 35 j 0 j none) (.own 34 j 0 j none);rw[qjV (gA w A a) k (c:=aX (λi=>L.getD i bA) L.length none) O] at q;exact run (q.trans (qj aq (qj dk (qj aq (qj (qN J) rfl)))))
   have pC:=run (qtw d 0 L.length (λi=>L.getD i bA) (bS w k) B (dI N) u (iI (ofNat a)) o s (iI (ofNat m)) (.own 35 j 0 j none) (.own 34 j 0 j none) (iI (ofNat k)) (H j));have Z:Pq 27 [] cv af [B,dI N,u,iI (ofNat a),o,s,.ag d.c,iI (ofNat m),.own 35 j 0 j none,.own 34 j 0 j none,iI (ofNat k),.ag [uI 0,bB L]] (H j) .normal af [B,dI N,u,iI (ofNat a),o,s,.ag d.c,iI (ofNat m),.own 35 j 0 j none,.own 34 j 0 j none,iI (ofNat k),.ag [uI g,bB L]] (H j):=by
    have q:=(qtx d 0 L.length (λi=>L.getD i bA) B (dI N) u (iI (ofNat a)) o s (iI (ofNat m)) (.own 35 j 0 j none) (.own 34 j 0 j none) (iI (ofNat k)) (H j)).trans (Dr _ _);show Pq 27 [] _ _ _ _ _ _ [B,dI N,u,iI (ofNat a),o,s,.ag d.c,iI (ofNat m),.own 35 j 0 j none,.own 34 j 0 j none,iI (ofNat k),.ag [uI (zj d),bB L]] _;unfold zj;by_cases c:d.k=2∨d.k=5
    .rw[wl c] at q ⊢;exact run q
    .rw[wh c] at q ⊢;exact run q
   have S:=qty E X C f (bZ j j (gv w A g a)) L.length j j (lN w a) (λi=>L.getD i bA) g B (dI N) u (iI (ofNat a)) o s (.ag d.c) (iI (ofNat m)) (.own 34 j 0 j none) (iI (ofNat k));have Eh:=D (S.trans (qj aq (qj (qR ab) (qj (qR ab) (qB (by rw[ZE ab];simp) rfl)))));have R:=qtA E X C f (mg (j+1) (j+1) (Ci j L.length (lN w a))) L.length j j (gv w A g a) (λi=>L.getD i bA) g B (dI N) u (iI (ofNat a)) o s (.ag d.c) (iI (ofNat m)) (.own 35 (j+1) 0 (j+1) none) (iI (ofNat k));have HM:=Pz.post (D (R.trans (qj aq (qj (qR ab) (qj (qR ab) (qB (by rw[ZE ab];simp) rfl)))))) (v2:=[B,dI N,u,iI (ofNat a),o,s,.ag d.c,iI (ofNat m),.own 35 (j+1) 0 (j+1) none,.own 34 (j+1) 0 (j+1) none,iI (ofNat k)]) (h2:=H (j+1)) λnt=>by
    refine .same ?_;have key:ai [bZ (j+1) (j+1) (X4 j (gv w A g a) [uI g,bB L]),mg (j+1) (j+1) (Ci j L.length (lN w a))] [bZ (j+1) (j+1) (gv w A g a),mg (j+1) (j+1) (lN w a)]:=by
     refine .cons ⟨rfl,rfl,rfl,λh=>h,λe he=>?_⟩ (.cons ⟨rfl,rfl,rfl,λh=>h,λe he=>(P _ rfl e he).symm⟩ .nil rfl) rfl;have he:e<j+1:=he;show gv w A g a e=bif e.blt j then gv w A g a (0+e) else [[uI g,bB L]].getD (e-j) [];by_cases c:e<j
     .rw[qN c,wo];rfl
     .obtain rfl:e=j:=by omega
      rw[QZ (wc _),va];show [uI g,gA w A a (a+e)]=[_,_];rw[show gA w A a (a+e)=bB L from O]
    rw[Zv E X C f [bZ (j+1) (j+1) _,_]];show ai _ (Hq E X C f [bZ (j+1) (j+1) (gv w A g a),mg (j+1) (j+1) (lN w a)]);rw[Zv E X C f [bZ (j+1) (j+1) (gv w A g a),_]];exact ai.pre _ key
   exact ao pA (ao (cO 3 (ao pB (ao pC (ao Z (ao Eh HM))))) Y)
  |true =>
   have O:gA w A a k = .own (1+k) 0 0 L.length none:=by grind[gA]
   have hX:X k=iB L.length (λi=>L.getD i bA):=by show XP w A a k=_;unfold XP;rw[hA,hka,qN J];rfl
   have pB:Pq 27 [] c6 bm (V j) (H j) .normal af [B,dI N,u,iI (ofNat a),o,s,.ag d.c,iI (ofNat m),.own 35 j 0 j none,.own 34 j 0 j none,iI (ofNat k),.ag [uI (bS w k),.own (1+k) 0 0 L.length none]] (H j):=by
    have q:=qts N k ab (bS w) (gA w A a) X C f [bZ j j (gv w A g a),mg j j (lN w a)] L.length (λi=>L.getD i bA) B u (iI (ofNat a)) o s (.ag d.c) (iI (ofNat m)) (.own 35 j 0 j none) (.own 34 j 0 j none);rw[qjV (gA w A a) k (c:=.own (1+k) 0 0 L.length none) O] at q;exact run (q.trans (qj aq (qj dk (qj aq (qj (qN J) rfl)))))
   have pC:=run (qtu d (1+k) L.length (λi=>L.getD i bA) (bS w k) B (dI N) u (iI (ofNat a)) o s (iI (ofNat m)) (.own 35 j 0 j none) (.own 34 j 0 j none) (iI (ofNat k)) (H j));have Z:Pq 27 [] cv af [B,dI N,u,iI (ofNat a),o,s,.ag d.c,iI (ofNat m),.own 35 j 0 j none,.own 34 j 0 j none,iI (ofNat k),.ag [uI 0,.own (1+k) 0 0 L.length none]] (H j) .normal af [B,dI N,u,iI (ofNat a),o,s,.ag d.c,iI (ofNat m),.own 35 j 0 j none,.own 34 j 0 j none,iI (ofNat k),.ag [uI g,.own (1+k) 0 0 L.length none]] (H j):=by
    have q:=(qtv d (1+k) L.length (λi=>L.getD i bA) B (dI N) u (iI (ofNat a)) o s (iI (ofNat m)) (.own 35 j 0 j none) (.own 34 j 0 j none) (iI (ofNat k)) (H j)).trans (Dr _ _);grind[zj]
   have S:=qtz k ab E X C f (bZ j j (gv w A g a)) L.length j j (lN w a) (λi=>L.getD i bA) g B (dI N) u (iI (ofNat a)) o s (.ag d.c) (iI (ofNat m)) (.own 34 j 0 j none) (iI (ofNat k));rw[RE X k hX] at S;have Eh:=D (S.trans (qj aq (qj (qR ab) (qj (qR ab) (qB (by rw[ZE ab];simp) rfl)))));have R:=qtB k ab E X C f (mg (j+1) (j+1) (Ci j L.length (lN w a))) L.length j j (gv w A g a) (λi=>L.getD i bA) g B (dI N) u (iI (ofNat a)) o s (.ag d.c) (iI (ofNat m)) (.own 35 (j+1) 0 (j+1) none) (iI (ofNat k));rw[RE X k hX] at R;have HM:=Pz.post (D (R.trans (qj aq (qj (qR ab) (qj (qR ab) (qB (by rw[ZE ab];simp) rfl)))))) (v2:=[B,dI N,u,iI (ofNat a),o,s,.ag d.c,iI (ofNat m),.own 35 (j+1) 0 (j+1) none,.own 34 (j+1) 0 (j+1) none,iI (ofNat k)]) (h2:=H (j+1)) λnt=>by
    refine .trans (h1:=Hq E X C f [bZ (j+1) (j+1) (Rz j (gv w A g a) [uI g,.own (1+k) 0 0 L.length none]),mg (j+1) (j+1) (Ci j L.length (lN w a))]) (dM:=[B,dI N,u,iI (ofNat a),o,s,.ag d.c,iI (ofNat m),.own 35 (j+1) 0 (j+1) none,.own 34 (j+1) 0 (j+1) none,iI (ofNat k)]) ?_ (.same ?_)
    .refine ak.En (n:=36) (p:=Hq E X C f [bZ (j+1) (j+1) _,mg (j+1) (j+1) _]) (z:=[RA _]) rfl (wN _) rfl (λc I=>?_) (λb M=>?_)
     .simp only[wJ,xl,or_false] at I;rcases I with h|h|h|h|h|h|h|h|h|h|h
      all_goals (rw[h];first|exact l1|exact l8|exact l10|exact l11|rfl)
     .rw[Zv] at M;rcases wS.1 M with r|r
      .exact HK (KL ab) (λ_=>HL) ho hf b r
      .rcases wJ.1 r with r|r
       .rw[r];refine .inr λe he c I=>?_;have he:e<j+1:=he;have I:c∈(bif e.blt j then gv w A g a (0+e) else [[uI g,.own (1+k) 0 0 L.length none]].getD (0+(e-j)) []):=I;by_cases q:e<j
        .rw[qN q] at I;rcases wJ.1 I with z|z
         .rw[z];rfl
         .rw[wL.1 z];exact Mv ab
        .obtain rfl:e=j:=by omega
         rw[QZ (wc _),va] at I;rcases wJ.1 I with z|z
         .rw[z];rfl
         .rw[wL.1 z];exact qN ab
       .rw[wL.1 r];exact .inl rfl
    have key:ai [bZ (j+1) (j+1) (Rz j (gv w A g a) [uI g,.own (1+k) 0 0 L.length none]),mg (j+1) (j+1) (Ci j L.length (lN w a))] [bZ (j+1) (j+1) (gv w A g a),mg (j+1) (j+1) (lN w a)]:=by
     refine .cons ⟨rfl,rfl,rfl,λh=>h,λe he=>?_⟩ (.cons ⟨rfl,rfl,rfl,λh=>h,λe he=>(P _ rfl e he).symm⟩ .nil rfl) rfl;have he:e<j+1:=he;show gv w A g a e=bif e.blt j then gv w A g a (0+e) else [[uI g,.own (1+k) 0 0 L.length none]].getD (0+(e-j)) [];by_cases c:e<j
     .rw[qN c,wo];rfl
     .obtain rfl:e=j:=by omega
      rw[QZ (wc _),va];show [uI g,gA w A a (a+e)]=[_,_];rw[show gA w A a (a+e) = .own (1+k) 0 0 L.length none from O]
    rw[Zv E X C f [bZ (j+1) (j+1) _,_]];show ai _ (Hq E X C f [bZ (j+1) (j+1) (gv w A g a),mg (j+1) (j+1) (lN w a)]);rw[Zv E X C f [bZ (j+1) (j+1) (gv w A g a),_]];exact ai.pre _ key
   exact ao pA (ao (cO 3 (ao pB (ao pC (ao Z (ao Eh HM))))) Y)
 have last:=run ((qtn B (dI N) u o s (.ag d.c) (.own 35 m 0 m none) (.own 34 m 0 m none) a (a+m) m (H m)).trans (qB (by rw[Mw];grind) rfl));exact Pz.count qh V H (n:=m) aq round (ed last)
end
def qtH(p)(s:am)(B g)(M m)(a b c d e f j:T)(H):cK (qt.add 55 (qH p λ_=>some (.aJ [.new (cf g m none),iI 0]))) 27 c5 hE [a,b,c,d,e,f,.ag s.c,cf B M none,j] H bf =
( gD (qx (p [s.t,cf B M
 none] (.aJ [(cf g m
 none).new,iI 0])))<|zN [a,b,c,d,e,f,.ag s.c,j] H):=qh
section
variable {w:bJ} {A:Nat->Bool}
def qq5{a m n}{f}(h:a+m<n):fw n (bZ m m (gv w A f a)):=.inr λe he c d=>by
 have he:e<m:=he;rcases wJ.1 d with q|q
 .rw[q];rfl
 .rw[wL.1 q];exact Mv ab
def qq6(a m)(H:w.sl.length<=16)(x:a+m<=w.sl.length)(D:m<=4)(d:am)(C:d.Ok)(I:m=d.nN)(he:mr d (λe=>ofNat (bD w (a+e)).l.length) d.nN=0)(g:ap)(f:Nat->ap)(s:fw 35 g)(u:∀k,fw 35 (f k))(i:Nat)(E:i<16)(G:Nat->am)(n:Nat)(c:List aU)(j:Int) :
 Pq 27 [] gB ez [aN G n none,dI w.sl.length,aQ c,iI (ofNat a),.own 17 i 0 i none,iI (ofNat i),.ag d.c,iI (ofNat m),.own 35 m 0 m none,.own 34 m 0 m none] (Hq (fv w.sl.length (bS w) (gA w A a)) (XP w A a) g f [bZ m m (gv w A j a),mg m m (lN w a)])
  .normal hE [aN G n none,dI w.sl.length,aQ c,iI (ofNat (a+m)),.own 17 i 0 i none,iI (ofNat i),.ag d.c,cf (λe=>ofNat (bD w (a+e)).l.length) m none,.own 34 m 0 m none] (Hq (fv w.sl.length (bS w) (gA w A a)) (XP w A a) g f [bZ m m (gv w A j a)]):=by
 have B:i64.wrap (ofNat a+ofNat m)=ofNat (a+m):=by rw[Qv bP bP];simp
 have q:=qw1 (aN G n none) (dI w.sl.length) (aQ c) (.own 17 i 0 i none) (iI (ofNat i)) (.ag d.c) (.own 35 m 0 m none) (.own 34 m 0 m none) a m (Hq (fv w.sl.length (bS w) (gA w A a)) (XP w A a) g f [bZ m m (gv w A j a),mg m m (lN w a)]);rw[B] at q;refine Pz.post (aP [] q) λnt=>?_;refine ak.Em (n:=35) (p:=Hq (fv w.sl.length (bS w) (gA w A a)) (XP w A a) g f [bZ m m (gv w A j a)]) (z:=[mg m m (lN w a)]) rfl (wN _) rfl ?_ (λb o=>?_)
 .show [aN G n none,dI w.sl.length,aQ c,iI (ofNat (a+m)),.own 17 i 0 i none,iI (ofNat i),.ag d.c,bif m==m&&Nat.ble (0+m) m then T.view 1 m (λe=>lN w a (0+e)) none else .undef,.own 34 m 0 m none]=_;rw[wF,qR ab];show [_,_,_,_,_,_,_,T.view 1 m (λe=>lN w a (0+e)) none,_]=[_,_,_,_,_,_,_,T.view 1 m (λe=>lN w a e) none,_];rw[show(λe=>lN w a (0+e))=λe=>lN w a e from funext λe=>by rw[wo]]
 .rw[Zv] at o;rcases wS.1 o with r|r
  .exact HK (KL ab) (λ_=>HL) s u b r
  .rw[wL.1 r];exact qq5 ab
def qq7(a m)(d)(u:d.Ok)(B:m<=4)(x:m=d.nN)(he:mr d (λe=>ofNat (bD w (a+e)).l.length) d.nN=0)(r o k j g i fD:T)(H:qa) :
 Pq 27 [] c5 hE [r,o,k,j,g,i,.ag d.c,cf (λe=>ofNat (bD w (a+e)).l.length) m none,fD] H .normal bf [r,o,k,j,g,i,.ag d.c,fD] H:=by
 obtain⟨p,s⟩:=qz au G16 55;have f:=VK d u (λe=>ofNat (bD w (a+e)).l.length) m none ab;unfold G3 at f;rw[wl (by rw[x];exact he)] at f;exact bR (qr qm (qn s)) [] ((qtH p d (λe=>ofNat (bD w (a+e)).l.length) (iZ d λe=>ofNat (bD w (a+e)).l.length) m d.mN r o k j g i fD H).trans (qj (qu s f) rfl))
def du(l:Nat->List aB)(i j:Nat):ap:=.mk (bif j.blt i then 1 else 0) 2 (bif j.blt i then(l j).length else 0) (λe=>((l j).getD e aO).c) false false none
def ff(l:Nat->List aB)(j:Nat):t7:=[.own (18+j) 1 0 (l j).length none]
def j6{n:Nat}(l)(i j:Nat):fw n (du l i j):=.inr λe _ c a=>by
 rcases wJ.1 a with q|q
 .rw[q];rfl
 .rw[wL.1 q];rfl
def Mz{n:Nat}(l){i:Nat}(h:18+i<=n):fw n (cR i (ff l)):=.inr λe he c a=>by
 have he:e<i:=he;rw[wL.1 a];exact qN ab
def qxs{i vi d n:Nat}{x:T}(h:cA 34 x=true):m9 i vi 34 d x=x:=by
 cases x with
 |own m aj e len cap =>
  show(bif m==34 then _ else _)=_;have:m<34:=by simpa [cA] using h
  rw[show(m==34)=false by grind];rfl
 |ptr m aj q o =>
  show(bif m==34 then _ else _)=_;have:m<34:=by simpa [cA] using h
  rw[show(m==34)=false by grind];rfl
 |mp m aj =>
  show(bif m==34 then _ else _)=_;have:m<34:=by simpa [cA] using h
  rw[show(m==34)=false by grind];rfl
 |fn f a =>
  have h:a.isEmpty=true:=h;obtain rfl:a=[]:=ua.1 h;rfl
 |_=>first|rfl|(simp[cA,zV] at h;done)
def qpF{i vi d:Nat}{l:t7}(h:∀c∈l,cA 34 c=true):l=l.map (m9 i vi 34 d):=by
 have:l.map (m9 i vi 34 d)=l.map id:=ve λa e=>qxs (n:=0) (h a e);rw[this,uk]
def qtI(G:Nat->am)(n:Nat)(l:Nat->List aB)(i)(H:i<16)(c:List aU)(u:ap)(X:Nat->ap)(J:fw 34 u)(I:∀k,(X k).flat=true)(N a v:Nat) :
 Pq 27 [] ls g6 [aN G n none,dI N,aQ c,iI (ofNat a),.own 17 i 0 i none,iI (ofNat i),.own 34 v 0 (l i).length none] (Hq u X (cR i (ff l)) (du l i) [.mk v 2 (l i).length (λe=>((l i).getD e aO).c) false false none])
  .normal da [aN G n none,dI N,aQ c,iI (ofNat a),.own 17 (i+1) 0 (i+1) none,iI (ofNat i)] (Hq u X (cR (i+1) (ff l)) (du l (i+1)) []):=by
 let s:ap:=.mk v 2 (l i).length (λe=>((l i).getD e aO).c) false false none
 have M:OO (KG qt):=qA qm (λ_ _ _ _ h=>(by cases h));have q:=qxr u X (du l i) i v (l i).length s (ff l) (aN G n none) (dI N) (aQ c) (iI (ofNat a)) (iI (ofNat i));refine Pz.post (bR M [] (q.trans (qj aq (qj (qR ab) (qj (qR ab) (qB (by rw[ZE ab];simp) rfl)))))) λnt=>?_;have O:∀n,fw n s:=λn=>.inr λe _ c C=>by
  have C:c∈((l i).getD e aO).c:=C;rcases wJ.1 C with q|q
  .rw[q];rfl
  .rw[wL.1 q];rfl
 have E:∀e,e<i+1->Cj i (ff l) (.own 34 v 0 (l i).length none) e=(if e=i then [.own 34 v 0 (l i).length none] else ff l e):=λe he=>by
  unfold Cj;by_cases z:e=i
  .rw[wl z,z,QZ (wc _),va];rfl
  .rw[wh z,qN ab,wo];rfl
 refine .trans (h1:=Hq u X (cR (i+1) (Cj i (ff l) (.own 34 v 0 (l i).length none))) (du l i) [s]) (dM:=[aN G n none,dI N,aQ c,iI (ofNat a),.own 17 (i+1) 0 (i+1) none,iI (ofNat i)]) ?_ ?_
 .refine ak.En (n:=35) (p:=Hq u X (cR (i+1) (Cj i (ff l) (.own 34 v 0 (l i).length none))) (du l i) [s]) (z:=[_]) rfl (wN _) rfl (λx hx=>?_) (λb B=>?_)
  .simp only[wJ,xl,or_false] at hx;rcases hx with h|h|h|h|h|h
   all_goals (rw[h];rfl)
  .rw[Zv] at B;rcases wS.1 B with r|r
   .refine HK (J.mono ab) (λk=>.inl (I k)) (.inr λe he x hx=>?_) (λk=>j6 l i k) b r;have hx:x∈Cj i (ff l) (.own 34 v 0 (l i).length none) e:=hx;rw[E e he] at hx;split at hx
    .rw[wL.1 hx];rfl
    .rw[wL.1 hx];have:e<i+1:=he;exact qN ab
   grind
 .refine .trans (ak.rD (18+i) 34 (bi:=du l i i) (bj:=s) ab rfl (wN _) ?_ rfl rfl) ?_
  .cases Qb H
   all_goals rfl
  have Y:(du l i i).aj=0:=by show(bif i.blt i then 1 else 0)=0;rw[QZ (wc _)];rfl
  rw[Y];refine .same ?_;have nf:∀b:ap,fw 34 b->∀j,j<b.n->(nA (18+i) 0 34 v b).get j=b.get j:=λb B j g=>by
   unfold nA;cases Z:b.flat with
   |true=>rfl
   |false =>
    rcases B with h|h
    .rw[Z] at h;cases h
    .exact(qpF (h j g)).symm
  have D:∀(b:ap) {h f:qa},fw 34 b->ai h f->ai (nA (18+i) 0 34 v b::h) (b::f):=λb _ _ B o=>by
   obtain⟨W,V,L,U,S⟩:=XF (18+i) 0 34 v b;exact .cons ⟨W.symm,V.symm,L.symm,λh=>by rw[U];exact h,λj g=>(nf b B j (by rw[L] at g;exact g)).symm⟩ o S.symm
  have R:∀{h f:qa},ai h f->ai (nA (18+i) 0 34 v (cR (i+1) (Cj i (ff l) (.own 34 v 0 (l i).length none)))::h) (cR (i+1) (ff l)::f):=λo=>by
   refine .cons ⟨rfl,rfl,rfl,λh=>h,λj g=>?_⟩ o rfl;have g:j<i+1:=g;show ff l j=(Cj i (ff l) (.own 34 v 0 (l i).length none) j).map _;rw[E j g];by_cases z:j=i
   .rw[wl z,z];show _=[bif (34:Nat)==34 then(bif v==v then T.own (18+i) (0+1) 0 (l i).length none else .undef) else .own 34 v 0 (l i).length none];rw[wF,wF];rfl
   .rw[wh z];exact qpF λc C=>by rw[wL.1 C];exact qN ab
  have Q:∀j,j≠i->∀{h f:qa},ai h f->ai (nA (18+i) 0 34 v (du l i j)::h) (du l (i+1) j::f):=λj g _ _ o=>by
   have e:du l (i+1) j=du l i j:=by
    unfold du;by_cases z:j<i
    .rw[qN z,qN ab]
    .rw[QZ ab,QZ ab]
   rw[e];exact D _ (j6 l i j) o
  have P:∀{h f:qa},ai h f->ai (Ch (18+i) 0 34 v s::h) (du l (i+1) i::f):=λo=>by
   refine .cons ⟨?_,rfl,?_,λh=>(by cases h),λj g=>?_⟩ o rfl
   .show(bif i.blt (i+1) then 1 else 0)=0+1;rw[qN ab];rfl
   .show(bif i.blt (i+1) then(l i).length else 0)=(l i).length;rw[qN ab];rfl
   rfl
  have d:∀(k:Nat) {h f:qa},ai h f->ai (nA (18+i) 0 34 v (X k)::h) (X k::f):=λk _ _ o=>D _ (.inl (I k)) o;show ai (Rj (18+i) 0 34 v s (Hq u X (cR (i+1) (Cj i (ff l) (.own 34 v 0 (l i).length none))) (du l i) [s])) _;cases Qb H
  all_goals
   refine D _ J (d 0 (d 1 (d 2 (d 3 (d 4 (d 5 (d 6 (d 7 (d 8 (d 9 (d 10 (d 11 (d 12 (d 13 (d 14 (d 15 (R ?_)))))))))))))))))
   repeat (first|exact .nil|refine P ?_|refine Q _ (by decide) ?_)
end
def mw(a:Nat):t8:=(List.range 35).map λj=>bif j==1+a then 35 else j
def qxt:∀a,a<16->∀i,i<35->i≠1+a->QW (mw a) i=some i:=by decide
def qpG:∀a,a<16->QW (mw a) (1+a)=none:=by decide
def qpH:∀a,a<16->(mw a).contains (1+a)=false:=by decide
def nJ(a:Nat):T->Bool
 |.own i _ _ _ _=>Nat.blt i 35&&!(i==1+a)
 |x=>zV x
def RF{a:Nat}(g:a<16){h:qa}{x:T}(hx:nJ a x=true):qO (mw a) h x=x:=by
 cases x with
 |own i aj e len cap =>
  simp only[nJ,wd,Nat.blt_eq,wR,xA] at hx;simp only[qO,qxt a g i hx.1 hx.2]
 |fn f d =>
  have h:d.isEmpty=true:=hx;obtain rfl:d=[]:=ua.1 h;rfl
 |_=>first|rfl|(simp[nJ,zV] at hx;done)
def MA{a:Nat}(f:a<16){h:qa}{l:t7}(d:∀c∈l,nJ a c=true):l=l.map (qO (mw a) h):=by
 have:l.map (qO (mw a) h)=l.map id:=ve λc e=>RF f (d c e);rw[this,uk]
def nJt(a:Nat):T->Bool
 |.agg l=>l.all (nJ a)
 |.ag l=>l.all (nJ a)
 |.fn _ d=>d.all (nJ a)
 |x=>nJ a x
def qxu{a:Nat}(d:a<16){h:qa}{x:T}(hx:nJt a x=true):nO (mw a) h x=x:=by
 have e:∀y,nJ a y=true->qO (mw a) h y=y:=λ_=>RF d;cases x with
 |agg l=>show T.agg _=_;rw[←MA d (wD.1 hx)]
 |ag l=>show T.ag _=_;rw[←MA d (wD.1 hx)]
 |fn f l=>show T.fn f _=_;rw[←MA d (wD.1 hx)]
 |_=>(simp only[nO];exact e _ hx)
def NJB(a:Nat)(b:ap):Prop:=b.flat=true∨∀j,j<b.n->∀c∈b.get j,nJ a c=true
def qiZ{a aj off len}{cap}(d:a<16)(X:Nat->ap)(i:ap)(g:ap)(f:Nat->ap)(z:qa)(h:(X a).aj≠aj):qO (mw a) (Hq i X g f z) (.own (1+a) aj off len cap) = .undef:=by
 have j:(Hq i X g f z)[1+a]?=some (X a):=by
  cases Qb d
  all_goals rfl
 have e:((X a).aj==aj)=false:=by grind
 simp only[qO,qpG a d,resolve,j,e,qpH a d,xT,Bool.and_false,wq]
def qtJ{x:T}(h:cA 34 x=true):rh 34 1 x=x:=by
 cases x with
 |own m aj d len cap =>
  show(bif m==34 then _ else _)=_;have:m<34:=by simpa [cA] using h
  rw[show(m==34)=false by grind];rfl
 |ptr m aj q o=>rfl
 |mp m aj=>rfl
 |fn f a =>
  have h:a.isEmpty=true:=h;obtain rfl:a=[]:=ua.1 h;rfl
 |_=>first|rfl|(simp[cA,zV] at h;done)
section
variable {w:bJ} {A:Nat->Bool}
def MB(a:Int)(l:List aw):ap:=.mk 2 2 1 (λe=>(([⟨a,l⟩]:List aB).getD e aO).c) false false none
def qq8{aa:t8}{nt:Nat}(a m f:Nat)(I:a<16)(hN:w.sl.length<=16)(haN:a<w.sl.length)(hA:A a=true)(S:A (a+1)=false)(L:Int)(E C:List aw)(h1:E.length=m)(h2:C.length=f+1)(l:Nat->List aB)(i:Nat)(hi:i<16)(G:Nat->am)(n:Nat)(c:List aU)(sp:am)(oi:Int) :
 ak G16 aa nt bf 0 [aN G n none,dI w.sl.length,aQ c,iI oi,.own 17 i 0 i none,iI (ofNat i),.ag sp.c,.own 34 2 0 1 none] (Hq (fv w.sl.length (bS w) (gA w A a)) (fX (XP w A a) a (El m f (λi=>E.getD i bA) (λi=>C.getD i bA))) (cR i (ff l)) (du l i) [HJ 2 L (.own (1+a) 1 0 (m+(f+1)) none) (.own (1+a) 0 0 m none) f (λi=>C.getD i bA)])
  [aN G n none,dI w.sl.length,aQ c,iI oi,.own 17 i 0 i none,iI (ofNat i),.ag sp.c,.own 34 2 0 1 none] (Hq (fv w.sl.length (bS w) (gA w A (a+2))) (XP w A (a+2)) (cR i (ff l)) (du l i) [MB L (E++C)]):=by
 let g:Nat->ap:=fX (XP w A a) a (El m f (λi=>E.getD i bA) (λi=>C.getD i bA))
 let u:=fv w.sl.length (bS w) (gA w A a)
 let Y:=HJ 2 L (.own (1+a) 1 0 (m+(f+1)) none) (.own (1+a) 0 0 m none) f (λi=>C.getD i bA)
 let N:t7:=[aN G n none,dI w.sl.length,aQ c,iI oi,.own 17 i 0 i none,iI (ofNat i),.ag sp.c,.own 34 2 0 1 none]
 let D:ap:={ Y with n:=1 }
 have flX:∀k,(g k).flat=true:=λk=>by
  show(bif k==a then _ else _:ap).flat=true;cases k==a<;>rfl
 have U:g a=El m f (λi=>E.getD i bA) (λi=>C.getD i bA):=by show(bif a==a then _ else _:ap)=_;rw[wF];rfl
 refine .trans (h1:=Hq u g (cR i (ff l)) (du l i) [D]) (dM:=N) (.trans (ak.shrink 34 1 (bi:=Y) (wN _) rfl rfl (by show 1<=2;omega)) (.same ?_)) ?_
 ·have nf:∀b:ap,fw 34 b->∀{h h2:qa},ai h h2->ai (iz 34 1 b::h) (b::h2):=λb P _ _ o=>by
   obtain⟨R,Q,V,e4,Z⟩:=qjU 34 1 b;refine .cons ⟨R.symm,Q.symm,V.symm,λh=>by rw[e4];exact h,λj d=>?_⟩ o Z.symm;rw[V] at d;unfold iz;cases J:b.flat with
   |true=>rfl
   |false =>
    rcases P with h|h
    .rw[J] at h;cases h
    .show b.get j=(b.get j).map _;have:(b.get j).map (rh 34 1)=(b.get j).map id:=ve λc O=>qtJ (h j d c O);rw[this,uk]
  show ai (iz 34 1 u::iz 34 1 (g 0)::_) _;refine nf u (KL ab) ?_;have r:∀(k:Nat) {h h2:qa},ai h h2->ai (iz 34 1 (g k)::h) (g k::h2):=λk _ _ o=>nf _ (.inl (flX k)) o;have s:∀(k:Nat) {h h2:qa},ai h h2->ai (iz 34 1 (du l i k)::h) (du l i k::h2):=λk _ _ o=>nf _ (j6 l i k) o;refine r 0 (r 1 (r 2 (r 3 (r 4 (r 5 (r 6 (r 7 (r 8 (r 9 (r 10 (r 11 (r 12 (r 13 (r 14 (r 15 (nf _ (Mz l ab) (s 0 (s 1 (s 2 (s 3 (s 4 (s 5 (s 6 (s 7 (s 8 (s 9 (s 10 (s 11 (s 12 (s 13 (s 14 (s 15 ?_))))))))))))))))))))))))))))))));refine .cons ⟨rfl,rfl,rfl,λh=>h,λj d=>?_⟩ .nil rfl;obtain rfl:j=0:=vQ.1 d;show Y.get 0=(Y.get 0).map (rh 34 1);show [uI L,T.own (1+a) 1 0 (m+(f+1)) none]=[uI L,rh 34 1 (.own (1+a) 1 0 (m+(f+1)) none)];rw[qtJ (show cA 34 (.own (1+a) 1 0 (m+(f+1)) none)=true from qN ab)]
 let B:ap:=.mk 0 2 0 (λ_=>[]) true false none
 refine .trans (h1:=Hq u g (cR i (ff l)) (du l i) [D,B]) (dM:=N) (ak.gh [B] (by simp[B]) (.rg (.rg (.rg (.rg (.rg (.rg (.rg (.rg .nil)))))))) (cT.refl _)) ?_
 let j2:ap:=.mk 2 2 1 (λe=>[uI L,.view 2 (m+(f+1)) (λe=>(El m f (λi=>E.getD i bA) (λi=>C.getD i bA)).get (0+e)) none]) false false none
 refine .trans (h1:=Hq (fv w.sl.length (bS w) (gA w A (a+2))) (XP w A (a+2)) (cR i (ff l)) (du l i) [j2]) (dM:=N) ?_ ?_
 ·have hv:N.map (nO (mw a) (Hq u g (cR i (ff l)) (du l i) [D,B]))=N:=by
   have z:∀m,m≠1+a->m<35->(Nat.blt m 35&&!(m==1+a))=true:=λm h1 h2=>by
    rw[qN h2,show(m==1+a)=false by grind];rfl
   have:N.map (nO (mw a) (Hq u g (cR i (ff l)) (du l i) [D,B]))=N.map id:=ve λx hx=>by
    refine qxu I ?_;simp only[N,wJ,xl,or_false] at hx;rcases hx with h|h|h|h|h|h|h|h
    all_goals (rw[h];first|rfl|exact z 17 ab ab|exact z 34 ab ab|skip)
    .show(nJ a (.own 0 _ 0 _ none)&&_)=true;rw[show nJ a (.own 0 w.sl.length 0 w.sl.length none)=true from z 0 ab ab];rfl
   rw[this,uk]
  have nf:∀b M:ap,M.aj=b.aj/\M.sz=b.sz/\M.n=b.n/\M.flat=b.flat/\M.mp=b.mp->(∀h j,j<b.n->b.flat=false->M.get j=(b.get j).map (qO (mw a) h))->(b.flat=true->∀j,j<b.n->M.get j=b.get j)->∀(H:qa) {h h2:qa},ai h h2->ai (QG (mw a) H b::h) (M::h2):=λb M e X W H _ _ o=>by
   obtain⟨R,Q,V,e4,Z⟩:=e;cases J:b.flat with
   |true =>
    have eb:QG (mw a) H b=b:=by grind[QG]
    rw[eb];exact .cons ⟨R,Q,V,λ_=>J,λj d=>W J j d⟩ o Z
   |false =>
    have eb:QG (mw a) H b = { b with get:=λj=>(b.get j).map (qO (mw a) H) }:=by grind[QG]
    rw[eb];exact .cons ⟨R,Q,V,(λh=>by rw[e4,J] at h;cases h),λj d=>X H j d J⟩ o Z
  have ns:∀b:ap,NJB a b->∀(H:qa) {h h2:qa},ai h h2->ai (QG (mw a) H b::h) (b::h2):=λb P H _ _ o=>nf b b ⟨rfl,rfl,rfl,rfl,rfl⟩ (λh j d J=>by
   rcases P with q|q
   .rw[q] at J;cases J
   .exact MA I (q j d)) (λ_ _ _=>rfl) H o
  have s:∀(k:Nat) (H:qa) {h h2:qa},ai h h2->ai (QG (mw a) H (du l i k)::h) (du l i k::h2):=λk H _ _ o=>ns _ (.inr λe _ c O=>by
   have O:c∈((l k).getD e aO).c:=O;rcases wJ.1 O with q|q
   .rw[q];rfl
   .rw[wL.1 q];rfl) H o
  have ko:∀(H:qa) {h h2:qa},ai h h2->ai (QG (mw a) H (cR i (ff l))::h) (cR i (ff l)::h2):=λH _ _ o=>ns _ (.inr λe he c O=>by
   have he:e<i:=he;rw[wL.1 O];show(Nat.blt (18+e) 35&&!(18+e==1+a))=true;rw[qN ab,show(18+e==1+a)=false by grind];rfl) H o
  have xe:∀k,k≠a->XP w A (a+2) k=g k:=λk hk=>by
   show _=(bif k==a then _ else XP w A a k:ap);rw[show(k==a)=false by grind];show XP w A (a+2) k=XP w A a k;unfold XP;by_cases X:k=a+1
   .rw[X,S];rfl
   ·have:k.blt (a+2)=k.blt a:=by
     by_cases W:k<a
     ·rw[qN W,qN ab]
     ·rw[QZ ab,QZ ab]
    rw[this]
  have r:∀(k:Nat),k≠a->∀(H:qa) {h h2:qa},ai h h2->ai (QG (mw a) H (g k)::h) (XP w A (a+2) k::h2):=λk hk H _ _ o=>by
   rw[xe k hk];simp_all
  have kg:∀(H:qa) {h h2:qa},ai h h2->ai (QG (mw a) H B::h) (XP w A (a+2) a::h2):=λH _ _ o=>nf B (XP w A (a+2) a) ⟨rfl,rfl,by
   show(bif A a&&(!a.blt (a+2)&&a.blt w.sl.length) then _ else 0)=0;rw[qN (show a<a+2 by omega)];simp,rfl,rfl⟩ (λ_ j d=>absurd d (vy j)) (λ_ j d=>absurd d (vy j)) H o
  have k0:∀{h h2:qa},ai h h2->ai (QG (mw a) (Hq u g (cR i (ff l)) (du l i) [D,B]) u::h) (fv w.sl.length (bS w) (gA w A (a+2))::h2):=λo=>by
   show ai ({ u with get:=_ }::_) _;refine .cons ⟨rfl,rfl,rfl,λh=>h,λj d=>?_⟩ o rfl;have d:j<w.sl.length:=d;show [uI (bS w j),gA w A (a+2) j]=[uI (bS w j),qO (mw a) (Hq u g (cR i (ff l)) (du l i) [D,B]) (gA w A a j)];congr 2;by_cases c:j=a
   .subst c;have R:gA w A j j = .own (1+j) 0 0 (bD w j).l.length none:=by unfold gA;rw[hA,QZ (wc _)];rfl
    have Q:gA w A (j+2) j = .undef:=by unfold gA;rw[hA,qN ab];rfl
    rw[R,Q];exact(qiZ I g u _ _ _ (by rw[U];show(1:Nat)≠0;omega)).symm
   ·have eg:gA w A (a+2) j=gA w A a j:=by
     unfold gA;by_cases X:j=a+1
     ·rw[X,S];rfl
     ·have:j.blt (a+2)=j.blt a:=by
       by_cases W:j<a
       ·rw[qN W,qN ab]
       ·rw[QZ ab,QZ ab]
      rw[this]
    rw[eg];refine(RF I ?_).symm;unfold gA;cases A j with
    |false=>rfl
    |true=>cases j.blt a with
     |true=>rfl
     |false =>
      show(Nat.blt (1+j) 35&&!(1+j==1+a))=true;rw[qN ab,show(1+j==1+a)=false by grind];rfl
  have kj:ai [QG (mw a) (Hq u g (cR i (ff l)) (du l i) [D,B]) D] [j2]:=by
   refine .cons ⟨rfl,rfl,rfl,λh=>h,λj d=>?_⟩ .nil rfl;obtain rfl:j=0:=vQ.1 d;have P:(Hq u g (cR i (ff l)) (du l i) [D,B])[1+a]?=some (g a):=by
    cases Qb I
    all_goals rfl
   show [uI L,_]=[uI L,qO (mw a) (Hq u g (cR i (ff l)) (du l i) [D,B]) (.own (1+a) 1 0 (m+(f+1)) none)];congr 2;rw[U] at P;simp only[qO,qpG a I];show _=(bif (mw a).contains (1+a) then T.undef else match (Hq u g (cR i (ff l)) (du l i) [D,B])[1+a]? with
    |some b=>bif b.mp.isNone&&(b.aj==1&&Nat.ble (0+(m+(f+1))) b.n) then .view b.sz (m+(f+1)) (bif b.flat then λj=>b.get (0+j) else λj=>(b.get (0+j)).map (resolve 3 (mw a) (Hq u g (cR i (ff l)) (du l i) [D,B]))) none else .undef
    |none=>.undef)
   rw[qpH a I,P];show _=bif (true&&((1:Nat)==1&&Nat.ble (0+(m+(f+1))) (m+(f+1)))) then _ else _;rw[qR ab];rfl
  refine ak.cu (mw a) ?_ hv rfl ?_
  .cases Qb I
   all_goals rfl
  .cases Qb I
   all_goals
    refine k0 ?_
    repeat (first|exact kj|refine kg _ ?_|refine r _ (by decide) _ ?_|refine ko _ ?_|refine s _ _ ?_)
 .rw[Zv _ _ _ _ [j2],Zv _ _ _ _ [MB L (E++C)]];refine .sl (.rg (.rg (.rg (.rg (.rg (.rg (.rg (.rg .nil)))))))) (bg.pre _ (.cons ⟨rfl,rfl,rfl⟩ (λh=>by cases h) (λj d=>?_) (.refl _)));obtain rfl:j=0:=vQ.1 d;refine .rg (.cons ?_ .nil);show bU (.view 2 (m+(f+1)) _ none) (bB (E++C));unfold bB aX;rw[show(E++C).length=m+(f+1) by grind];refine .view (.inr rfl) λe he=>?_;show cH (bif (0+e).blt m then(E.getD (0+(0+e)) bA).c else(C.getD (0+e-m) bA).c) ((E++C).getD e bA).c;rw[YU,h1];simp only[wo];by_cases q:e<m
  .rw[wl q,qN q];exact .refl _
  .rw[wh q,QZ ab];exact .refl _
end
structure rY(w:bJ)(A:Nat->Bool)(sp:am)(a:Nat):Prop where
 ok:sp.Ok
 v:dX sp=true
 le:a+sp.nN<=w.sl.length
 e:mr sp (λe=>ofNat (bD w (a+e)).l.length) sp.nN=0
 two:sp.k=4∨sp.k=5->A a=true/\A (a+1)=false
 one:¬(sp.k=4∨sp.k=5)->∀e,e<sp.nN->A (a+e)=false
def am.n4{s:am}(h:s.Ok):s.nN<=4/\s.n=ofNat s.nN:=by
 have:=s.sQ h;grind[am.nN]
def KM(s)(S)(h:s.nN<=S.length):(fI s S).length=s.nN:=by grind[fI]
def yH(w)(s)(a e)(h:a+s.nN<=w.sl.length)(he:e<s.nN):(fI s (w.sl.drop a)).getD e aO=⟨zj s,(bD w (a+e)).l⟩:=by
 grind[bD,fI]
def am.oQ{s}(h:dX s=true)(d:s.k=4∨s.k=5):s.nN=2:=by
 unfold am.nN am.n;rw[h];rcases d with q|q<;>rw[q]<;>rfl
def am.AZ{s}(h:dX s=true)(ok:s.Ok)(d:s.k=8):∃A B:Nat,s.a=(A:Int)/\s.b=(B:Int)/\1<=A/\1<=B/\A+B<=4/\s.nN=A+B:=by
 have q:=(s.oJ ok).1 h;have e:s.k=8/\1<=s.a/\s.a<=4/\1<=s.b/\s.a+s.b<=4:=by
  omega
 refine⟨s.a.toNat,s.b.toNat,ab,ab,ab,ab,ab,?_⟩;unfold am.nN am.n;rw[h,d];show(i64.wrap (s.a+s.b)).toNat=_;rw[Qv ab ab];omega
section
variable {w:bJ} {A:Nat->Bool}
def qoU{a m}(h:∀e,e<m->A (a+e)=false):gA w A (a+m)=gA w A a:=funext λj=>by
 unfold gA;cases f:A j with
 |false=>rfl
 |true =>
  have:j.blt (a+m)=j.blt a:=by
   by_cases c:j<a
   .rw[qN c,qN ab]
   .by_cases d:j<a+m
    .have:=h (j-a) ab;rw[show a+(j-a)=j by omega,f] at this;grind
    .rw[QZ ab,QZ ab]
  rw[this]
def qoV{a m}(h:∀e,e<m->A (a+e)=false):XP w A (a+m)=XP w A a:=funext λj=>by
 unfold XP;cases f:A j with
 |false=>rfl
 |true =>
  have:j.blt (a+m)=j.blt a:=by
   by_cases c:j<a
   .rw[qN c,qN ab]
   .by_cases d:j<a+m
    .have:=h (j-a) ab;rw[show a+(j-a)=j by omega,f] at this;grind
    .rw[QZ ab,QZ ab]
  rw[this]
def MC(v:Nat)(l:List aB):ap:=.mk v 2 l.length (λe=>(l.getD e aO).c) false false none
section
variable (sp:am) (a:Nat) (fit:rY w A sp a) (hN:w.sl.length<=16) (nV:∀j,j<w.sl.length->1<=(bD w j).l.length/\(bD w j).l.length<=3) (l:Nat->List aB) (i:Nat) (hi:i<16) (G:Nat->am) (n:Nat) (c:List aU)
include fit hN nV hi
def qq9(J:sp.k=4∨sp.k=5) :
 Pq 27 [] lB bf [aN G n none,dI w.sl.length,aQ c,iI (ofNat (a+sp.nN)),.own 17 i 0 i none,iI (ofNat i),.ag sp.c,.own 34 sp.nN 0 sp.nN none] (Hq (fv w.sl.length (bS w) (gA w A a)) (XP w A a) (cR i (ff l)) (du l i) [bZ sp.nN sp.nN (gv w A (zj sp) a)])
  .normal bf [aN G n none,dI w.sl.length,aQ c,iI (ofNat (a+sp.nN)),.own 17 i 0 i none,iI (ofNat i),.ag sp.c,.own 34 2 0 1 none] (Hq (fv w.sl.length (bS w) (gA w A (a+sp.nN))) (XP w A (a+sp.nN)) (cR i (ff l)) (du l i) [MB (zj sp) ((bD w a).l++(bD w (a+1)).l)]):=by
 have Y:=am.oQ fit.v J;have Z:=fit.le;rw[Y] at Z ⊢;obtain⟨H,M⟩:=fit.two J;have R:OO (KG qt):=qA qm (λ_ _ _ _ h=>(by cases h));have run:=λ{p l B h D C E e} (k:cD 27 p l B h D=some (e,C,E))=>aP [] k;have o:=λ{p l B h D C E e} (k:cK (KG qt) 27 p l B h D=some (e,C,E))=>bR R [] k
 let d:=(bD w a).l
 let r:=(bD w (a+1)).l
 obtain⟨O,N⟩:=nV a ab;obtain⟨Q,P⟩:=nV (a+1) ab;obtain⟨f,I⟩:∃f,r.length=f+1:=⟨r.length-1,by have:1<=r.length:=Q;omega⟩
 let g:=zj sp
 let own:T:=.own (1+a) 0 0 d.length none
 let u:Nat->aw:=λi=>d.getD i bA
 let s:Nat->aw:=λi=>r.getD i bA
 let x:=Hq (fv w.sl.length (bS w) (gA w A a)) (XP w A a) (cR i (ff l)) (du l i) [bZ 2 2 (gv w A g a)]
 have V:Pq 27 [] lq bf [aN G n none,dI w.sl.length,aQ c,iI (ofNat (a+2)),.own 17 i 0 i none,iI (ofNat i),.ag sp.c,.own 34 2 0 2 none] x .normal ol [aN G n none,dI w.sl.length,aQ c,iI (ofNat (a+2)),.own 17 i 0 i none,iI (ofNat i),.ag sp.c,.own 34 2 0 2 none,.bool true] x:=by
  have q:=XZ sp (aN G n none) (dI w.sl.length) (aQ c) (iI (ofNat (a+2))) (.own 17 i 0 i none) (iI (ofNat i)) (.own 34 2 0 2 none) x;grind
 have W:XP w A a a=iB d.length u:=by unfold XP;rw[H,QZ (wc _),qN ab];rfl
 have U:Pq 27 [] jr bf [aN G n none,dI w.sl.length,aQ c,iI (ofNat (a+2)),.own 17 i 0 i none,iI (ofNat i),.ag sp.c,.own 34 2 0 2 none] x .normal bf [aN G n none,dI w.sl.length,aQ c,iI (ofNat (a+2)),.own 17 i 0 i none,iI (ofNat i),.ag sp.c,.own 34 2 0 2 none] (Hq (fv w.sl.length (bS w) (gA w A a)) (fX (XP w A a) a (El d.length f u s)) (cR i (ff l)) (du l i) [HJ 2 g (.own (1+a) 1 0 (d.length+(f+1)) none) own f s]):=by
  have q:=qxo a ab (fv w.sl.length (bS w) (gA w A a)) (XP w A a) (cR i (ff l)) (du l i) 2 d.length f u s g (aN G n none) (dI w.sl.length) (aQ c) (iI (ofNat (a+2))) (.own 17 i 0 i none) (iI (ofNat i)) (.ag sp.c);rw[RE (XP w A a) a W] at q;have O:d.length<=3:=N;have z3:f<=3:=by have:r.length<=3:=P;omega
  have X:d.length=(bD w a).l.length:=rfl;have q:=q.trans (qj rfl (qj rfl (qj rfl (qj rfl (qj rfl (qj rfl (qj (qR (show 0+d.length<=d.length by omega)) (qj (qR (show(d.length+(f+1))*17<=70368744177664 by omega)) (qB (by rw[ZE (show d.length<0+d.length+(f+1) by omega)];simp) (qj rfl (qj rfl (qj rfl rfl))))))))))));refine Pz.pre (λnt=>.same ?_) (o q);show ai (Hq _ _ _ _ [_]) (Hq _ _ _ _ [_]);rw[Zv _ _ _ _ [bZ 2 2 _],Zv _ _ _ _ [joB _ _ _ _ _]];refine ai.pre _ (.cons ⟨rfl,rfl,rfl,λh=>h,λj L=>?_⟩ .nil rfl);have L:j<2:=L;show _=[uI g,gA w A a (a+j)];have c:j=0∨j=1:=by omega
  rcases c with rfl|rfl
  .show [uI g,own]=_;unfold gA;rw[show a+0=a from rfl,H,QZ (wc _)];rfl
  .show [uI g,aX s (f+1) none]=_;unfold gA;rw[M];show _=[uI g,bB r];unfold bB;rw[I]
 have S:=Pz.post (o ((qxp (fv w.sl.length (bS w) (gA w A a)) (fX (XP w A a) a (El d.length f u s)) (cR i (ff l)) (du l i) 2 (λe=>[uI (bif e==0 then g else g),bif e==0 then .own (1+a) 1 0 (d.length+(f+1)) none else bif e==0 then own else aX s (f+1) none]) (aN G n none) (dI w.sl.length) (aQ c) (iI (ofNat (a+2))) (.own 17 i 0 i none) (iI (ofNat i)) (.ag sp.c)).trans (qj rfl rfl)))
  λnt=>qq8 (A:=A) a d.length f ab hN ab H M g d r rfl I l i hi G n c sp (ofNat (a+2))
 exact ao V (Pz.im 105 qh rfl (Pz.drop rfl (ao U S)))
omit fit hN nV hi in
def qm2(hk:¬(sp.k=4∨sp.k=5))(a1 a2 a8 a9 aL aK fD:T)(H):Pq 27 [] lB bf [a1,a2,a8,a9,aL,aK,.ag sp.c,fD] H .normal bf [a1,a2,a8,a9,aL,aK,.ag sp.c,fD] H:=by
 have run:=λ{p l vs h l1 v1 h1 e} (k:cD 27 p l vs h l1=some (e,v1,h1))=>aP [] k;exact ao (run ((XZ sp a1 a2 a8 a9 aL aK fD H).trans (qB (gW λh=>hk (.inl h)) (qB (gW λh=>hk (.inr h)) rfl)))) (Pz.fU 105 qh rfl (run (qtq a1 a2 a8 a9 aL aK (.ag sp.c) fD (.bool false) H)))
omit fit hN nV hi in
def qjW(hk:sp.k≠8)(a1 a2 a8 a9 aL aK fD:T)(H):Pq 27 [] lx bf [a1,a2,a8,a9,aL,aK,.ag sp.c,fD] H .normal g6 [a1,a2,a8,a9,aL,aK,fD] H:=by
 have run:=λ{p l vs h l1 v1 h1 e} (k:cD 27 p l vs h l1=some (e,v1,h1))=>aP [] k;exact ao (run ((X0 sp a1 a2 a8 a9 aL aK fD H).trans (qB (gW hk) rfl))) (Pz.fU 122 qh rfl (run (qtr a1 a2 a8 a9 aL aK (.ag sp.c) fD (.bool false) H)))
def qtK(N:sp.k=8)(Z:c.length<=600000) :
 Pq 27 [] lx bf [aN G n none,dI w.sl.length,aQ c,iI (ofNat (a+sp.nN)),.own 17 i 0 i none,iI (ofNat i),.ag sp.c,.own 34 sp.nN 0 sp.nN none] (Hq (fv w.sl.length (bS w) (gA w A a)) (XP w A a) (cR i (ff l)) (du l i) [bZ sp.nN sp.nN (gv w A (zj sp) a)])
  .normal g6 [aN G n none,dI w.sl.length,aQ (tH sp (fI sp (w.sl.drop a)) c),iI (ofNat (a+sp.nN)),.own 17 i 0 i none,iI (ofNat i),.own 34 1 0 sp.nN none] (Hq (fv w.sl.length (bS w) (gA w A a)) (XP w A a) (cR i (ff l)) (du l i) [MC 1 (lI sp (fI sp (w.sl.drop a)))]):=by
 obtain⟨s,u,hA,hB,I5,M,U,R⟩:=am.AZ fit.v fit.ok N;have bz:=fit.le;have no:=fit.one ab
 let L:=fI sp (w.sl.drop a)
 have I:L.length=s+u:=by rw[←R];exact KM sp _ (by rw[vv];omega)
 have Q:∀e,e<sp.nN->L.getD e aO=⟨zj sp,(bD w (a+e)).l⟩:=λe he=>yH w sp a e bz he;have L4:∀x∈L,x.l.length<=4:=λx hx=>by
  obtain⟨e,he,rfl⟩:=xU.1 hx;have:=Q e ab;rw[wg,wi he] at this;rw[show L[e]=_ from this];grind
 have run:=λ{p l V h Y d h1 e} (k:cD 27 p l V h Y=some (e,d,h1))=>aP [] k;have W:OO (KG qt):=qA qm (λ_ _ _ _ h=>(by cases h))
 let C:=fv w.sl.length (bS w) (gA w A a)
 let X:=XP w A a
 let B:=cR i (ff l)
 let H:=Hq C X B (du l i) []
 let d:T:=aN G n none
 let o:T:=dI w.sl.length
 let g:T:=iI (ofNat (a+sp.nN))
 let r:T:=.own 17 i 0 i none
 let lm:T:=iI (ofNat i)
 have RI:Pq 27 [] kr bf [d,o,aQ c,g,r,lm,.ag sp.c,.own 34 sp.nN 0 sp.nN none] (Hq C X B (du l i) [bZ sp.nN sp.nN (gv w A (zj sp) a)]) .normal oo [d,o,aQ c,g,r,lm,.ag sp.c,bQ L none,.bool true] H:=by
  refine Pz.post (run ((X0 sp d o (aQ c) g r lm (.own 34 sp.nN 0 sp.nN none) (Hq C X B (du l i) [bZ sp.nN sp.nN (gv w A (zj sp) a)])).trans (qj (wt N) rfl))) λnt=>?_;refine .trans (ak.Em (n:=34) (p:=H) (z:=[bZ sp.nN sp.nN (gv w A (zj sp) a)]) (aW:=[d,o,aQ c,g,r,lm,.ag sp.c,.view 2 sp.nN (λe=>[uI (zj sp),gA w A a (a+(0+e))].map (resolve 3 (List.range 34) (Hq C X B (du l i) [bZ sp.nN sp.nN (gv w A (zj sp) a)]))) none,.bool true]) rfl (wN _) rfl ?_ (HK (KL ab) (λ_=>HL) (Mz l ab) (j6 l i))) ?_
  .show [d,o,aQ c,g,r,lm,.ag sp.c,bif sp.nN==sp.nN&&Nat.ble (0+sp.nN) sp.nN then T.view 2 sp.nN (λe=>[uI (zj sp),gA w A a (a+(0+e))].map (resolve 3 (List.range 34) (Hq C X B (du l i) [bZ sp.nN sp.nN (gv w A (zj sp) a)]))) none else .undef,.bool true]=_;rw[wF,qR ab];rfl
  .refine .sl (.rg (.rg (.rg (.rg (.rg (.rg (.rg (.cons (.inl ?_) (.rg .nil))))))))) (.refl _);show bU (.view 2 sp.nN _ none) (.view 2 L.length (λj=>(L.getD j aO).c) none);rw[I,←R];refine .view (.inr rfl) λe he=>?_;show cH [uI (zj sp),resolve 3 _ _ (gA w A a (a+(0+e)))] (L.getD e aO).c;rw[Q e he,wo];have:gA w A a (a+e)=bB (bD w (a+e)).l:=by grind[gA]
   rw[this];exact .refl _
 have HN:=run (qw4 sp c L d o g r lm H);have E:Pq 27 [] [1,2,3,2,1,2,2,2,2,2,2,2,2,0,1,2,0,0,2,1,2,2,2,2,2,2,2] ea [d,o,aQ c,g,r,lm,.ag sp.c,bQ L none,iI (-1)] H .normal ea [d,o,aQ c,g,r,lm,.ag sp.c,bQ L none,iI (Eg sp.f)] H:=by
  have q:=qw5 sp c L d o g r lm H (-1);cases P:sp.f with
  |true=>exact ao (run (q.trans (qj P rfl))) (Pz.im 124 qh rfl (Pz.drop rfl (run (qw6 sp c L d o g r lm H))))
  |false=>exact ao (run (q.trans (qB (by rw[P];simp) rfl))) (Pz.fU 124 qh rfl (run (qtC sp c L d o g r lm H (-1) (.bool false))))
 have D:=qxn sp L d o g r lm H [] (Eg sp.f) s u hA hB I U L4 c Z;have ec:tH sp L c=Fy c (L.take s) (L.drop s) (Eg sp.f):=by grind[tH]
 rw[←ec] at D;have S:lI sp L=L.drop s++L.take s:=by grind[lI]
 have G5:Pq 27 [] hS bf [d,o,aQ (tH sp L c),g,r,lm,.ag sp.c,bQ L none] H .normal g6 [d,o,aQ (tH sp L c),g,r,lm,.own 34 1 0 sp.nN none] (Hq C X B (du l i) [MC 1 (lI sp L)]):=by
  have J:sp=am.mk 8 sp.y (ofNat s) (ofNat u) sp.f:=by
   cases sp;grind
  have q:=qxq C X B (du l i) sp.y sp.f s u I5 M U L I d o (aQ (tH sp L c)) g r lm;rw[←J] at q;rw[show sp.nN=0+u+s by omega];refine Pz.post (bR W [] q) λnt=>.same ?_;rw[Zv C X B (du l i) [.mk 1 2 _ _ _ _ _],Zv C X B (du l i) [MC _ _]];have OJ:(lI sp L).length=0+u+s:=by rw[S,wC,vv,vL];omega
  refine ai.pre _ (.cons ⟨rfl,rfl,OJ,λh=>h,λj O=>?_⟩ .nil rfl);have O:j<0+u+s:=O;show((lI sp L).getD j aO).c=bif j.blt (0+u) then(L.getD (s+(0+j)) aO).c else(L.getD (0+(j-(0+u))) aO).c;rw[S,YU,vv,show L.length-s=u by omega];by_cases q:j<u
  .rw[wl q,qN ab,wp,wo,wg,wg,vK]
  .rw[wh q,QZ ab,wq,wo,wo,wg,wg,vG ab]
 exact ao RI (Pz.im 122 qh rfl (Pz.drop rfl (ao HN (ao E (ao D G5)))))
end
end
section
variable {w:bJ} {A:Nat->Bool} {G:Nat->am}
def qm3(P:w.sl.length<=16)(N:∀j,j<w.sl.length->1<=(bD w j).l.length/\(bD w j).l.length<=3)(i n)(I:i<16)(fit:rY w A (G i) (dB G i))(V:(gT w G i).length<=600000) :
 ∃v,Pq 27 [] [2,2,2,2,2,2,0,1,2,0,0,2,1,2,2,2,2,2,2,2] hE [aN G n none,dI w.sl.length,aQ (gT w G i),iI (ofNat (dB G i+(G i).nN)),.own 17 i 0 i none,iI (ofNat i),.ag (G i).c,cf (λe=>ofNat (bD w (dB G i+e)).l.length) (G i).nN none,.own 34 (G i).nN 0 (G i).nN none] (Hq (fv w.sl.length (bS w) (gA w A (dB G i))) (XP w A (dB G i)) (cR i (ff (cP w G))) (du (cP w G) i) [bZ (G i).nN (G i).nN (gv w A (zj (G i)) (dB G i))])
  .normal da [aN G n none,dI w.sl.length,aQ (gT w G (i+1)),iI (ofNat (dB G (i+1))),.own 17 (i+1) 0 (i+1) none,iI (ofNat i)] (Hq (fv w.sl.length (bS w) (gA w A (dB G (i+1)))) (XP w A (dB G (i+1))) (cR (i+1) (ff (cP w G))) (du (cP w G) (i+1)) [])/\v=0:=by
 let d:=G i
 let a:=dB G i
 obtain⟨n4,Y⟩:=am.n4 fit.ok;have M:a+d.nN<=w.sl.length:=fit.le;have lay:=λ(v:Nat)=>qtI G n (cP w G) i I (gT w G (i+1)) (fv w.sl.length _ (gA w A (a+d.nN))) (XP w A (a+d.nN)) (KL ab) (λ_=>rfl) w.sl.length (a+d.nN) v;have ld:=qq7 (w:=w) a d.nN d fit.ok n4 rfl fit.e (aN G n none) (dI w.sl.length) (aQ (gT w G i)) (iI (ofNat (a+d.nN))) (.own 17 i 0 i none) (iI (ofNat i)) (.own 34 d.nN 0 d.nN none) (Hq (fv w.sl.length (bS w) (gA w A a)) (XP w A a) (cR i (ff (cP w G))) (du (cP w G) i) [bZ d.nN d.nN (gv w A (zj d) a)]);have Q:cP w G i=lI d (fI d (w.sl.drop a)):=rfl;have eC:gT w G (i+1)=tH d (fI d (w.sl.drop a)) (gT w G i):=rfl;have O:(fI d (w.sl.drop a)).length=d.nN:=KM d _ (by rw[vv];omega);refine⟨0,?_,rfl⟩;by_cases o:d.k=4∨d.k=5
 ·have u:=qq9 d a fit P N (cP w G) i I G n (gT w G i) o;have E:=qjW d ab (aN G n none) (dI w.sl.length) (aQ (gT w G i)) (iI (ofNat (a+d.nN))) (.own 17 i 0 i none) (iI (ofNat i)) (.own 34 2 0 1 none) (Hq (fv w.sl.length (bS w) (gA w A (a+d.nN))) (XP w A (a+d.nN)) (cR i (ff (cP w G))) (du (cP w G) i) [MB (zj d) ((bD w a).l++(bD w (a+1)).l)]);have L:d.nN=2:=am.oQ fit.v o;have g0:=yH w d a 0 M (by rw[L];omega);have J:=yH w d a 1 M (by rw[L];omega);have U:(fI d (w.sl.drop a)).length=2:=O.trans L;have C:cP w G i=[⟨zj d,(bD w a).l++(bD w (a+1)).l⟩]:=by
   rw[Q]
   match hT:fI d (w.sl.drop a),U with
   |[S,R],_ =>
    rw[hT] at g0 J;have g0:S=⟨zj d,(bD w a).l⟩:=g0;have J:R=⟨zj d,(bD w (a+1)).l⟩:=J;grind[lI]
  have r:gT w G (i+1)=gT w G i:=by rw[eC];unfold tH;rw[wh ab]
  have g:=lay 2;rw[C,r] at g;rw[r];exact ao ld (ao u (ao E g))
 .have no:=fit.one o;have u:=qm2 d o (aN G n none) (dI w.sl.length) (aQ (gT w G i)) (iI (ofNat (a+d.nN))) (.own 17 i 0 i none) (iI (ofNat i)) (.own 34 d.nN 0 d.nN none) (Hq (fv w.sl.length (bS w) (gA w A a)) (XP w A a) (cR i (ff (cP w G))) (du (cP w G) i) [bZ d.nN d.nN (gv w A (zj d) a)]);have B:=qoU (w:=w) (A:=A) (a:=a) (m:=d.nN) no;have s:=qoV (w:=w) (A:=A) (a:=a) (m:=d.nN) no;by_cases x:d.k=8
  ·have H:=qtK d a fit P N (cP w G) i I G n (gT w G i) x V;have f:(lI d (fI d (w.sl.drop a))).length=d.nN:=by
    grind[Int.toNat_natCast,lI]
   have g:=lay 1;rw[show(cP w G i).length=d.nN from f,B,s] at g;show Pz _ _ _ _ _ _ _ _ _ _ _ [_,_,_,iI (ofNat (a+d.nN)),_,_] (Hq (fv w.sl.length (bS w) (gA w A (a+d.nN))) (XP w A (a+d.nN)) _ _ _);rw[B,s];unfold MC at H;rw[f] at H;exact ao ld (ao u (ao H g))
  .have E:=qjW d x (aN G n none) (dI w.sl.length) (aQ (gT w G i)) (iI (ofNat (a+d.nN))) (.own 17 i 0 i none) (iI (ofNat i)) (.own 34 d.nN 0 d.nN none) (Hq (fv w.sl.length (bS w) (gA w A a)) (XP w A a) (cR i (ff (cP w G))) (du (cP w G) i) [bZ d.nN d.nN (gv w A (zj d) a)]);have C:cP w G i=fI d (w.sl.drop a):=by rw[Q];unfold lI;rw[wh o,wh x]
   have r:gT w G (i+1)=gT w G i:=by rw[eC];unfold tH;rw[wh x]
   have f:(cP w G i).length=d.nN:=by rw[C];exact O
   have g:=lay d.nN;rw[f,B,s,r] at g;show Pz _ _ _ _ _ _ _ _ _ _ _ [_,_,_,iI (ofNat (a+d.nN)),_,_] (Hq (fv w.sl.length (bS w) (gA w A (a+d.nN))) (XP w A (a+d.nN)) _ _ _);rw[B,s,r];have D:=Pz.post E (v2:=_) (h2:=Hq (fv w.sl.length (bS w) (gA w A a)) (XP w A a) (cR i (ff (cP w G))) (du (cP w G) i) [.mk d.nN 2 d.nN (λe=>((cP w G i).getD e aO).c) false false none]) λnt=>.same (by
    rw[Zv _ _ _ _ [bZ _ _ _],Zv _ _ _ _ [ap.mk _ _ _ _ _ _ _]];refine ai.pre _ (.cons ⟨rfl,rfl,rfl,λh=>h,λj f=>?_⟩ .nil rfl);have f:j<d.nN:=f;show((cP w G i).getD j aO).c=[uI (zj d),gA w A a (a+j)];rw[C,yH w d a j M f];unfold gA;rw[no j f];rfl)
   exact ao ld (ao u (ao D g))
def qra(J:w.sl.length<=16)(M:∀j,j<w.sl.length->1<=(bD w j).l.length/\(bD w j).l.length<=3)(i n)(N:i<n)(hn:n<=16)(fit:rY w A (G i) (dB G i))(hc:(gT w G i).length<=600000) :
 Pq 27 [] h9 da [aN G n none,dI w.sl.length,aQ (gT w G i),iI (ofNat (dB G i)),.own 17 i 0 i none,iI (ofNat i)] (Hq (fv w.sl.length (bS w) (gA w A (dB G i))) (XP w A (dB G i)) (cR i (ff (cP w G))) (du (cP w G) i) [])
  .normal da [aN G n none,dI w.sl.length,aQ (gT w G (i+1)),iI (ofNat (dB G (i+1))),.own 17 (i+1) 0 (i+1) none,iI (ofNat (i+1))] (Hq (fv w.sl.length (bS w) (gA w A (dB G (i+1)))) (XP w A (dB G (i+1))) (cR (i+1) (ff (cP w G))) (du (cP w G) (i+1)) []):=by
 have run:=λ{p l R h Y o h1 e} (k:cD 27 p l R h Y=some (e,o,h1))=>aP [] k;obtain⟨G5,Q⟩:=qz au G16 50
 let d:=G i
 let a:=dB G i
 let m:=d.nN
 obtain⟨n4,en⟩:=am.n4 fit.ok;have P:=fit.le
 let L:=fv w.sl.length (bS w) (gA w A a)
 let X:=XP w A a
 let B:=cR i (ff (cP w G))
 let f:=du (cP w G) i
 let H:=Hq L X B f []
 let o:T:=aN G n none
 let g:T:=dI w.sl.length
 let r:T:=aQ (gT w G i)
 let u:T:=iI (ofNat a)
 let s:T:=.own 17 i 0 i none
 let lm:T:=iI (ofNat i)
 have W:=run ((prc G n i g r u s H).trans (qj (Dp N) rfl));have I:=run ((qwU G n i g r u s H).trans (qj (v5 N) rfl));have C:TO 50 [d.t] (iI (ofNat m)):=by
  have:=jU d fit.ok;rw[show d.n=ofNat m from en] at this;omega
 have E:=bR (qr qm (qn Q)) [] ((qwV G5 d (ofNat m) o g r u s lm H).trans (qj (qu Q C) rfl));have RJ:=run (qwW o g r u s lm (.ag d.c) (iI (ofNat m)) H);have D:=Pz.post (run (qwX o g r u s lm (.ag d.c) (iI (ofNat m)) .ae H)) (v2:=[o,g,r,u,s,lm,.ag d.c,iI (ofNat m),.own 35 0 0 0 none,.own 34 0 0 0 none]) (h2:=Hq L X B f [bZ 0 0 (gv w A (zj d) a),mg 0 0 (lN w a)]) λnt=>by
  refine ak.gh [bZ 0 0 (gv w A (zj d) a),mg 0 0 (lN w a)] (λb O=>?_) (.rg (.rg (.rg (.rg (.rg (.rg (.rg (.rg (.cons (.inl (.own (k:=35) (b:=mg 0 0 (lN w a)) (by show 34<=35;omega) rfl rfl)) (.cons (.inl (.own (k:=34) (b:=bZ 0 0 (gv w A (zj d) a)) (wc _) rfl rfl)) .nil)))))))))) (cT.refl _);simp only[wJ,xl,or_false] at O;rcases O with h|h<;>rw[h]<;>exact⟨rfl,rfl⟩
 have Eo:=run (qwY o g r s lm (.ag d.c) (iI (ofNat m)) (.own 35 0 0 0 none) (.own 34 0 0 0 none) (ofNat a) (Hq L X B f [bZ 0 0 (gv w A (zj d) a),mg 0 0 (lN w a)]));have S:=qq4 (A:=A) a m J P n4 d (λj Z=>by have:=(M j Z).2;omega) B f (Mz _ ab) (j6 _ _) o r s lm rfl rfl rfl rfl;have V:=qq6 (A:=A) a m J P n4 d fit.ok rfl fit.e B f (Mz _ ab) (j6 _ _) i ab G n (gT w G i) (zj d);obtain⟨_,U,_⟩:=qm3 J M i n ab fit hc;have x:=run (qw2 o g (aQ (gT w G (i+1))) (iI (ofNat (dB G (i+1)))) (.own 17 (i+1) 0 (i+1) none) i (Hq (fv w.sl.length (bS w) (gA w A (dB G (i+1)))) (XP w A (dB G (i+1))) (cR (i+1) (ff (cP w G))) (du (cP w G) (i+1)) []));rw[dH ab] at x;exact ao W (ao (cO 1 (ao I (ao E (ao RJ (ao D (ao (ao Eo (cO 2 S)) (ao V U))))))) x)
end
structure na(w:bJ)(G:Nat->am)(n:Nat):Prop where
 ok:∀j,(G j).Ok
 Ht:n<=16
 v:∀i,i<n->dX (G i)=true
 le:∀i,i<n->dB G i+(G i).nN<=w.sl.length
 e:∀i,i<n->mr (G i) (λe=>ofNat (bD w (dB G i+e)).l.length) (G i).nN=0
 row:rE G n=0
 iF:uy G n=ofNat w.sl.length
structure A2(w:bJ):Prop where
 N:w.sl.length<=16
 l:∀j,j<w.sl.length->1<=(bD w j).l.length/\(bD w j).l.length<=3
 pe:∀e,(w.q.Y e).pe.length<=100000
 tb:∀e,(w.q.tb e).length<=100000
 cr:w.cr.length<=500000
 he:w.he.length<=1000000
 fa:w.fa.length<=1000000
def MD(G:Nat->am)(n j:Nat):Bool:=decide (∃i,i<n/\((G i).k=4∨(G i).k=5)/\dB G i=j)
def qhF(G:Nat->am):∀d i,dB G i<=dB G (i+d)
 |0,i=>wc _
 |d+1,i=>wM (qhF G d i) (xR _ _)
def ME(G){i j}(h:i<j):dB G i+(G i).nN<=dB G j:=by
 have:=qhF G (j-(i+1)) (i+1);rw[show i+1+(j-(i+1))=j by omega] at this;exact this
section
variable {w:bJ} {G:Nat->am} {n:Nat}
def na.at(h:na w G n){i}(d:i<n):rY w (MD G n) (G i) (dB G i) where
 ok:=h.ok i
 v:=h.v i d
 le:=h.le i d
 e:=h.e i d
 two:=λg=>by
  refine⟨wt ⟨i,d,g,rfl⟩,?_⟩;unfold MD;rw[wV];rintro⟨a,k,j,o⟩;have n2:=am.oQ (h.v i d) g;have f:=am.oQ (h.v a k) j;rcases Nat.lt_trichotomy i a with c|c|c
  .have:=ME G c;omega
  .grind
  .have:=ME G c;omega
 one:=λg e he=>by
  unfold MD;rw[wV];rintro⟨a,k,j,o⟩;have f:=am.oQ (h.v a k) j;rcases Nat.lt_trichotomy i a with c|c|c
  .have:=ME G c;omega
  .grind
  .have:=ME G c;omega
def na.crl(h:na w G n)(hw:A2 w):∀i,i<=n->(gT w G i).length<=w.cr.length+256*i:=by
 intro i
 induction i with
 |zero=>intro _;exact wc _
 |succ i d =>
  intro o;have f:=h.at (i:=i) ab;obtain⟨n4,_⟩:=am.n4 f.ok;have k:=f.le;have s:=KM (G i) (w.sl.drop (dB G i)) (by rw[vv];omega);have g:∀x∈fI (G i) (w.sl.drop (dB G i)),x.l.length<=4:=λx hx=>by
   obtain⟨e,he,rfl⟩:=xU.1 hx;have:=yH w (G i) (dB G i) e k ab;rw[wg,wi he] at this;rw[show(fI (G i) (w.sl.drop (dB G i)))[e]=_ from this];show(bD w (dB G i+e)).l.length<=4;have:=(hw.l (dB G i+e) ab).2;omega
  show(tH (G i) (fI (G i) (w.sl.drop (dB G i))) (gT w G i)).length<=_;unfold tH;split
  .rw[qdG,←jH];have:=KK (AY ((fI (G i) (w.sl.drop (dB G i))).drop (G i).a.toNat) (Eg (G i).f)) ((fI (G i) (w.sl.drop (dB G i))).take (G i).a.toNat) (gT w G i) 64 (λc y j=>qm0 (g y (ug j)) (λr hr=>g r (uj hr)) (by rw[vv];omega)) aO _ (wc _);grind
  .omega
end
def RK:t8:=(List.range 17).map (17+·)
def qxv:∀j,j<16->QW RK (18+j)=some (1+j):=by decide
def MF(l:Nat->List aB)(j:Nat):t7:=[.own (1+j) 1 0 (l j).length none]
def Ep(w:bJ)(G:Nat->am)(n:Nat):qa:=Hf (cR n (MF (cP w G))) (du (cP w G) n) []
def qtL(w:bJ)(G:Nat->am)(n:Nat)(hw:A2 w)(fit:na w G n):aR au G16 27 [.agg (w.cc none),aN G n none] [] (.aJ [.own 0 n 0 n none,aQ (gT w G n),iI 0]) (Ep w G n):=by
 have run:=λ{p l W h l1 g r e} (k:cD 27 p l W h l1=some (e,g,r))=>aP [] k;have hn:=fit.Ht;have Q:=hw.N
 let N:=w.sl.length
 let A:=MD G n
 let o:=cP w G
 obtain⟨L,U⟩:=qz au G16 54;obtain⟨RL,S⟩:=qz au G16 20;obtain⟨J,R⟩:=ZY au G16 22;have C:TO 54 [aN G n none] (iI 0):=by
  have:=qn6 G n none ab fit.ok;rw[fit.row] at this;exact this
 have E:TO 20 [aN G n none] (iI (uy G n)):=KF G n none ab fit.ok;have D:=PV A w Q (λj u=>⟨(hw.l j u).1,by have:=(hw.l j u).2;omega⟩) (λe=>by have:=hw.pe e;omega) (λe=>by have:=hw.tb e;omega) (by have:=hw.cr;omega) hw.he hw.fa;have q0:=run (pr0 w (aN G n none));have q1:=bR (qr qm (qn U)) [] ((pr1 L w G n).trans (qj (qu U C) rfl));have q2:=bR (qr qm (qn S)) [] ((pr2 RL w G n (uy G n)).trans (qj (qu S E) (qB (by rw[fit.iF];simp) rfl)));have q3:=bR (qA qm (Qy R)) [] ((pr3 J w G n N (bZ N N (iU A w)) (XA A w N) (Yf 6 (YF w)) (cR 6 (mK w)) (RS w 6) (aQ w.cr) (bB w.he) (bB w.fa) w.d).trans (qj (QR R D) rfl))
 let s:qa:=nv (bZ N N (iU A w)) (XA A w N) (Yf 6 (YF w)) (cR 6 (mK w)) (RS w 6) []
 let M:T:=.ag [.own 0 N 0 N none,.own 17 6 0 6 none,.own 18 6 0 6 none,aQ w.cr,bB w.he,bB w.fa,uI w.d]
 let g:T:=aN G n none
 have Z:=run (pr4 g (.own 0 N 0 N none) (.own 17 6 0 6 none) (.own 18 6 0 6 none) (bB w.he) (bB w.fa) (uI w.d) w.cr s);have Y:=run (pr5 g M (aQ w.cr) s);have q6:=run (pr6 g M (aQ w.cr) (iI 0) s)
 let V:Nat->t7:=λi=>[g,dI N,aQ (gT w G i),iI (ofNat (dB G i)),.own 17 i 0 i none,iI (ofNat i)]
 let H:Nat->qa:=λi=>Hq (fv N (bS w) (gA w A (dB G i))) (XP w A (dB G i)) (cR i (ff o)) (du o i) []
 have q7:=Pz.post (run (pr7 g M (aQ w.cr) (iI 0) .ae s)) (v2:=V 0) (h2:=H 0) λnt=>by
  refine .trans (h1:=s) (dM:=[g,dI N,aQ w.cr,iI 0,.ae,iI 0]) (ak.fgR (.rg (.cons (.inr ⟨_,_,rfl,rfl,rfl,λi a b r f=>?_⟩) (.rg (.rg (.rg (.rg .nil))))))) ?_
  .match i,r,f with
   |0,r,f=>grind
   |1,_,f=>grind
   |2,_,f=>grind
   |3,_,f=>grind
   |4,_,f=>grind
   |5,_,f=>grind
   |6,_,f=>grind
   |i+7,_,f=>cases f
  let B:qa:=(Hq (fv N (bS w) (gA w A 0)) (XP w A 0) (cR 0 (ff o)) (du o 0) []).take 17
  refine .trans (h1:=B) (dM:=[g,dI N,aQ w.cr,iI 0,.ae,iI 0]) ?_ ?_
  .refine ak.En (n:=17) (p:=B) (z:=s.drop 17) rfl (wN _) rfl (λx hx=>?_) (λb P=>?_)
   .simp only[wJ,xl,or_false] at hx;rcases hx with h|h|h|h|h|h
    all_goals (rw[h];rfl)
   .have hs:fw 17 (fv N (bS w) (gA w A 0)):=KL ab;revert b;refine vS.2 ⟨hs,?_⟩
    repeat (first|exact List.forall_mem_nil _|refine vS.2 ⟨HL,?_⟩)
  .refine ak.gh (cR 0 (ff o)::(List.range 16).map (du o 0)) (λb P=>?_) (.rg (.rg (.rg (.rg (.cons (.inl (.own (k:=17) (b:=cR 0 (ff o)) (wc _) rfl rfl)) (.rg .nil)))))) (cT.refl _);rcases wJ.1 P with h|h
   .rw[h];exact⟨rfl,rfl⟩
   .obtain⟨k,_,rfl⟩:=wY.1 h;exact⟨by rfl,rfl⟩
 have round:∀i,i<n->Pq 27 [] h9 da (V i) (H i) .normal da (V (i+1)) (H (i+1)):=λi O =>
  qra (A:=A) Q hw.l i n O hn (fit.at O) (by have:=fit.crl hw i ab;have:=hw.cr;omega)
 have last:=Pz.post (run ((prx G n n (dI N) (aQ (gT w G n)) (iI (ofNat (dB G n))) (.own 17 n 0 n none) (H n)).trans (qB (Dq (wc _)) rfl))) (v2:=[aQ (gT w G n),.own 0 n 0 n none]) (h2:=Ep w G n) λnt=>by
  refine ak.cu RK rfl rfl rfl (.cons ⟨rfl,rfl,rfl,λh=>h,λj u=>?_⟩ ?_ rfl)
  .have u:j<n:=u;show [T.own (1+j) 1 0 (o j).length none]=[qO RK (H n) (.own (18+j) 1 0 (o j).length none)];simp only[qO,qxv j ab]
  .repeat (first|exact .nil|refine .cons ⟨rfl,rfl,rfl,λh=>h,λ_ _=>rfl⟩ ?_ rfl)
 have lp:Pq 27 [] mT da (V 0) (H 0) (.exit 0) [8,10] [aQ (gT w G n),.own 0 n 0 n none] (Ep w G n):=Pz.count qh V H (n:=n) aq round (ed last);have I:=run (qw3 (gT w G n) n (Ep w G n));exact Pz.fG (A:=ar) qY Tryz.func27 qh qh (l:=ir) rfl
  (ao q0 (ao q1 (ao q2 (ao q3 (ao Z (ao Y (ao q6
   (ao (ao q7 (cO 0 lp)) I)))))))) rfl
def ro0(w:bJ)(a:T):cD 34 [1] ir [.agg (w.cc none),a] [] te =
( zN [a,bu w,.ag [.ae,.ae,.ae,.ae,.ae,.ae,uI 0]] []):=qh
def ro1(p:t7->qa->T->qa->Prop)(w:bJ)(G:Nat->am)(n:Nat)(c:List aU)(H:qa):cK (qt.bW 27 (kH p λ_ _=>some (.aJ [.own 0 n 0 n none,aQ c,iI 0],H))) 34 eH te [aN G n none,bu w,.ag bE] [] [1,2,4,6,7,8] =
( gD (qx (p [.agg (w.cc
 none),aN G n
 none] [] (.aJ [.own 0 n 0 n
 none,aQ c,iI 0]) H))<|zN [aN G n
 none,bu w,.ag [.ae,.ae,.ae,.ae,.ae,.ae,uI 0],.own 0 n 0 n
 none,aQ c,iI 0] H):=qh
def ro2(a b c d e:T)(H:qa):cD 34 lD [1,2,4,6,7,8] [a,b,c,d,e,iI 0] H [1,2,4,6,7] =
( zN [a,b,c,d,e] H):=qh
def ro6(w:bJ)(a c d e:T)(H:qa):cD 34 eK [1,2,4,6,9] [a,bu w,c,d,e] H [1,2,4,6,9,10] =
( zN [a,bu w,c,d,e,iI (i64.wrap w.d)] H):=qh
def ro7(a b c d e f:T)(H:qa):cD 34 lY [1,2,4,6,9,10] [a,b,c,d,e,f] H [1,2,4,6,9,10,11] =
( zN [a,b,c,d,e,f,.ag [iI (-13:Int),iI 179]] H):=qh
def ro8(a b c d e f g:T)(H:qa):cD 34 qs [1,2,4,6,9,10,11] [a,b,c,d,e,f,g] H b5 =
( zN [a,b,c,d,e,f,g,iI 1] H):=qh
def roc(a b c d e f g:T)(y:Int)(H:qa):cD 34 gN b5 [a,b,c,d,e,f,g,iI y] H b5 =
( bif decide (y<=6) then zN [a,b,c,d,e,f,g,iI y] H else
 zX 0 [a,b,c,d,e,f,g,iI y] H):=qh
def qxw(a b c d e f g:T)(y:Int)(H:qa):cD 34 gN b5 [a,b,c,d,e,f,g,iI y] H rP =
( bif decide (y<=6) then zN [b,c,d,e] H else
 zX 0 [b,c,d,e] H):=qh
def qxx(a b c d e f g y:T)(H:qa):cD 34 pL b5 [a,b,c,d,e,f,g,y] H eG =
( zN [a,b,c,d,e,f,g,y,iI 0] H):=qh
def qxy(a b c d e f g y u:T)(H:qa):cD 34 [1,1,2,0,1,2,0,0,2,1,2,2,2,2,2,2,2] eG [a,b,c,d,e,f,g,y,u] H b9 =
( zN [a,b,c,d,e,f,g,y,u,iI 0] H):=qh
def qxz(G:Nat->am)(b c d e f g y u:T)(n i:Nat)(H:qa):cD 34 mh b9 [aN G n none,b,c,d,e,f,g,y,u,iI (ofNat i)] H b9 =
( bif decide (ofNat i<ofNat n) then zN [aN G n
 none,b,c,d,e,f,g,y,u,iI (.ofNat i)] H else
 zX 2 [aN G n
 none,b,c,d,e,f,g,y,u,iI (.ofNat i)] H):=qh
def qtM(G:Nat->am)(b c d e f g y u:T)(n i:Nat)(H:qa):cD 34 mh b9 [aN G n none,b,c,d,e,f,g,y,u,iI (ofNat i)] H eG =
( bif decide (ofNat i<ofNat n) then zN [aN G n
 none,b,c,d,e,f,g,y,u] H else
 zX 2 [aN G n
 none,b,c,d,e,f,g,y,u] H):=qh
def qxA(G:Nat->am)(b c d e f g:T)(n i:Nat)(y u:Int)(H:qa):cD 34 lO b9 [aN G n none,b,c,d,e,f,g,iI y,iI u,iI (ofNat i)] H b9 =
( gD (decide (0<=ofNat i)&&decide (ofNat i<ofNat n))<|bif decide (i64.wrap (G i).y=y) then zN [aN G n
 none,b,c,d,e,f,g,iI y,iI 1,iI (.ofNat i)] H else
 zN [aN G n
 none,b,c,d,e,f,g,iI y,iI u,iI (.ofNat i)] H):=qh
def qxB(a b c d e f g y u:T)(i:Nat)(H:qa):cD 34 [2,2,0,0,2,1,2,0,1,2,0,0,2,1,2,2,2,2,2,2,2] b9 [a,b,c,d,e,f,g,y,u,iI (ofNat i)] H b9 =
( zN [a,b,c,d,e,f,g,y,u,iI (i64.wrap (ofNat i+1))] H):=qh
def qxC(a b c d e f g y:T)(u:Int)(H:qa):cD 34 pf eG [a,b,c,d,e,f,g,y,iI u] H b5 =
( bif decide (u=0) then zX 1 [a,b,c,d,e,f,g,y] H else
 zN [a,b,c,d,e,f,g,y] H):=qh
def qxD(a b c d e f g:T)(K:Nat)(H:qa):cD 34 ri b5 [a,b,c,d,e,f,g,yK K] H b5 =
( zN [a,b,c,d,e,f,g,iI (i64.wrap (ofNat K+1+(1:Int)))] H):=qh
def HU(w:bJ)(a y t:T):ap:=.mk 0 7 1 (λe=>[bif e==0 then a else .ae,bif e==0 then y else .ae,bif e==0 then t else .ae,bif e==0 then aQ w.cr else .ae,bif e==0 then bB w.he else .ae,bif e==0 then bB w.fa else .ae,uI (bif e==0 then w.d else 0)]) false false none
def ro4(p)(w)(a c d:T)(G)(n N)(e)(f)(b)(X)(y t)(R):cK (qt.bW 22 (kH p λ_ _=>some (.agg [.own 17 N 0 N none,.own 34 6 0 6 none,.own 35 6 0 6 none,aQ w.cr,bB w.he,bB w.fa,uI w.d],Hf e f (nv b X y t R [])))) 34 dd [1,2,4,6,7] [aN G n none,bu w,a,c,d] (Hf e f []) tp =
 (bif qx (p [.agg (w.cc none)] (Hf e f []) (.agg [.own 17 N 0 N none,.own 34 6 0 6 none,.own 35 6 0 6 none,aQ w.cr,bB w.he,bB w.fa,uI w.d]) (Hf e f (nv b X y t R []))) then some (.normal,[aN G n none,bu w,a,c,d,.ptr 42 0 0 0],Hf e f (nv b X y t R [HU w (.own 17 N 0 N none) (.own 34 6 0 6 none) (.own 35 6 0 6 none)])) else none):=qh
def ro5(g:List aB)(cr cc)(he fa)(f)(Y)(ln v)(L)(rest)(a b c d:T):cD 34 k7 tp [a,b,c,d,aQ cc,p0] (HW ⟨.undef,aQ cr,bB he,bB fa,f⟩ Y ln v L rest) [1,2,4,6,9] =
 some (.normal,[a,b,c,d,p0],.mk 0 7 1 (λe=>[bif e==0 then .undef else .undef,bif e==0 then .own 1 0 0 6 none else .own 1 0 0 6 none,bif e==0 then .own 2 0 0 6 none else .own 2 0 0 6 none,bif e==0 then aQ cc else aQ cr,bif e==0 then bB he else bB he,bif e==0 then bB fa else bB fa,uI (bif e==0 then f else f)]) false false none::yB Y::tB ln v::rB ln v L 0::rB ln v L 1::rB ln v L 2::rB ln v L 3::rB ln v L 4::rB ln v L 5::rest):=qh
def qxE(x)(Y)(ln v)(L)(rest)(K)(a b c d f g:T):cD 34 nL b5 [a,b,c,d,p0,f,g,yK K] (HW x Y ln v L rest) ac =
 (bif decide (0<=yD K)&&decide (yD K<6) then some (.normal,[a,b,c,d,p0,f,g,yK K,yP (om K)],HW x Y ln v L rest) else none):=qh
def qxF(x)(Y)(ln v)(L)(rest)(K)(a b c d y:T)(r):cD 34 l9 ac [a,b,c,d,p0,iI r,.ag [iI (-13),iI 179],y,yP K] (HW x Y ln v L rest) r0 =
 (bif K.blt 6 then bif (Y K).i then some (.normal,[a,b,c,d,p0,iI r,.ag [iI (-13),iI 179],y,yP K,.bool false],HW x Y ln v L rest) else some (.normal,[a,b,c,d,p0,iI r,.ag [iI (-13),iI 179],y,yP K,.bool true],HW x Y ln v L rest) else none):=qh
def qxG(x)(Y)(ln v)(L)(rest)(K)(a b c d y:T)(r):cD 34 [1,3,2,1,2,2,2,2,0,1,2,0,0,2,1,2,2,2,2,2,2,2] ac [a,b,c,d,p0,iI r,.ag [iI (-13),iI 179],y,yP K] (HW x Y ln v L rest) ac =
 (bif K.blt 6&&true&&true&&true then some (.normal,[a,b,c,d,p0,iI r,.ag [iI (-13),iI 179],y,yP K],sU x (yG Y K [.bool true,iI (Y K).pl,iI (Y K).ct,.bool (Y K).w,bY (Y K).pe (Y K).np none]) (tB ln v) ln v L rest) else none):=qh
def qxH(x)(Y)(ln v)(L)(rest)(K)(a b c d y:T)(r):cD 34 [1,2,3,2,1,2,2,2,2,0,1,2,0,0,2,1,2,2,2,2,2,2,2] ac [a,b,c,d,p0,iI r,.ag [iI (-13),iI 179],y,yP K] (HW x Y ln v L rest) ac =
 (bif K.blt 6&&true&&true&&true then some (.normal,[a,b,c,d,p0,iI r,.ag [iI (-13),iI 179],y,yP K],sU x (yG Y K [.bool (Y K).i,iI (Y K).pl,iI (Y K).ct,.bool true,bY (Y K).pe (Y K).np none]) (tB ln v) ln v L rest) else none):=qh
def qtN(x)(Y)(ln v)(L)(rest)(K)(a b c d y:T):cD 34 eN ac [a,b,c,d,p0,iI 1,.ag [iI (-13),iI 179],y,yP K] (HW x Y ln v L rest) ac =
 (bif K.blt 6&&true&&true&&true then some (.normal,[a,b,c,d,p0,iI 1,.ag [iI (-13),iI 179],y,yP K],sU x (yG Y K [.bool (Y K).i,iI (-13),iI (Y K).ct,.bool (Y K).w,bY (Y K).pe (Y K).np none]) (tB ln v) ln v L rest) else none):=qh
def qtO(x)(Y)(ln v)(L)(rest)(K)(a b c d y:T):cD 34 fN ac [a,b,c,d,p0,iI 1,.ag [iI (-13),iI 179],y,yP K] (HW x Y ln v L rest) kb =
 (bif K.blt 6 then bif !decide ((Y K).pl=(-13)) then some (.normal,[a,b,c,d,p0,iI 1,.ag [iI (-13),iI 179],y,yP K,.bool true],HW x Y ln v L rest) else some (.normal,[a,b,c,d,p0,iI 1,.ag [iI (-13),iI 179],y,yP K,.bool false],HW x Y ln v L rest) else none):=qh
def qtP(x)(Y)(ln v)(L)(rest)(K)(a b c d y:T):cD 34 fP ac [a,b,c,d,p0,iI 1,.ag [iI (-13),iI 179],y,yP K] (HW x Y ln v L rest) b5 =
 (bif K.blt 6&&true&&true&&true then some (.normal,[a,b,c,d,p0,iI 1,.ag [iI (-13),iI 179],y],sU x (yG Y K [.bool (Y K).i,iI 179,iI (Y K).ct,.bool (Y K).w,bY (Y K).pe (Y K).np none]) (tB ln v) ln v L rest) else none):=qh
def qtQ(q)(H d)(G)(n a)(K)(b c e:T):cK (qt.bW 62 (kH q λ_ _=>some (.aJ [],d))) 34 fq ac [aN G n none,b,c,oL a n,p0,iI 1,.ag [iI (-13),iI 179],yK K,e] H ac =
 (bif qx (q [p0,aN G n none,oL a n,yK K,iI 0,iI 0] H (.aJ []) d) then some (.normal,[aN G n none,b,c,oL a n,p0,iI 1,.ag [iI (-13),iI 179],yK K,e],d) else none):=qh
def qtR(q)(H d)(G)(n a)(K)(b c e:T):cK (qt.bW 62 (kH q λ_ _=>some (.aJ [],d))) 34 c5 ac [aN G n none,b,c,oL a n,p0,iI 1,.ag [iI (-13),iI 179],yK K,e] H ac =
 (bif qx (q [p0,aN G n none,oL a n,yK K,iI 1,iI 1] H (.aJ []) d) then some (.normal,[aN G n none,b,c,oL a n,p0,iI 1,.ag [iI (-13),iI 179],yK K,e],d) else none):=qh
def qtS(x)(Y)(ln v)(L)(rest)(K)(a b c d y:T):cD 34 eN ac [a,b,c,d,p0,iI 0,.ag [iI (-13),iI 179],y,yP K] (HW x Y ln v L rest) ac =
 (bif K.blt 6&&true&&true&&true then some (.normal,[a,b,c,d,p0,iI 0,.ag [iI (-13),iI 179],y,yP K],sU x (yG Y K [.bool (Y K).i,iI 179,iI (Y K).ct,.bool (Y K).w,bY (Y K).pe (Y K).np none]) (tB ln v) ln v L rest) else none):=qh
def qtT(x)(Y)(ln v)(L)(rest)(K)(a b c d y:T):cD 34 fN ac [a,b,c,d,p0,iI 0,.ag [iI (-13),iI 179],y,yP K] (HW x Y ln v L rest) kb =
 (bif K.blt 6 then bif !decide ((Y K).pl=179) then some (.normal,[a,b,c,d,p0,iI 0,.ag [iI (-13),iI 179],y,yP K,.bool true],HW x Y ln v L rest) else some (.normal,[a,b,c,d,p0,iI 0,.ag [iI (-13),iI 179],y,yP K,.bool false],HW x Y ln v L rest) else none):=qh
def qtU(x)(Y)(ln v)(L)(rest)(K)(a b c d y:T):cD 34 fP ac [a,b,c,d,p0,iI 0,.ag [iI (-13),iI 179],y,yP K] (HW x Y ln v L rest) b5 =
 (bif K.blt 6&&true&&true&&true then some (.normal,[a,b,c,d,p0,iI 0,.ag [iI (-13),iI 179],y],sU x (yG Y K [.bool (Y K).i,iI (-13),iI (Y K).ct,.bool (Y K).w,bY (Y K).pe (Y K).np none]) (tB ln v) ln v L rest) else none):=qh
def qtV(q)(H d)(G)(n a)(K)(b c e:T):cK (qt.bW 62 (kH q λ_ _=>some (.aJ [],d))) 34 fq ac [aN G n none,b,c,oL a n,p0,iI 0,.ag [iI (-13),iI 179],yK K,e] H ac =
 (bif qx (q [p0,aN G n none,oL a n,yK K,iI 1,iI 0] H (.aJ []) d) then some (.normal,[aN G n none,b,c,oL a n,p0,iI 0,.ag [iI (-13),iI 179],yK K,e],d) else none):=qh
def qtW(q)(H d)(G)(n a)(K)(b c e:T):cK (qt.bW 62 (kH q λ_ _=>some (.aJ [],d))) 34 c5 ac [aN G n none,b,c,oL a n,p0,iI 0,.ag [iI (-13),iI 179],yK K,e] H ac =
 (bif qx (q [p0,aN G n none,oL a n,yK K,iI 0,iI 1] H (.aJ []) d) then some (.normal,[aN G n none,b,c,oL a n,p0,iI 0,.ag [iI (-13),iI 179],yK K,e],d) else none):=qh
def qtX(a b c d e f g h i j:T)(H):cD 34 [4,2,1,2,2,2,2,0,1,2,0,0,2,1,2,2,2,2,2,2,2] r0 [a,b,c,d,e,f,g,h,i,j] H ac=some (.normal,[a,b,c,d,e,f,g,h,i],H):=qh
def qtY(a b c d e f g h i j:T)(H):cD 34 [4,2,1,2,2,2,2,2,0,1,2,0,0,2,1,2,2,2,2,2,2,2] kb [a,b,c,d,e,f,g,h,i,j] H ac=some (.normal,[a,b,c,d,e,f,g,h,i],H):=qh
def rj(e:T)(a g2:Nat->t7)(cr:List aU)(he fa:List aw)(d:Int):ap:=.mk 0 7 1 (λ_=>[e,.view 5 6 a none,.view 1 6 g2 none,aQ cr,bB he,bB fa,uI d]) false false none
def Er(i g:T)(a g2:Nat->t7)(cr:List aU)(h2 he fa:List aw)(f d:Int):ap:=.mk 0 7 1 (λe=>[bif e==0 then i else g,bif e==0 then .view 5 6 a none else .view 5 6 a none,bif e==0 then .view 1 6 g2 none else .view 1 6 g2 none,bif e==0 then aQ cr else aQ cr,bif e==0 then bB h2 else bB he,bif e==0 then bB fa else bB fa,uI (bif e==0 then f else d)]) false false none
def qxI(e:T)(g:e = .undef)(f g2)(cr)(he fa)(d)(a b c:T)(H):cD 34 [1,2,2,2,2,2,2,2,2] rP [a,b,c,p0] (rj e f g2 cr he fa d::H) rP=some (.normal,[a,b,c,p0],Er .ae e f g2 cr he he fa d d::H):=by
 rfl
def qxJ(a b c d:T)(H):cD 34 [1,1,2,2,2,2,2,2,2,2,2] rP [a,b,c,d] H hH=some (.normal,[a,b,c,d,iI 0],H):=qh
def qxK(a b c d:T)(i)(H):cD 34 [2,2,0,0,2,1,2,2,2,2,2,2,2,2,2] hH [a,b,c,d,iI (ofNat i)] H hH=some (.normal,[a,b,c,d,iI (i64.wrap (ofNat i+1))],H):=qh
def oT(n:Nat)(vs a:Nat->Nat):ap:=.mk n 1 n (λj=>[.own (2+j) (vs j) 0 (a j) none]) false false none
def qxL(e)(n)(vs d)(a b c:T)(i)(H):cD 34 pT hH [a,b,.own 1 n 0 n none,c,iI (ofNat i)] (e::oT n vs d::H) hH=(bif n==n&&true then bif decide (ofNat i<ofNat n) then some (.normal,[a,b,.own 1 n 0 n none,c,iI (ofNat i)],e::oT n vs d::H) else some (.exit 4,[a,b,.own 1 n 0 n none,c,iI (ofNat i)],e::oT n vs d::H) else none):=qh
def qtZ(e)(n)(vs d)(a b c:T)(i)(H):cD 34 pT hH [a,b,.own 1 n 0 n none,c,iI (ofNat i)] (e::oT n vs d::H) [2,4,9]=(bif n==n&&true then bif decide (ofNat i<ofNat n) then some (.normal,[a,b,c],e::oT n vs d::H) else some (.exit 4,[a,b,c],e::oT n vs d::H) else none):=qh
def flG(m:Nat)(g:Nat->t7)(sl:List aB)(j:Nat):t7:=bif j.blt m then g (0+j) else(sl.getD (0+(j-m)) aO).c
def flP(m l:Nat)(g:Nat->t7)(sl:List aB)(j:Nat):t7:=bif (0+m).ble j&&j.blt (0+m+l) then(sl.getD (0+(j-(0+m))) aO).c else g j
def qxM(k)(j:k<16)(v m e n:Nat)(vs a:Nat->Nat)(g:Nat->t7)(sl:List aB)(f:Nat->ap)(i g2:Nat->t7)(cr:List aU)(he fa:List aw)(d:Int)(b c:T):cK (KG qt) 34 [0,1,2,0,0,2,1,2,2,2,2,2,2,2,2,2] hH [b,c,.own 1 n 0 n none,p0,iI (ofNat k)] (rj (.own 18 v 0 m none) i g2 cr he fa d::Hf (oT n vs a) (fX f k (gX (vs k) e sl)) [bZ v m g]) hH =
 (bif n==n&&true then bif dj k n then bif n==n&&true then bif k.blt n then bif vs k==vs k&&true then bif (0+a k).ble e then bif v==v&&true then bif (0+m).ble m then bif a k==0 then some (.normal,[b,c,.own 1 n 0 n none,p0,iI (ofNat k)],(Er (.own 18 v 0 m none) (.own 18 v 0 m none) i g2 cr he he fa d d::Hf (oT n vs a) (fX f k (gX (vs k) e sl)) [bZ v m g])) else bif ((m+a k)*33).ble 70368744177664 then bif (0+m+a k).ble m then some (.normal,[b,c,.own 1 n 0 n none,p0,iI (ofNat k)],(Er (.own 18 v 0 (m+a k) none) (.own 18 v 0 m none) i g2 cr he he fa d d::Hf (oT n vs a) (fX f k (gX (vs k) e sl)) [bZ v m (flP m (a k) g sl)])) else some (.normal,[b,c,.own 1 n 0 n none,p0,iI (ofNat k)],(Er (.own 18 (v+1) 0 (m+a k) none) (.own 18 v 0 m none) i g2 cr he he fa d d::Hf (oT n vs a) (fX f k (gX (vs k) e sl)) [bZ (v+1) (m+a k) (flG m g sl)])) else none else none else none else none else none else none else none else none else none ):=by
 cases Qb j
 all_goals kernel_rfl
def qxN(p)(v m:Nat)(sl)(a g2:Nat->t7)(cr:List aU)(h2 he fa:List aw)(d:Int)(b c:T):cK (qt.add 29 (qH p λ_=>some (.new (bB h2)))) 34 [1,2,2,2,2,2,2,2,2,2,2] [2,4,9] [b,c,p0] [rj (bQ sl none) a g2 cr he fa d] [2,4,9] =
 (bif qx (p [bQ sl none] (.new (bB h2))) then some (.normal,[b,c,p0],[Er (bQ sl none) (bQ sl none) a g2 cr h2 he fa d d]) else none):=qh
def qxO(w)(c:T)(sl)(a g2)(cr)(he fa)(d):cD 34 [1,2,2,2,2,2,2,2,2,2,2,2] [2,4,9] [bu w,c,p0] [rj (bQ sl none) a g2 cr he fa d] [4,9] =
 some (.normal,[c,p0],[Er (bQ sl none) (bQ sl none) a g2 cr he he fa (u8.wrap (1-w.d)) d]):=qh
def qxP(sl)(a g2)(cr)(he fa)(d):cD 34 [2,2,2,2,2,2,2,2,2,2,2,2] [4,9] [.ag bE,p0] [rj (bQ sl none) a g2 cr he fa d] tk =
 some (.ret,[.ag [bQ sl none,.view 5 6 a none,.view 1 6 g2 none,aQ cr,bB he,bB fa,uI d],iI 0],[rj (bQ sl none) a g2 cr he fa d]):=qh
def am.uH{s:am}(h:dX s=true):s.nN=if s.k=3 then 0 else if s.k=4∨s.k=5 then 2 else if s.k=8 then(i64.wrap (s.a+s.b)).toNat else 1:=by
 grind[am.n,am.nN]
def qjY(s:am):zj s=0∨zj s=1:=by unfold zj;split<;>simp
structure nW(s:am)(l:List aB):Prop where
 g:Rq s l
 ne:∀x∈l,x.l≠[]
 one:s.k=6->∃x,l=[x]
 RM:s.k=7->l≠[]
def MG{w:bJ}{A:Nat->Bool}{d:am}{a:Nat}(fit:rY w A d a)(r:∀j,j<w.sl.length->1<=(bD w j).l.length/\(bD w j).l.length<=3):nW d (lI d (fI d (w.sl.drop a))):=by
 have H:=fit.le;obtain⟨n4,_⟩:=am.n4 fit.ok;have hn:=am.uH fit.v;have g:=KM d (w.sl.drop a) (by rw[vv];omega);have mem:∀x∈fI d (w.sl.drop a),∃e,e<d.nN/\x=⟨zj d,(bD w (a+e)).l⟩:=λx hx=>by
  obtain⟨e,he,rfl⟩:=xU.1 hx;refine⟨e,ab,?_⟩;have:=yH w d a e H ab;rw[wg,wi he] at this;grind
 have ok:∀x∈fI d (w.sl.drop a),(x.b=0∨x.b=1)/\1<=x.l.length/\x.l.length<=3:=λx hx=>by
  obtain⟨e,he,rfl⟩:=mem x hx;exact⟨qjY d,r (a+e) ab⟩
 have all:∀l:List aB,(∀x∈l,x∈fI d (w.sl.drop a))->l.length<=4->sX l/\(∀x∈l,x.l≠[])/\∀x∈l,x.l.length<=3:=λl h D =>
  ⟨⟨D,λx hx=>⟨(ok x (h x hx)).1,by have:=(ok x (h x hx)).2.2;omega⟩⟩,λx hx e=>by have:=(ok x (h x hx)).2.1;rw[e] at this;grind,λx hx=>(ok x (h x hx)).2.2⟩
 by_cases f:d.k=4∨d.k=5
 ·have E:d.nN=2:=am.oQ fit.v f;have g0:=yH w d a 0 H ab;have s:=yH w d a 1 H ab;have o:lI d (fI d (w.sl.drop a))=[⟨zj d,(bD w a).l++(bD w (a+1)).l⟩]:=by
   match hT:fI d (w.sl.drop a),g.trans E with
   |[J,I],_ =>
    rw[hT] at g0 s;have g0:J=⟨zj d,(bD w a).l⟩:=g0;have s:I=⟨zj d,(bD w (a+1)).l⟩:=s;unfold lI;rw[wl f,g0,s];simp
  rw[o];obtain⟨O,N⟩:=r a ab;obtain⟨Q,P⟩:=r (a+1) ab;have D:(bD w a).l.length+(bD w (a+1)).l.length<=4:=by
   have he:=fit.e;rw[E] at he;have M:Zi (λe=>ofNat (bD w (a+e)).l.length) 2=true:=(yq _ 2).2 λi R=>by
    rw[Yp];have:=r (a+i) ab;simp only[wn];omega
   rw[VA fit.v E.symm M,wl f] at he;split at he
   .cases he
   .rename_i q;simp only[wn] at q;have q:¬4<(((bD w (a+0)).l.length:Int)+(bD w (a+1)).l.length):=q;rw[Nat.add_zero] at q;omega
  refine⟨⟨⟨aq,λx hx=>?_⟩,⟨λh=>ab,λ_=>by simp⟩,λh=>ab⟩,λx hx=>?_,λh=>ab,λ_=>by simp⟩
  .rw[wL.1 hx];exact⟨qjY d,by rw[wC];exact D⟩
  grind
 .by_cases C:d.k=8
  .have o:lI d (fI d (w.sl.drop a))=(fI d (w.sl.drop a)).drop d.a.toNat++(fI d (w.sl.drop a)).take d.a.toNat:=by unfold lI;rw[wh f,wl C]
   rw[o];obtain⟨B,u,_⟩:=all ((fI d (w.sl.drop a)).drop d.a.toNat++(fI d (w.sl.drop a)).take d.a.toNat) (λx hx=>by
    grind) (by rw[wC,vv,vL];omega)
   exact⟨⟨B,⟨λh=>ab,λh=>ab⟩,λh=>ab⟩,u,λh=>ab,λh=>ab⟩
  .have o:lI d (fI d (w.sl.drop a))=fI d (w.sl.drop a):=by unfold lI;rw[wh f,wh C]
   rw[o];obtain⟨B,u,L⟩:=all (fI d (w.sl.drop a)) (λx hx=>hx) ab;rw[wh f,wh C] at hn;refine⟨⟨B,⟨λh=>?_,λh=>?_⟩,λ_=>L⟩,u,λh=>?_,λh=>?_⟩
   .rw[wl h] at hn;exact vU (g.trans hn)
   .rw[wh ab] at hn;intro e;rw[e,hn] at g;cases g
   .rw[wh ab] at hn;rw[hn] at g
    match hT:fI d (w.sl.drop a),g with
    |[x],_=>exact⟨x,rfl⟩
   grind
def uF.ne{s:am}{l l':List aB}(h:uF s l l')(hn:∀x∈l,x.l≠[]):∀x∈l',x.l≠[]:=by
 intro x hx e;have a:x.l.length∈AW s l:=by rw[←h.1];exact wY.2 ⟨x,hx,rfl⟩
 rw[e] at a;revert a;have f:∀y∈l,0<y.l.length:=λy d=>un.2 (hn y d);unfold AW;grind
def qxQ(right)(x)(Y)(ln v)(L)(rest)(K)(a b c d y:T):cD 34 eN ac [a,b,c,d,p0,iI (rI right),.ag [iI (-13),iI 179],y,yP K] (HW x Y ln v L rest) ac =
 (bif K.blt 6&&true&&true&&true then some (.normal,[a,b,c,d,p0,iI (rI right),.ag [iI (-13),iI 179],y,yP K],sU x (yG Y K [.bool (Y K).i,iI (zi (!right)),iI (Y K).ct,.bool (Y K).w,bY (Y K).pe (Y K).np none]) (tB ln v) ln v L rest) else none):=by
 cases right
 .exact qtS x Y ln v L rest K a b c d y
 rfl
def qxR(right)(x)(Y)(ln v)(L)(rest)(K)(a b c d y:T):cD 34 fN ac [a,b,c,d,p0,iI (rI right),.ag [iI (-13),iI 179],y,yP K] (HW x Y ln v L rest) kb =
 (bif K.blt 6 then bif !decide ((Y K).pl=zi (!right)) then some (.normal,[a,b,c,d,p0,iI (rI right),.ag [iI (-13),iI 179],y,yP K,.bool true],HW x Y ln v L rest) else some (.normal,[a,b,c,d,p0,iI (rI right),.ag [iI (-13),iI 179],y,yP K,.bool false],HW x Y ln v L rest) else none):=by
 cases right
 .exact qtT x Y ln v L rest K a b c d y
 .exact qtO x Y ln v L rest K a b c d y
def qxS(right)(x)(Y)(ln v)(L)(rest)(K)(a b c d y:T):cD 34 fP ac [a,b,c,d,p0,iI (rI right),.ag [iI (-13),iI 179],y,yP K] (HW x Y ln v L rest) b5 =
 (bif K.blt 6&&true&&true&&true then some (.normal,[a,b,c,d,p0,iI (rI right),.ag [iI (-13),iI 179],y],sU x (yG Y K [.bool (Y K).i,iI (zi right),iI (Y K).ct,.bool (Y K).w,bY (Y K).pe (Y K).np none]) (tB ln v) ln v L rest) else none):=by
 cases right
 .exact qtU x Y ln v L rest K a b c d y
 rfl
def qxT(right)(q)(H d)(G)(n a)(K)(b c e:T):cK (qt.bW 62 (kH q λ_ _=>some (.aJ [],d))) 34 fq ac [aN G n none,b,c,oL a n,p0,iI (rI right),.ag [iI (-13),iI 179],yK K,e] H ac =
 (bif qx (q [p0,aN G n none,oL a n,yK K,iI (rI (!right)),iI (ofNat (bI false))] H (.aJ []) d) then some (.normal,[aN G n none,b,c,oL a n,p0,iI (rI right),.ag [iI (-13),iI 179],yK K,e],d) else none):=by
 cases right
 .exact qtV q H d G n a K b c e
 rfl
def qxU(right)(q)(H d)(G)(n a)(K)(b c e:T):cK (qt.bW 62 (kH q λ_ _=>some (.aJ [],d))) 34 c5 ac [aN G n none,b,c,oL a n,p0,iI (rI right),.ag [iI (-13),iI 179],yK K,e] H ac =
 (bif qx (q [p0,aN G n none,oL a n,yK K,iI (rI right),iI (ofNat (bI true))] H (.aJ []) d) then some (.normal,[aN G n none,b,c,oL a n,p0,iI (rI right),.ag [iI (-13),iI 179],yK K,e],d) else none):=by
 rfl
structure v6 where
 (q:Ys) (r:Rw) (v:Nat->Nat)
def v6.h(z:v6)(x:Wx):qa:=z.q.hw x z.v (z.r.h [])
def sZ(q:Ys)(right:Bool)(K:Nat):Ys:=if (q.Y K).i=false then q.dp K ⟨true,zi (!right),(q.Y K).ct,true,(q.Y K).pe⟩ else q
def A3(G:Nat->am)(n:Nat)(right:Bool)(K:Nat)(a:Ys)(r:Rw):Ys:=if (a.Y K).pl≠zi (!right) then(fV K (!right) false G n ⟨a,r,0⟩ n).q else a
def yn3(right:Bool)(K:Nat)(v:Nat->Nat)(o:OS):v6:=⟨o.q.dp K ⟨(o.q.Y K).i,zi right,(o.q.Y K).ct,(o.q.Y K).w,(o.q.Y K).pe⟩,o.r,aA v K (v K+o.c)⟩
def A4(G:Nat->am)(n:Nat)(right:Bool)(K:Nat)(z:v6):v6 :=
 if Jv ((List.range n).map G) K=false then z else yn3 right K z.v (fV K right true G n ⟨A3 G n right K (sZ z.q right K) z.r,z.r,0⟩ n)
def qhG(K)(right)(G)(n)(z):∀i,(fV K right false G n z i).r=z.r/\(fV K right false G n z i).c=z.c
 |0=>⟨rfl,rfl⟩
 |i+1=>by
  obtain⟨d,a⟩:=qhG K right G n z i;show(lV K right false _ _ _).r=_/\(lV K right false _ _ _).c=_;grind[lV]
def HV(q:Ys)(K B:Nat):Prop:=0<=(q.Y K).ct/\(q.Y K).ct+B<1000000/\(q.tb K).length+B<=1000000/\(q.Y K).pe.length+B<=1000000
def qoX{q:Ys}{right}{K B:Nat}(h:HV q K B):gJ (sZ q right K) K B:=by
 obtain⟨g,f,d,a⟩:=h;unfold sZ;cases j:(q.Y K).i with
 |true=>rw[wh aq];exact⟨j,g,f,d,a⟩
 |false =>
  rw[wl rfl];have e:(q.dp K ⟨true,zi (!right),(q.Y K).ct,true,(q.Y K).pe⟩).Y K=⟨true,zi (!right),(q.Y K).ct,true,(q.Y K).pe⟩:=Yg _ _ _;unfold gJ;rw[e];exact⟨rfl,g,f,d,a⟩
def MH{aa}{nt k}{l}{vs}(q:Ys)(x:Wx)(v:Nat->Nat)(rest:qa)(K:Nat)(z:Yn):ak G16 aa nt l k vs (sU x (yG (λe=>(q.Y e).y) K z.y.c) (tB (λe=>(q.tb e).length) v) (λe=>(q.tb e).length) v (λe j=>((q.tb e).getD j dP).l) rest) vs ((q.dp K z).hw x v rest):=by
 rw[←P3];exact Zs (.refl _)
section
variable (w:bJ) (G:Nat->am) (n:Nat) (right:Bool)
def FF(K i:Nat):Bool:=(List.range i).any λj=>decide ((G j).y=ofNat K+1)
def tL(K i:Nat):Int:=bif FF G K i then 1 else 0
def qoY(K i):FF G K (i+1)=(FF G K i || decide ((G i).y=ofNat K+1)):=by
 grind[FF]
def qm5(K):FF G K n=Jv ((List.range n).map G) K:=by grind[Jv,FF]
def qla(h0:qa)(r:∀j,(G j).Ok)(hn:n<=16)(K:Nat)(b c d e f g:T)(H:qa) :
 Pq 34 h0 pq eG [aN G n none,b,c,d,e,f,g,yK K,iI 0] H .normal eG [aN G n none,b,c,d,e,f,g,yK K,iI (tL G K n)] H:=by
 have run:=λ{p l s h B u C e} (k:cD 34 p l s h B=some (e,u,C))=>aP h0 k
 let V:Nat->t7:=λi=>[aN G n none,b,c,d,e,f,g,yK K,iI (tL G K i),iI (ofNat i)]
 have round:∀i,i<n->Pq 34 h0 [0,0,2,1,2,0,1,2,0,0,2,1,2,2,2,2,2,2,2] b9 (V i) H .normal b9 (V (i+1)) H:=λi o=>by
  have A:=run ((qxz G b c d e f g (yK K) (iI (tL G K i)) n i H).trans (qj (Dp o) rfl));have D:i64.wrap (G i).y=(G i).y:=Qv (by have:=(r i).y;omega) (by have:=(r i).y;omega);have x:Pq 34 h0 lO b9 (V i) H .normal b9 [aN G n none,b,c,d,e,f,g,yK K,iI (tL G K (i+1)),iI (ofNat i)] H:=by
   have q:=(qxA G b c d e f g n i (ofNat K+1) (tL G K i) H).trans (qj (v5 o) rfl);rw[D] at q;unfold tL;rw[qoY];by_cases z:(G i).y=ofNat K+1
   .rw[wt z,Bool.or_true];exact run (q.trans (qj (wt z) rfl))
   .rw[vJ z,Bool.or_false];exact run (q.trans (qB (gW z) rfl))
  have a:=run (qxB (aN G n none) b c d e f g (yK K) (iI (tL G K (i+1))) i H);rw[dH ab] at a;exact ao A (ao x a)
 have last:=run ((qtM G b c d e f g (yK K) (iI (tL G K n)) n n H).trans (qB (Dq (wc _)) rfl));have lp:Pq 34 h0 [0,2,1,2,0,1,2,0,0,2,1,2,2,2,2,2,2,2] b9 (V 0) H (.exit 2) eG [aN G n none,b,c,d,e,f,g,yK K,iI (tL G K n)] H:=Pz.count qh V (λ_=>H) (n:=n) aq round (ed last);exact ao (run (qxy (aN G n none) b c d e f g (yK K) (iI 0) H)) (cO 2 lp)
def qoZ(h0:qa)(hh:h0.length<=26)(V:∀j,(G j).Ok)(hn:n<=16)(x:Wx)(hx:x.Im)(K:Nat)(B:K<6)(z:v6)(ho:z.r.o=n)(hr:z.r.n=n)(ok:∀k,k<n->tJ z.r k)(hf:∀k,k<n->(G k).y=ofNat K+1->ou (G k) z.r k)(gm:HV z.q K 1000) :
 Pq 34 h0 h9 b5 [aN G n none,bu w,.ag bE,oL n n,p0,iI (rI right),.ag [iI (-13),iI 179],yK K] (z.h x) .normal b5 [aN G n none,bu w,.ag bE,oL n n,p0,iI (rI right),.ag [iI (-13),iI 179],yK (K+1)] ((A4 G n right K z).h x):=by
 have run:=λ{p l vs h l1 v1 h1 e} (k:cD 34 p l vs h l1=some (e,v1,h1))=>aP h0 k
 let a:T:=aN G n none
 let b:T:=bu w
 let c:T:=.ag bE
 let d:T:=oL n n
 let g:T:=iI (rI right)
 let s:T:=.ag [iI (-13),iI 179]
 let H:=z.h x
 have pA:=run ((roc a b c d p0 g s (ofNat K+1) H).trans (qj (wt bP) rfl));have N:=run (qxx a b c d p0 g s (yK K) H);have pu:=qla G n h0 V hn K b c d p0 g s H;have O:=run (qxD a b c d p0 g s K ((A4 G n right K z).h x));rw[show iI (i64.wrap (ofNat K+1+1))=yK (K+1) by
  rw[Qv bP bP];rfl] at O
 have M:=qxC a b c d p0 g s (yK K) (tL G K n) H;have Ek:∃e,(e=Ex.normal∨e = .exit 1)/\Pq 34 h0 [0,1,2,0,0,2,1,2,2,2,2,2,2,2] b5 [a,b,c,d,p0,g,s,yK K] H e b5 [a,b,c,d,p0,g,s,yK K] ((A4 G n right K z).h x):=by
  cases R:Jv ((List.range n).map G) K with
  |false =>
   have e0:tL G K n=0:=by unfold tL;rw[qm5,R];rfl
   have X:=run (M.trans (qj (wt e0) rfl));refine⟨.exit 1,.inr rfl,?_⟩;unfold A4;rw[wl R];exact ao N (ao pu (ed X))
  |true =>
   have e1:tL G K n=1:=by unfold tL;rw[qm5,R];rfl
   have X:=run (M.trans (qB (gW (by rw[e1];omega)) rfl));refine⟨.normal,.inl rfl,?_⟩;unfold A4;rw[wh (by rw[R];simp)];obtain⟨y1,y2⟩:=P4 B;have MI:=run ((qxE x (λe=>(z.q.Y e).y) (λe=>(z.q.tb e).length) z.v (λe j=>((z.q.tb e).getD j dP).l) (z.r.h []) K a b c d g s).trans (qj (by rw[y1];grind) rfl));rw[y2] at MI;have cK:(K.blt 6&&true&&true&&true)=true:=by rw[qN B];rfl
   let f:=sZ z.q right K
   have pI:Pq 34 h0 [1,2,2,2,2,0,1,2,0,0,2,1,2,2,2,2,2,2,2] ac [a,b,c,d,p0,g,s,yK K,yP K] H .normal ac [a,b,c,d,p0,g,s,yK K,yP K] (f.hw x z.v (z.r.h [])):=by
    have L:=qxF x (λe=>(z.q.Y e).y) (λe=>(z.q.tb e).length) z.v (λe j=>((z.q.tb e).getD j dP).l) (z.r.h []) K a b c d (yK K) (rI right);show Pz _ _ _ _ _ _ _ _ _ _ _ _ ((sZ z.q right K).hw x z.v (z.r.h []));unfold sZ;cases hi:(z.q.Y K).i with
    |true =>
     rw[wh aq];exact ao (run (L.trans (qj (qN B) (qj hi rfl)))) (Pz.fU 66 qh rfl (run (qtX a b c d p0 g s (yK K) (yP K) (.bool false) H)))
    |false =>
     rw[wl rfl]
     let A:=z.q.Y K
     let D:Yn:=⟨true,A.pl,A.ct,A.w,A.pe⟩
     let C:Yn:=⟨true,A.pl,A.ct,true,A.pe⟩
     let z3:Yn:=⟨true,zi (!right),A.ct,true,A.pe⟩
     have pa:=run (L.trans (qj (qN B) (qB (show ¬(z.q.Y K).i=true by rw[hi];simp) rfl)));have pb:=Pz.post (run ((qxG x (λe=>(z.q.Y e).y) (λe=>(z.q.tb e).length) z.v (λe j=>((z.q.tb e).getD j dP).l) (z.r.h []) K a b c d (yK K) (rI right)).trans (qj cK rfl))) λnt=>MH z.q x z.v (z.r.h []) K D;have e2:(z.q.dp K D).Y K=D:=Yg _ _ _;have qc:=qxH x (λe=>((z.q.dp K D).Y e).y) (λe=>(z.q.tb e).length) z.v (λe j=>((z.q.tb e).getD j dP).l) (z.r.h []) K a b c d (yK K) (rI right);simp only[e2] at qc;have Q:=Pz.post (run (qc.trans (qj cK rfl))) λnt=>MH (z.q.dp K D) x z.v (z.r.h []) K C;have Z:∀(q:Ys) (u u':Yn),(q.dp K u).dp K u'=q.dp K u':=λq u u'=>by
      show(⟨aA (aA q.Y K u) K u',q.tb⟩:Ys)=⟨aA q.Y K u',q.tb⟩;congr 1;grind[aA]
     rw[Z] at Q;have e3:(z.q.dp K C).Y K=C:=Yg _ _ _;have qd:=qxQ right x (λe=>((z.q.dp K C).Y e).y) (λe=>(z.q.tb e).length) z.v (λe j=>((z.q.tb e).getD j dP).l) (z.r.h []) K a b c d (yK K);simp only[e3] at qd;have pd:=Pz.post (run (qd.trans (qj cK rfl))) λnt=>MH (z.q.dp K C) x z.v (z.r.h []) K z3;rw[Z] at pd;exact ao pa (Pz.im 66 qh rfl (Pz.drop rfl (ao pb (ao Q pd))))
   have W:gJ f K 1000:=qoX gm;obtain⟨E,hw⟩:=ZY au G16 62
   let J:=A3 G n right K f z.r
   have S:Pq 34 h0 gB ac [a,b,c,d,p0,g,s,yK K,yP K] (f.hw x z.v (z.r.h [])) .normal ac [a,b,c,d,p0,g,s,yK K,yP K] (J.hw x z.v (z.r.h [])):=by
    have I:=qxR right x (λe=>(f.Y e).y) (λe=>(f.tb e).length) z.v (λe j=>((f.tb e).getD j dP).l) (z.r.h []) K a b c d (yK K);show Pz _ _ _ _ _ _ _ _ _ _ _ _ ((A3 G n right K f z.r).hw x z.v (z.r.h []));unfold A3;by_cases P:(f.Y K).pl=zi (!right)
    .rw[wh (by omega)];exact ao (run (I.trans (qj (qN B) (qB (by rw[show((λe=>(f.Y e).y) K).pl=(f.Y K).pl from rfl,wt P];simp) rfl)))) (Pz.fU 88 qh rfl (run (qtY a b c d p0 g s (yK K) (yP K) (.bool false) (f.hw x z.v (z.r.h [])))))
    ·rw[wl P];have t:=XV x hx z.v K B G V (!right) false n f z.r hr hn ok (λ_ _ h=>(by cases h)) (W.mono ab);obtain⟨o1,o2⟩:=qhG K (!right) G n ⟨f,z.r,0⟩ n;have eh:(fV K (!right) false G n ⟨f,z.r,0⟩ n).h x z.v K=(fV K (!right) false G n ⟨f,z.r,0⟩ n).q.hw x z.v (z.r.h []):=by
      unfold OS.h;rw[o1,o2,Mk]
     rw[eh,ho] at t;exact ao (run (I.trans (qj (qN B) (qj (by rw[show((λe=>(f.Y e).y) K).pl=(f.Y K).pl from rfl,vJ P];rfl) rfl)))) (Pz.im 88 qh rfl (Pz.drop rfl
      (bR (qA qm (Qy hw)) h0 ((qxT right E (f.hw x z.v (z.r.h [])) _ G n n K b c (yP K)).trans (qj (QR hw t) rfl)))))
   have RN:gJ J K 600:=by
    show gJ (A3 G n right K f z.r) K 600;unfold A3;by_cases P:(f.Y K).pl=zi (!right)
    .rw[wh (by omega)];exact W.mono ab
    .rw[wl P];exact Rv K (!right) false G n ⟨f,z.r,0⟩ ok 600 n (wc _) (W.mono ab)
   let o:=fV K right true G n ⟨J,z.r,0⟩ n
   have t:=XV x hx z.v K B G V right true n J z.r hr hn ok (λk hk _ h=>hf k hk h) (RN.mono ab);rw[ho] at t;have HM:=bR (qA qm (Qy hw)) h0 ((qxU right E (J.hw x z.v (z.r.h [])) (o.h x z.v K) G n n K b c (yP K)).trans (qj (QR hw t) rfl));have U:=Pz.post (run ((qxS right x (λe=>(o.q.Y e).y) (λe=>(o.q.tb e).length) (aA z.v K (z.v K+o.c)) (λe j=>((o.q.tb e).getD j dP).l) (o.r.h []) K a b c d (yK K)).trans (qj cK rfl)))
    λnt=>MH o.q x (aA z.v K (z.v K+o.c)) (o.r.h []) K ⟨(o.q.Y K).i,zi right,(o.q.Y K).ct,(o.q.Y K).w,(o.q.Y K).pe⟩
   exact ao N (ao pu (ao X (ao MI (ao pI (ao S (ao HM U))))))
 obtain⟨e,he,Q⟩:=Ek;refine ao pA (ao (Pz.dZ (id:=1) (e:=e) qh ?_ Q) O);rcases he with rfl|rfl<;>rfl
end
def FG(w:bJ)(G:Nat->am)(n:Nat):Rw:=⟨n,n,λj=>bif j.blt n then 1 else 0,λj=>bif j.blt n then(cP w G j).length else 0,cP w G⟩
def xW(w:bJ)(c:List aU):Wx:=⟨.undef,aQ c,bB w.he,bB w.fa,w.d⟩
def qt0(w:bJ)(c):(xW w c).Im:=⟨rfl,rfl,rfl,rfl⟩
def HX:t8:=[42,34,35,36,37,38,39,40,41]++List.range 17
def qt1:∀j,j<16->QW HX (1+j)=some (10+j):=by decide
def qt2:∀j,j<6->QW HX (36+j)=some (3+j):=by decide
def nI(i:Nat):T->Bool
 |.own m _ _ _ _=>!(m==i)
 |.ptr m _ _ _=>!(m==i)
 |.mp m _=>!(m==i)
 |x=>zV x
def MJ{i o n}{x:T}(h:nI i x=true):my i o n x=x:=by
 cases x with
 |own m aj d len cap =>
  show(bif m==i then _ else _)=_;have h:(!(m==i))=true:=h;rw[show(m==i)=false by grind];rfl
 |ptr m aj q o =>
  show(bif m==i then _ else _)=_;have h:(!(m==i))=true:=h;rw[show(m==i)=false by grind];rfl
 |mp m aj =>
  show(bif m==i then _ else _)=_;have h:(!(m==i))=true:=h;rw[show(m==i)=false by grind];rfl
 |fn f a =>
  obtain rfl:a=[]:=ua.1 h;rfl
 |_=>first|rfl|(simp[nI,zV] at h;done)
def FH(i:Nat)(b:ap):Prop:=b.flat=true∨∀j,j<b.n->∀c∈b.get j,nI i c=true
def Qw{i o n:Nat}{b:ap}(g:FH i b){h h2}(e:ai h h2):ai (iA i o n b::h) (b::h2):=by
 obtain⟨u,s,d,r,k⟩:=qjX i o n b;refine .cons ⟨u.symm,s.symm,d.symm,λh=>by rw[r];exact h,λj a=>?_⟩ e k.symm;rw[d] at a;unfold iA;cases x:b.flat with
 |true=>rfl
 |false =>
  rcases g with h|h
  .rw[x] at h;cases h
  .show b.get j=(b.get j).map _;have:(b.get j).map (my i o n)=(b.get j).map id:=ve λc f=>MJ (h j a c f);rw[this,uk]
def HY(x:Wx)(a b:Nat):ap:=⟨0,7,1,λ_=>[x.sl,.own 1 a 0 6 none,.own 2 b 0 6 none,x.cr,x.he,x.fa,uI x.d],false,false,none⟩
def Dt(w:bJ)(G:Nat->am)(n a b:Nat):qa:=HY (xW w w.cr) a b::.mk a 5 6 (λe=>(w.q.Y e).y.c) false false none::.mk b 1 6 (λe=>[.own (3+e) 0 0 (w.q.tb e).length none]) false false none::rB (λe=>(w.q.tb e).length) (λ_=>0) (λe j=>((w.q.tb e).getD j dP).l) 0::rB (λe=>(w.q.tb e).length) (λ_=>0) (λe j=>((w.q.tb e).getD j dP).l) 1::rB (λe=>(w.q.tb e).length) (λ_=>0) (λe j=>((w.q.tb e).getD j dP).l) 2::rB (λe=>(w.q.tb e).length) (λ_=>0) (λe j=>((w.q.tb e).getD j dP).l) 3::rB (λe=>(w.q.tb e).length) (λ_=>0) (λe j=>((w.q.tb e).getD j dP).l) 4::rB (λe=>(w.q.tb e).length) (λ_=>0) (λe j=>((w.q.tb e).getD j dP).l) 5::(FG w G n).h []
def qrc{aa:t8}{nt:Nat}{l:t8}(w:bJ)(G:Nat->am)(n a b)(hn:n<=16){vs}(P:∀x∈vs,x = .ag bE∨low 0 x=true∨x=p0∨x=oL n n):ak G16 aa nt l 0 vs (Dt w G n a b) vs (Dt w G n 0 0):=by
 have H:∀i o,i=1∨i=2->vs.map _=vs:=λi o A=>by
  have:vs.map (rv i o 0)=vs.map id:=ve λx hx=>by
   rcases P x hx with h|h|h|h
   .rw[h];rcases A with rfl|rfl<;>rfl
   ·have J:∀c,cA 0 c=true->nI i c=true:=λc d=>by
     cases c<;>first|exact d|(simp[cA] at d)
    have I:∀l:t7,l.all (cA 0)=true->l.map (my i o 0)=l:=λl N=>by
     have:l.map (my i o 0)=l.map id:=ve λc d=>MJ (J c (wD.1 N c d));rw[this,uk]
    have C:∀y,cA 0 y=true->my i o 0 y=y:=λy O=>MJ (J y O);cases x with
    |agg l=>show T.agg _=_;rw[I l h];rfl
    |ag l=>show T.ag _=_;rw[I l h];rfl
    |fn f l =>
     have h:l.all (cA 0)=true:=h;show my i o 0 (.fn f l)=_;show(bif aF (.fn f l) then T.fn f l else .undef)=_;have:aF (.fn f l)=true:=wD.2 λc d=>by
      have:=wD.1 h c d;cases c<;>first|exact this|(simp[cA] at this)
     rw[this];rfl
    |_=>(simp only[rv];exact C _ h)
   .rw[h];rcases A with rfl|rfl<;>rfl
   .rw[h];rcases A with rfl|rfl<;>rfl
  rw[this,uk]
 have B:∀i e,FH i (rB (λe=>(w.q.tb e).length) (λ_=>0) (λe j=>((w.q.tb e).getD j dP).l) e):=λi e=>.inr λj _ c d=>by
  have d:c∈(((w.q.tb e).getD j dP).l).c:=d;simp only[cQ.c,wJ,xl,or_false] at d;rcases d with h|h|h|h<;>(rw[h];rfl)
 have ry:∀i a,FH i (.mk a 5 6 (λe=>(w.q.Y e).y.c) false false none):=λi a=>.inr λj _ c d=>by
  have d:c∈(w.q.Y j).y.c:=d;simp only[bC.c,wJ,xl,or_false] at d;rcases d with h|h|h|h|h<;>(rw[h];rfl)
 have L:∀i b,i<3->FH i (.mk b 1 6 (λe=>[.own (3+e) 0 0 (w.q.tb e).length none]) false false none):=λi b A=>.inr λj _ c d=>by
  rw[wL.1 d];show(!(3+j==i))=true;grind
 have ro:∀i,i<3->FH i (FG w G n).out:=λi A=>.inr λj _ c d=>by
  rw[wL.1 d];show(!(10+j==i))=true;grind
 have g:∀i k,FH i ((FG w G n).row k):=λi k=>.inr λj _ c d=>by
  have d:c∈((cP w G k).getD j aO).c:=d;rcases wJ.1 d with q|q
  .rw[q];rfl
  .rw[wL.1 q];rfl
 have s:∀i,i<3->∀o,ai (((Dt w G n 0 0).drop 3).map (iA i o 0)) ((Dt w G n 0 0).drop 3):=λi A o=>by
  show ai (iA i o 0 (rB _ _ _ 0)::_) _;refine Qw (B i 0) (Qw (B i 1) (Qw (B i 2) (Qw (B i 3) (Qw (B i 4) (Qw (B i 5) (Qw (ro i A) ?_))))));exact Qw (g i 0) (Qw (g i 1) (Qw (g i 2) (Qw (g i 3) (Qw (g i 4) (Qw (g i 5) (Qw (g i 6) (Qw (g i 7) (Qw (g i 8) (Qw (g i 9) (Qw (g i 10) (Qw (g i 11) (Qw (g i 12) (Qw (g i 13) (Qw (g i 14) (Qw (g i 15) .nil)))))))))))))))
 refine .trans (h1:=Dt w G n 0 b) (dM:=vs) ?_ ?_
 ·have z:=ak.Ds (Gl:=G16) (aa:=aa) (nt:=nt) (l:=l) (k:=0) (vs:=vs) (h:=Dt w G n a b) 1 0 (ov:=a) (bi:=.mk a 5 6 (λe=>(w.q.Y e).y.c) false false none) (wN _) rfl rfl rfl;rw[H 1 a (.inl rfl)] at z;refine z.trans (.same ?_);have D:∀{h r:qa},ai h r->ai (iA 1 a 0 (HY (xW w w.cr) a b)::h) (HY (xW w w.cr) 0 b::r):=λu=>by
   refine .cons ⟨rfl,rfl,rfl,λh=>h,λj E=>?_⟩ u rfl;show [T.undef,.own 1 0 0 6 none,.own 2 b 0 6 none,_,_,_,_]=[T.undef,(bif a==a then T.own 1 0 0 6 none else .undef),.own 2 b 0 6 none,_,_,_,_];rw[wF];rfl
  have C:∀{h r:qa},ai h r->ai ({ iA 1 a 0 (.mk a 5 6 (λe=>(w.q.Y e).y.c) false false none) with aj:=0 }::h) (.mk 0 5 6 (λe=>(w.q.Y e).y.c) false false none::r):=λu=>by
   refine .cons ⟨rfl,rfl,rfl,λh=>h,λj E=>?_⟩ u rfl;rfl
  exact D (C (Qw (L 1 b ab) (s 1 ab a)))
 ·have z:=ak.Ds (Gl:=G16) (aa:=aa) (nt:=nt) (l:=l) (k:=0) (vs:=vs) (h:=Dt w G n 0 b) 2 0 (ov:=b) (bi:=.mk b 1 6 (λe=>[.own (3+e) 0 0 (w.q.tb e).length none]) false false none) (wN _) rfl rfl rfl;rw[H 2 b (.inr rfl)] at z;refine z.trans (.same ?_);have D:∀{h r:qa},ai h r->ai (iA 2 b 0 (HY (xW w w.cr) 0 b)::h) (HY (xW w w.cr) 0 0::r):=λu=>by
   refine .cons ⟨rfl,rfl,rfl,λh=>h,λj E=>?_⟩ u rfl;show [T.undef,.own 1 0 0 6 none,.own 2 0 0 6 none,_,_,_,_]=[T.undef,.own 1 0 0 6 none,(bif b==b then T.own 2 0 0 6 none else .undef),_,_,_,_];rw[wF];rfl
  have C:∀{h r:qa},ai h r->ai ({ iA 2 b 0 (.mk b 1 6 (λe=>[.own (3+e) 0 0 (w.q.tb e).length none]) false false none) with aj:=0 }::h) (.mk 0 1 6 (λe=>[.own (3+e) 0 0 (w.q.tb e).length none]) false false none::r):=λu=>by
   refine .cons ⟨rfl,rfl,rfl,λh=>h,λj E=>?_⟩ u rfl;show [T.own (3+j) 0 0 _ none]=[my 2 b 0 (.own (3+j) 0 0 _ none)];rw[MJ (show nI 2 (.own (3+j) 0 0 (w.q.tb j).length none)=true from by show(!(3+j==2))=true;grind)]
  exact D (Qw (ry 2 0) (C (s 2 ab b)))
def qrd{aa}{nt}{l:t8}(w:bJ)(G:Nat->am)(n)(hn:n<=16)(c) :
 ak G16 aa nt tp 0 [aN G n none,bu w,.ag bE,.own 0 n 0 n none,aQ c,.ptr 42 0 0 0] (Hf (cR n (MF (cP w G))) (du (cP w G) n) (nv (zB 17 (bZ w.sl.length w.sl.length (iU (λ_=>false) w))) (λk=>zB 17 (XA (λ_=>false) w w.sl.length k)) (zB 17 (Yf 6 (YF w))) (zB 17 (cR 6 (mK w))) (λk=>zB 17 (RS w 6 k)) [HU w (.own 17 w.sl.length 0 w.sl.length none) (.own 34 6 0 6 none) (.own 35 6 0 6 none)]))
  [aN G n none,bu w,.ag bE,oL n n,aQ c,p0] (w.q.hw (xW w w.cr) (λ_=>0) ((FG w G n).h [])):=by
 let g:Nat->T->qa:=λ_ a=>Hf (cR n (MF (cP w G))) (du (cP w G) n) (nv (zB 17 (bZ w.sl.length w.sl.length (iU (λ_=>false) w))) (λk=>zB 17 (XA (λ_=>false) w w.sl.length k)) (zB 17 (Yf 6 (YF w))) (zB 17 (cR 6 (mK w))) (λk=>zB 17 (RS w 6 k)) [HU w a (.own 34 6 0 6 none) (.own 35 6 0 6 none)])
 refine .trans (h1:=g 0 .undef) (dM:=[aN G n none,bu w,.ag bE,.own 0 n 0 n none,aQ c,.ptr 42 0 0 0]) (ak.Ry (fW.one (p:=(g 0 .undef).take 42) (q:=[]) (b:=HU w (.own 17 w.sl.length 0 w.sl.length none) (.own 34 6 0 6 none) (.own 35 6 0 6 none)) (b2:=HU w .undef (.own 34 6 0 6 none) (.own 35 6 0 6 none)) ⟨rfl,rfl,rfl,rfl⟩ rfl λj f=>⟨rfl,λo x y d e=>?_⟩)) ?_
 .obtain rfl:j=0:=vQ.1 f
  match o,d,e with
  |0,_,e=>exact .inr (we e).symm
  |1,d,e=>exact .inl ((we d).symm.trans (we e))
  |2,d,e=>exact .inl ((we d).symm.trans (we e))
  |3,d,e=>exact .inl ((we d).symm.trans (we e))
  |4,d,e=>exact .inl ((we d).symm.trans (we e))
  |5,d,e=>exact .inl ((we d).symm.trans (we e))
  |6,d,e=>exact .inl ((we d).symm.trans (we e))
  |o+7,d,_=>cases d
 refine .trans (h1:=Dt w G n 6 6) (dM:=[aN G n none,bu w,.ag bE,oL n n,aQ c,p0]) ?_ (qrc w G n 6 6 hn λx hx=>?_)
 .refine ak.cu HX rfl rfl rfl (.cons ⟨rfl,rfl,rfl,λh=>h,λj f=>?_⟩ (.cons ⟨rfl,rfl,rfl,λh=>h,λ_ _=>rfl⟩ (.cons ⟨rfl,rfl,rfl,λh=>h,λj f=>?_⟩ ?_ rfl) rfl) rfl)
  .obtain rfl:j=0:=vQ.1 f;rfl
  .have f:j<6:=f;show [T.own (3+j) 0 0 (w.q.tb j).length none]=[qO HX (g 0 .undef) (.own (17+(19+j)) 0 0 (w.q.tb j).length none)];simp only[qO,show 17+(19+j)=36+j by omega,qt2 j f]
  .refine .cons ⟨rfl,rfl,rfl,λh=>h,λ_ _=>rfl⟩ (.cons ⟨rfl,rfl,rfl,λh=>h,λ_ _=>rfl⟩ (.cons ⟨rfl,rfl,rfl,λh=>h,λ_ _=>rfl⟩ (.cons ⟨rfl,rfl,rfl,λh=>h,λ_ _=>rfl⟩ (.cons ⟨rfl,rfl,rfl,λh=>h,λ_ _=>rfl⟩ (.cons ⟨rfl,rfl,rfl,λh=>h,λ_ _=>rfl⟩ (.cons ⟨rfl,rfl,rfl,λh=>h,λj f=>?_⟩ ?_ rfl) rfl) rfl) rfl) rfl) rfl) rfl
   .have f:j<n:=f;show [T.own (10+j) (bif j.blt n then 1 else 0) 0 (cP w G j).length none]=[qO HX (g 0 .undef) (.own (1+j) 1 0 (cP w G j).length none)];rw[qN f];simp only[qO,qt1 j ab];rfl
   .repeat (first|exact .nil|refine .cons ⟨rfl,rfl,rfl,λh=>h,λ_ _=>rfl⟩ ?_ rfl)
 .simp only[wJ,xl,or_false] at hx;rcases hx with h|h|h|h|h|h
  .exact .inr (.inl (by rw[h];rfl))
  .exact .inr (.inl (by rw[h];rfl))
  .exact .inl h
  .exact .inr (.inr (.inr h))
  .exact .inr (.inl (by rw[h];rfl))
  grind
section
variable (K:Nat) (right ah:Bool) (G:Nat->am) (n:Nat) (z:OS)
def qhH(ok:∀k,k<n->tJ z.r k)(pre:∀k,k<n->ah=true->(G k).y=ofNat K+1->nW (G k) (z.r.sl k)):∀i,i<=n->∀k,k<n->tJ (fV K right ah G n z i).r k ∧
 (¬(ah=true/\(G k).y=ofNat K+1)->(fV K right ah G n z i).r.sl k=z.r.sl k/\(fV K right ah G n z i).r.bn k=z.r.bn k)
 |0,_,k,d=>⟨ok k d,λ_=>⟨rfl,rfl⟩⟩
 |i+1,E,k,d=>by
  obtain⟨A,x⟩:=qhH ok pre i ab k d
  let j:=jx right n i
  have u:j<n:=FE ab;obtain⟨H,C,B,_,_⟩:=HE K right ah (G j) j (fV K right ah G n z i);show tJ (lV K right ah (G j) j (fV K right ah G n z i)).r k/\(_->(lV K right ah (G j) j (fV K right ah G n z i)).r.sl k=_/\(lV K right ah (G j) j (fV K right ah G n z i)).r.bn k=_);by_cases c:k=j
  .subst c;obtain⟨o,I,f⟩:=HF K right ah G n z i ab i (wc _) ab;by_cases m:ah=true/\(G j).y=ofNat K+1
   ·have p:=pre j u m.1 m.2;refine⟨?_,λh=>absurd m h⟩;have es:(lV K right ah (G j) j (fV K right ah G n z i)).r.sl j=(oq K right (G j) (fV K right ah G n z i).q (z.r.sl j)).2:=by
     rw[C];unfold ly;rw[wl m,o]
    have e:=Rh K right (G j) (fV K right ah G n z i).q p.g.1;refine⟨by rw[es];exact e.b p.g,?_,by rw[es];exact e.ne p.ne⟩;rw[es];unfold lV;rw[wl m];by_cases a:(G j).k=3
    .rw[wl a,e.len];show sY (G j) (z.r.sl j)<=aA (fV K right ah G n z i).r.bn j 1 j;rw[Yg];unfold sY;rw[wl a];exact wc _
    .rw[wh a,XU p.g.1 a];show _<=(fV K right ah G n z i).r.bn j;rw[f];exact(ok j u).n
   grind[lV]
  .obtain⟨s,D,k3⟩:=B k c;exact⟨A.uE s k3,λh=>⟨s.trans (x h).1,k3.trans (x h).2⟩⟩
end
structure Ck(w:bJ)(G:Nat->am)(n K:Nat)(z:v6):Prop where
 o:z.r.o=n
 rn:z.r.n=n
 ok:∀k,k<n->tJ z.r k
 new:∀k,k<n->(K:Int)<(G k).y->z.r.sl k=cP w G k/\z.r.bn k=(cP w G k).length
def zI(w:bJ)(G:Nat->am)(n:Nat)(right:Bool):Nat->v6
 |0=>⟨w.q,FG w G n,λ_=>0⟩
 |K+1=>A4 G n right K (zI w G n right K)
def RO(w:bJ)(G)(n)(right)(pre:∀k,k<n->nW (G k) (cP w G k)):∀K,Ck w G n K (zI w G n right K)
 |0=>⟨rfl,rfl,λk a=>⟨(pre k a).g.1,by show(cP w G k).length<=(bif k.blt n then(cP w G k).length else 0);rw[qN a];grind,(pre k a).ne⟩,λk a _=>⟨rfl,by show(bif k.blt n then(cP w G k).length else 0)=_;rw[qN a];rfl⟩⟩
 |K+1=>by
  have d:=RO w G n right pre K;show Ck w G n _ (A4 G n right K _);generalize zI w G n right K=z at d;unfold A4;split
  .exact⟨d.o,d.rn,d.ok,λk a h=>d.new k a ab⟩
  .let e:=A3 G n right K (sZ z.q right K) z.r
   have key:=qhH K right true G n ⟨e,z.r,0⟩ d.ok (λk a _ u=>by
    have:=(d.new k a (by rw[u];simp only[wn];omega)).1;grind) n (wc _)
   obtain⟨A,x⟩:=Rs K right true G n ⟨e,z.r,0⟩ n;refine⟨A.trans d.o,x.trans d.rn,λk a=>(key k a).1,λk a h=>?_⟩;obtain⟨i,f⟩:=(key k a).2 λm=>by have:=m.2;grind
   obtain⟨s,j⟩:=d.new k a ab;exact⟨i.trans s,f.trans j⟩
def Ck.fit{w}{G}{n K}{z}(h:Ck w G n K z)(pre:∀k,k<n->nW (G k) (cP w G k)):∀k,k<n->(G k).y=ofNat K+1->ou (G k) z.r k:=λk a d=>by
 obtain⟨f,e⟩:=h.new k a (by rw[d];simp;omega);unfold ou;rw[f,e];refine⟨λc=>?_,(pre k a).RM⟩;obtain⟨x,hx⟩:=(pre k a).one c;grind
def MK(w)(G)(n)(right):∀K,(zI w G n right K).q=((List.range K).foldl (iy ((List.range n).map G) right) (w.q,(List.range n).map (cP w G))).1 ∧
 (List.range n).map (zI w G n right K).r.sl=((List.range K).foldl (iy ((List.range n).map G) right) (w.q,(List.range n).map (cP w G))).2
 |0=>⟨rfl,rfl⟩
 |K+1=>by
  obtain⟨f,e⟩:=MK w G n right K;rw[vV,xC];show(A4 G n right K (zI w G n right K)).q=(iy ((List.range n).map G) right _ K).1/\(List.range n).map (A4 G n right K (zI w G n right K)).r.sl=(iy ((List.range n).map G) right _ K).2;generalize hz:zI w G n right K=z at *
  generalize x:(List.range K).foldl (iy ((List.range n).map G) right) (w.q,(List.range n).map (cP w G))=p at *
  obtain⟨g,j⟩:=p;subst f;subst e;unfold A4 iy;split
  .grind
  ·have s:(if (z.q.Y K).i=false then z.q.dp K ⟨true,zi (!right),(z.q.Y K).ct,true,(z.q.Y K).pe⟩ else z.q)=sZ z.q right K:=rfl;have o:(if ((sZ z.q right K).Y K).pl≠zi (!right) then(mu K (!right) false ((List.range n).map G) (sZ z.q right K) ((List.range n).map z.r.sl)).1 else sZ z.q right K)=A3 G n right K (sZ z.q right K) z.r:=by
    unfold A3;rw[(XY K _ false G n (sZ z.q right K) z.r 0).1]
   simp only[s,o];obtain⟨u,B⟩:=XY K right true G n (A3 G n right K (sZ z.q right K) z.r) z.r 0;unfold yn3;refine⟨by rw[u],?_⟩;have k:=(Rp K right true ((List.range n).map G) ((List.range n).map z.r.sl) aq (A3 G n right K (sZ z.q right K) z.r)).1;refine XM (d:=[]) (by rw[k];simp) λi a A=>?_;grind
def A5:t8:=[0,9,10,11,12,13,14,15,16,17,18,19,20,21,22,23,24,25]
def qt3:∀j,j<16->QW A5 (10+j)=some (2+j):=by decide
def mM(l:Nat->List aB)(i:Nat):List aB:=((List.range i).map l).flatten
def ML(l)(i):mM l (i+1)=mM l i++l i:=by unfold mM;rw[vV,vh,xJ];simp
section
variable (w:bJ) (G:Nat->am) (n:Nat) (x:Wx) (z:v6)
def MM(z:v6)(x:Wx):Nat->t7:=λj=>((z.q.Y (0+j)).y.c).map (resolve 3 A5 (z.h x))
def MN(z:v6)(x:Wx):Nat->t7:=λj=>[resolve 3 A5 (z.h x) (.own (3+(0+j)) (z.v (0+j)) 0 (z.q.tb (0+j)).length none)]
def qre{aa:t8}{nt}(c:List aU)(hx:x=xW w c)(hn:n<=16)(e:z.r.o=n)(hr:z.r.n=n) :
 ak G16 aa nt rP 0 [bu w,.ag bE,oL n n,p0] (z.h x) [bu w,.ag bE,.own 1 n 0 n none,p0] (rj .undef (MM z x) (MN z x) c w.he w.fa w.d::Hf (oT n z.r.vs λj=>(z.r.sl j).length) z.r.row []):=by
 subst hx;refine ak.cu A5 rfl rfl rfl (.cons ⟨rfl,rfl,rfl,λh=>h,λj a=>?_⟩ (.cons ⟨e.symm,rfl,hr.symm,λh=>h,λj a=>?_⟩ ?_ rfl) rfl)
 .rfl
 .have a:j<z.r.n:=a;show [T.own (2+j) (z.r.vs j) 0 (z.r.sl j).length none]=[qO A5 (z.h (xW w c)) (.own (10+j) (z.r.vs j) 0 (z.r.sl j).length none)];simp only[qO,qt3 j ab]
 .repeat (first|exact .nil|refine .cons ⟨rfl,rfl,rfl,λh=>h,λ_ _=>rfl⟩ ?_ rfl)
def qjZ{f i:T}{a g2}{cr}{h2 he fa}{e d}{H}:ai (Er f i a g2 cr h2 he fa e d::H) (rj f a g2 cr h2 fa e::H) :=
 .cons ⟨rfl,rfl,rfl,λh=>h,λj g=>by obtain rfl:j=0:=vQ.1 g;rfl⟩ (ai.pre H .nil |> λh=>by rw[vu] at h;exact h) rfl
def qm7(h0)(hh:h0.length=0)(c)(hn:n<=16)(r:Rw)(ok:∀k,k<n->tJ r k)(bh:∀k,k<n->r.sl k≠[])(g g2:Nat->t7)(hd:w.d=0∨w.d=1) :
 Pq 34 h0 sg rP [bu w,.ag bE,.own 1 n 0 n none,p0] (rj .undef g g2 c w.he w.fa w.d::Hf (oT n r.vs λj=>(r.sl j).length) r.row [])
  .ret tk [.ag [bQ (mM r.sl n) none,.view 5 6 g none,.view 1 6 g2 none,aQ c,bB (bH (mM r.sl n)),bB w.fa,uI (1-w.d)],iI 0] [rj (bQ (mM r.sl n) none) g g2 c (bH (mM r.sl n)) w.fa (1-w.d)]:=by
 have run:=λ{p l vs h l1 v1 D e} (k:cD 34 p l vs h l1=some (e,v1,D))=>aP h0 k;have uC:OO (KG qt):=qA qm (λ_ _ _ _ h=>(by cases h))
 let o:Nat->Nat:=λj=>(r.sl j).length
 let J:=Hf (oT n r.vs o) r.row
 let a:Nat->List aB:=mM r.sl
 have W:∀k,k<n->(r.sl k).length<=4:=λk Q=>(ok k Q).b.1;have E:∀i,i<=n->(a i).length<=4*i:=λi=>by
  induction i with
  |zero=>intro _;exact wc _
  |succ i P =>
   intro u;have:=P ab;have:=W i ab;show(mM r.sl (i+1)).length<=_;rw[ML,wC];grind
 let sB:Nat->ap:=λi=>bZ i (a i).length (λj=>((a i).getD j aO).c)
 have RP:=Pz.post (run (qxI .undef rfl g g2 c w.he w.fa w.d (bu w) (.ag bE) (.own 1 n 0 n none) (J []))) (v2:=[bu w,.ag bE,.own 1 n 0 n none,p0]) (h2:=rj (.own 18 0 0 0 none) g g2 c w.he w.fa w.d::J [sB 0]) λnt=>by
  refine ak.gh [sB 0] (λb R=>by rw[wL.1 R];exact⟨rfl,rfl⟩) (.rg (.rg (.rg (.rg .nil)))) (.Lj ⟨rfl,rfl,rfl,rfl⟩ rfl (λj A=>?_) (cT.refl _));obtain rfl:j=0:=vQ.1 A;exact .cons (.own (k:=18) (b:=sB 0) (by show 18<=18;omega) rfl rfl) (.refl _)
 let V:Nat->t7:=λi=>[bu w,.ag bE,.own 1 n 0 n none,p0,iI (ofNat i)]
 let H:Nat->qa:=λi=>rj (.own 18 i 0 (a i).length none) g g2 c w.he w.fa w.d::J [sB i]
 have round:∀i,i<n->Pq 34 h0 [0,0,2,1,2,2,2,2,2,2,2,2,2] hH (V i) (H i) .normal hH (V (i+1)) (H (i+1)):=λi u=>by
  have pA:=run ((qxL (rj (.own 18 i 0 (a i).length none) g g2 c w.he w.fa w.d) n r.vs o (bu w) (.ag bE) p0 i (r.row 0::r.row 1::r.row 2::r.row 3::r.row 4::r.row 5::r.row 6::r.row 7::r.row 8::r.row 9::r.row 10::r.row 11::r.row 12::r.row 13::r.row 14::r.row 15::[sB i])).trans (qj aq (qj (Dp u) rfl)));have I:=qxM i ab i (a i).length (r.bn i) n r.vs o (λj=>((a i).getD j aO).c) (r.sl i) r.row g g2 c w.he w.fa w.d (bu w) (.ag bE);rw[Mi] at I;have f1:=E i ab;have f2:=W i u;have f3:0<o i:=un.2 (bh i u);have I:=I.trans (qj aq (qj (v5 u) (qj aq (qj (qN u) (qj aq (qj (qR (by have:=(ok i u).n;grind)) (qj aq (qj (qR (show 0+(a i).length<=(a i).length by omega)) (qB rx (qj (qR (show((a i).length+o i)*33<=70368744177664 by grind)) (qB (by rw[ZE (show(a i).length<0+(a i).length+o i by omega)];simp) rfl)))))))))));have pB:=Pz.post (bR uC h0 I) (v2:=V i) (h2:=H (i+1)) λnt=>by
   refine .same ?_;have Y:(a (i+1)).length=(a i).length+o i:=by show(mM r.sl (i+1)).length=_;rw[ML,wC]
   show ai _ (rj (.own 18 (i+1) 0 (a (i+1)).length none) g g2 c w.he w.fa w.d::J [sB (i+1)]);rw[Y];refine .cons ⟨rfl,rfl,rfl,λh=>h,λj A=>by obtain rfl:j=0:=vQ.1 A;rfl⟩ ?_ rfl;have kk:ai [bZ (i+1) ((a i).length+o i) (flG (a i).length (λj=>((a i).getD j aO).c) (r.sl i))] [sB (i+1)]:=by
    refine .cons ⟨rfl,rfl,Y,λh=>h,λj A=>?_⟩ .nil rfl;show((mM r.sl (i+1)).getD j aO).c=bif j.blt (a i).length then((a i).getD (0+j) aO).c else((r.sl i).getD (0+(j-(a i).length)) aO).c;rw[ML,YU];by_cases q:j<(a i).length
    .rw[wl q,qN q,wo];rfl
    .rw[wh q,QZ ab,wq,wo (j-(a i).length)]
   exact ai.pre (Hf (oT n r.vs o) r.row []) kk
  have U:=run (qxK (bu w) (.ag bE) (.own 1 n 0 n none) p0 i (H (i+1)));rw[dH ab] at U;exact ao pA (ao (cO 5 pB) U)
 let f:=a n
 have last:=Pz.post (run ((qtZ (rj (.own 18 n 0 (a n).length none) g g2 c w.he w.fa w.d) n r.vs o (bu w) (.ag bE) p0 n (r.row 0::r.row 1::r.row 2::r.row 3::r.row 4::r.row 5::r.row 6::r.row 7::r.row 8::r.row 9::r.row 10::r.row 11::r.row 12::r.row 13::r.row 14::r.row 15::[sB n])).trans (qj aq (qB (Dq (wc _)) rfl))))
  (v2:=[bu w,.ag bE,p0]) (h2:=[rj (bQ f none) g g2 c w.he w.fa w.d]) λnt=>by
  rw[hh];refine .trans (h1:=[rj (.view 2 f.length (λj=>((f.getD (0+j) aO).c).map (resolve 3 [0] (H n))) none) g g2 c w.he w.fa w.d]) (dM:=[bu w,.ag bE,p0]) (ak.cu [0] rfl rfl rfl (.cons ⟨rfl,rfl,rfl,λh=>h,λj A=>?_⟩ .nil rfl)) (.sl (.refl _) (.cons ⟨rfl,rfl,rfl⟩ (λh=>by cases h) (λj A=>?_) (.refl _)))
  .show [T.view 2 f.length _ none,_,_,_,_,_,_]=[bif n==n&&Nat.ble (0+f.length) f.length then T.view 2 f.length (λj=>((f.getD (0+j) aO).c).map (resolve 3 [0] (H n))) none else .undef,_,_,_,_,_,_];rw[wF,qR ab];rfl
  .refine .cons ?_ (.refl _);refine .view (.inr rfl) λe he=>?_;rw[wo];exact .refl _
 have lp:Pq 34 h0 [0,2,1,2,2,2,2,2,2,2,2,2] hH (V 0) (H 0) (.exit 4) [2,4,9] [bu w,.ag bE,p0] [rj (bQ f none) g g2 c w.he w.fa w.d]:=Pz.count qh V H (n:=n) aq round (ed last);have O:=run (qxJ (bu w) (.ag bE) (.own 1 n 0 n none) p0 (H 0));obtain⟨N,Z⟩:=qz au G16 29;have X:=E n (wc _);have RQ:(bH f).length<=1000000:=by
  have R:∀x∈f,x.l.length<=4:=λx hx=>by
   obtain⟨l',D,C⟩:=List.mem_flatten.1 hx;obtain⟨k,Q,rfl⟩:=wY.1 D;exact((ok k (xk.1 Q)).b.2 x C).2
  have:∀l:List aB,(∀x∈l,x.l.length<=4)->(bH l).length<=4*l.length:=λl=>by
   induction l with
   |nil=>intro _;exact wc _
   |cons s l P =>
    intro h;have D:=P λx hx=>h x (wX _ hx);have C:=h s aq;rw[Z3,wC,vc];omega
  have:=this f R;have:f.length<=4*n:=X;omega
 have L:=Wg f none (by have:f.length<=4*n:=X;omega) RQ;have M:=Pz.post (bR (qr qm (qn Z)) h0 ((qxN N 0 0 f g g2 c (bH f) w.he w.fa w.d (bu w) (.ag bE)).trans (qj (qu Z L) rfl))) λnt=>.same (qjZ (H:=[]));have B:=qxO w (.ag bE) f g g2 c (bH f) w.fa w.d;rw[show u8.wrap (1-w.d)=1-w.d from nY ab ab] at B;have RI:=Pz.post (run B) λnt=>.same (qjZ (H:=[]));have HN:=run (qxP f g g2 c (bH f) w.fa (1-w.d));exact ao RP (ao (ao O (cO 4 lp)) (ao M (ao RI HN)))
end
def RR:T:=.ag [iI (-13),iI 179]
def H3(w:bJ)(G:Nat->am)(n:Nat)(right:Bool):bJ:=⟨mM (zI w G n right 6).r.sl n,(zI w G n right 6).q,gT w G n,bH (mM (zI w G n right 6).r.sl n),w.fa,1-w.d⟩
def qrg(w)(G)(n)(right)(hw:A2 w)(fit:na w G n)(B:w.d=rI right)(gm:∀K,K<6->HV (zI w G n right K).q K 1000)(bh:∀k,k<n->(zI w G n right 6).r.sl k≠[]) :
 TO 34 [.agg (w.cc none),aN G n none] (.aJ [.agg ((H3 w G n right).cc none),iI 0]):=by
 have run:=λ{p l J h U L u e} (k:cD 34 p l J h U=some (e,L,u))=>aP [] k;have hn:=fit.Ht;have X:=hw.N
 let N:=w.sl.length
 let c:=gT w G n
 let x:=xW w c
 have pre:∀k,k<n->nW _ _:=λk W=>MG (fit.at W) hw.l;obtain⟨RP,I⟩:=ZY au G16 27;obtain⟨RT,E⟩:=ZY au G16 22;have g:=qtL w G n hw fit;have t22:=PV (λ_=>false) w X (λj f=>⟨(hw.l j f).1,by have:=(hw.l j f).2;omega⟩) (λe=>by have:=hw.pe e;omega) (λe=>by have:=hw.tb e;omega) (by have:=hw.cr;omega) hw.he hw.fa;have RU:=t22.push rfl rfl (λb s=>by
  have u:Fv (bZ N N (iU (λ_=>false) w)):=⟨rfl,λj _=>rfl⟩;have D:∀k,Fv (XA (λ_=>false) w N k):=λk=>⟨rfl,λj _=>rfl⟩;have h3:Fv (Yf 6 (YF w)):=⟨rfl,λj _=>rfl⟩;have h4:Fv (cR 6 (mK w)):=⟨rfl,λj _=>rfl⟩;have Z:∀k,Fv (RS w 6 k):=λk=>⟨rfl,λj _=>rfl⟩;revert b;refine vS.2 ⟨u,?_⟩
  repeat (first|exact List.forall_mem_nil _|refine vS.2 ⟨D _,?_⟩|refine vS.2 ⟨h3,?_⟩|refine vS.2 ⟨h4,?_⟩|refine vS.2 ⟨Z _,?_⟩)) (Ep w G n)
 have S:=run (ro0 w (aN G n none));have R:=bR (qA qm (Qy I)) [] ((ro1 RP w G n c (Ep w G n)).trans (qj (QR I g) rfl));have Q:=run (ro2 (aN G n none) (bu w) (.ag bE) (.own 0 n 0 n none) (aQ c) (Ep w G n));have P:=Pz.post (bR (qA qm (Qy E)) [] ((ro4 RT w (.ag bE) (.own 0 n 0 n none) (aQ c) G n N (cR n (MF (cP w G))) (du (cP w G) n) (zB 17 (bZ N N (iU (λ_=>false) w))) (λk=>zB 17 (XA (λ_=>false) w N k)) (zB 17 (Yf 6 (YF w))) (zB 17 (cR 6 (mK w))) (λk=>zB 17 (RS w 6 k))).trans (qj (QR E RU) rfl)))
  λnt=>qrd (l:=[]) w G n hn c
 have O:=Pz.post (run (ro5 [] w.cr c w.he w.fa w.d (λe=>(w.q.Y e).y) (λe=>(w.q.tb e).length) (λ_=>0) (λe j=>((w.q.tb e).getD j dP).l) ((FG w G n).h []) (aN G n none) (bu w) (.ag bE) (oL n n))) (v2:=[aN G n none,bu w,.ag bE,oL n n,p0]) (h2:=(zI w G n right 0).h x) λnt=>.same (.cons ⟨rfl,rfl,rfl,λh=>h,λj f=>by obtain rfl:j=0:=vQ.1 f;rfl⟩ (by
  have:=ai.pre (((zI w G n right 0).h x).drop 1) .nil;rw[vu] at this;exact this) rfl)
 have q6:=run (ro6 w (aN G n none) (.ag bE) (oL n n) p0 ((zI w G n right 0).h x));rw[B,show i64.wrap (rI right)=rI right by cases right<;>exact Qv (by decide) (by decide)] at q6;have q7:=run (ro7 (aN G n none) (bu w) (.ag bE) (oL n n) p0 (iI (rI right)) ((zI w G n right 0).h x));have q8:=run (ro8 (aN G n none) (bu w) (.ag bE) (oL n n) p0 (iI (rI right)) RR ((zI w G n right 0).h x))
 let V:Nat->t7:=λK=>[aN G n none,bu w,.ag bE,oL n n,p0,iI (rI right),RR,yK K]
 let H:Nat->qa:=λK=>(zI w G n right K).h x
 have round:∀K,K<6->Pq 34 [] h9 b5 (V K) (H K) .normal b5 (V (K+1)) (H (K+1)):=λK C=>by
  have inv:=RO w G n right pre K;exact qoZ w G n right [] (wN _) fit.ok hn x (qt0 w c) K C (zI w G n right K) inv.o inv.rn inv.ok (inv.fit pre) (gm K C)
 have inv:=RO w G n right pre 6;have last:=Pz.post (run ((qxw (aN G n none) (bu w) (.ag bE) (oL n n) p0 (iI (rI right)) RR (ofNat 6+1) (H 6)).trans (qB (gW bP) rfl)))
  λnt=>qre w n x (zI w G n right 6) c rfl hn inv.o inv.rn
 have lp:Pq 34 [] mT b5 (V 0) (H 0) (.exit 0) rP _ _:=Pz.count qh V H (n:=6) aq round (ed last);have M:=qm7 w n [] rfl c hn (zI w G n right 6).r inv.ok bh (MM (zI w G n right 6) x) (MN (zI w G n right 6) x) (by rw[B];cases right<;>simp[rI]);have t:=Pz.told (A:=ar) qY Tryz.func34 qh qh (l:=ir) rfl
  (ao S (ao R (ao Q (ao P (ao O (ao q6 (ao q7
   (ao (ao q8 (cO 0 lp)) M))))))))
  (r:=.aJ [.agg [bQ (mM (zI w G n right 6).r.sl n) none,.view 5 6 (MM (zI w G n right 6) x) none,.view 1 6 (MN (zI w G n right 6) x) none,aQ c,bB (bH (mM (zI w G n right 6).r.sl n)),bB w.fa,uI (1-w.d)],iI 0]) rfl
 let a:=zI w G n right 6
 refine t.Ec (.rg (.cons (.view (.view (.inr rfl) λj f=>?_)) (.cons (.view (.view (.inr rfl) λj f=>?_)) (.rg (.rg (.rg (.rg .nil)))))))
 .rw[show MM a x j=((a.q.Y (0+j)).y.c).map (resolve 3 A5 (a.h x)) from rfl,wo];exact .refl _
 ·rw[show MN a x j=[resolve 3 A5 (a.h x) (.own (3+(0+j)) (a.v (0+j)) 0 (a.q.tb (0+j)).length none)] from rfl,wo];show cH [resolve 3 A5 (a.h x) (.own (3+j) (a.v j) 0 (a.q.tb j).length none)] [oh (λi=>((a.q.tb j).getD i dP).l) (a.q.tb j).length none];have s:(a.h x)[3+j]?=some (rB (λe=>(a.q.tb e).length) a.v (λe j=>((a.q.tb e).getD j dP).l) j)/\A5.contains (3+j)=false:=by
   cases ZH f
   all_goals exact⟨rfl,rfl⟩
  have e1:resolve 3 A5 (a.h x) (.own (3+j) (a.v j) 0 (a.q.tb j).length none)=(bif (true&&(a.v j==a.v j&&Nat.ble (0+(a.q.tb j).length) (a.q.tb j).length)) then T.view 4 (a.q.tb j).length (λi=>(((a.q.tb j).getD (0+i) dP).l.c).map (resolve 2 A5 (a.h x))) none else .undef):=by
   simp only[resolve,s.1,s.2];rfl
  rw[e1,wF,qR (show 0+(a.q.tb j).length<=(a.q.tb j).length by omega)];refine .cons (.view (.inr rfl) λi hi=>?_) .nil;rw[wo];exact .refl _
structure gU(w:bJ)(ord:List aw)(P C:Nat):Prop where
 i:gQ w ord
 yj:∀y,y<6->FD P (w.q.Y y) (w.q.tb y) ord
 cp:w.cr.Pairwise tI
 cb:∀x∈w.cr,-(C:Int)<=x.n/\x.n<=(C:Int)
 cl:w.cr.length<=C
def qrh{w}{A}{d}{a}(fit:rY w A d a)(i:d.k≠3):lI d (fI d (w.sl.drop a))≠[]:=by
 have o:=fit.le;have hn:=am.uH fit.v;have j:=KM d (w.sl.drop a) (by rw[vv];omega);unfold lI;by_cases f:d.k=4∨d.k=5
 .rw[wl f];simp
 .rw[wh f];rw[wh i,wh f] at hn;by_cases g:d.k=8
  .rw[wl g];obtain⟨s,r,_,_,_,_,_,e⟩:=am.AZ fit.v fit.ok g;intro q;have:=vA List.length q;rw[wC,vv,vL] at this;simp only[vM] at this;omega
  grind
def qri{w}{A}{d}{a}(fit:rY w A d a):1<=sY d (lI d (fI d (w.sl.drop a))):=by
 unfold sY;by_cases e:d.k=3
 .rw[wl e];omega
 .rw[wh e];exact un.2 (qrh fit e)
def qrj(a)(l):(bH (lI a l)).Perm (bH l):=by
 unfold lI;split
 .show((l.map aB.l).flatten++[]).Perm _;rw[vu];rfl
 .split
  .rw[yF];refine xp.trans ?_;rw[←yF,xE]
  simp_all
def qm9(a)(S):bH (fI a S)=bH (S.take a.nN):=by
 unfold fI bH;rw[List.map_map];rfl
def qhI(w)(G):∀i,(bH ((List.range i).map (cP w G)).flatten).Perm (bH (w.sl.take (dB G i)))
 |0=>.refl _
 |i+1=>by
  have a:=qhI w G i;rw[vV,vh,xJ,yF];show(_++bH ([cP w G i]:List _).flatten).Perm (bH (w.sl.take (dB G i+(G i).nN)));rw[List.take_add,yF,show([cP w G i]:List (List aB)).flatten=cP w G i by simp];refine(vt _ a).trans (vE _ ?_);refine(qrj _ _).trans ?_;rw[qm9]
def MP{α}(f)(N):∀l:List α,(∀x∈l,f x<=N)->(l.map f).sum<=N*l.length
 |[],_=>by simp
 |x::l,h=>by
  have:=MP f N l λy a=>h y (wX _ a);have d:=h x aq;rw[xt,List.sum_cons,vc,Nat.mul_succ];omega
section
variable {w:bJ} {G:Nat->am} {n:Nat} {ord:List aw} {P C:Nat}
def RW{G}{i}{s:am}(h:((List.range n).map G)[i]?=some s):i<n/\s=G i:=by
 grind
def qpI{l}{i}{s:List aB}(h:((List.range n).map l)[i]?=some s):i<n/\s=l i:=by
 grind
def gU.H6(h:gU w ord P C)(g:P<=4096)(hC:C<=500000):A2 w where
 N:=h.i.sn.2
 l:=λj f=>by
  have:=h.i.sb _ (Z1 (d:=aO) f);exact⟨this.2.1,this.2.2⟩
 pe:=λe=>by
  by_cases c:e<6
  .cases a:(w.q.Y e).i with
   |true=>have:=((h.yj e c).rQ a).2.1;omega
   |false=>rw[((h.yj e c).out a).2.2.1];simp
  .rw[h.i.yo e ab];simp[yz]
 tb:=λe=>by have:=h.i.iN.len e;have:=h.i.len;omega
 cr:=by have:=h.cl;omega
 he:=by
  have:=h.i.part.length_eq;simp only[wC] at this;have:=h.i.len;omega
 fa:=by
  have:=h.i.part.length_eq;simp only[wC] at this;have:=h.i.len;omega
def gU.px(h:gU w ord P C)(fit:na w G n)(right)(eF:dB G n=w.sl.length)(B:∀k,k<n->1<=(G k).y/\(G k).y<=6)(R:P+32*n<=4096):∀K,K<=6->∃e,cq (λy=>if y<K then P+32*n else P) (zI w G n right K).q (bH (mM (zI w G n right K).r.sl n)) w.fa e ∧
 e.length<=ord.length+((List.range K).map λK=>((((List.range n).map G).zip ((List.range n).map (cP w G))).map (Ke true K)).sum).sum ∧
 ∀k,k<n->((G k).y<=(K:Int)->uF (G k) (cP w G k) ((zI w G n right K).r.sl k)):=by
 intro K I;have x:∀j,j<w.sl.length->1<=(bD w j).l.length/\(bD w j).l.length<=3:=λj D=>by
  have:=h.i.sb _ (Z1 (d:=aO) D);exact⟨this.2.1,this.2.2⟩
 have pre:∀k,k<n->nW (G k) (cP w G k):=λk a=>MG (fit.at a) x;have J:(bH ((List.range n).map (cP w G)).flatten).Perm w.he:=by
  refine(qhI w G n).trans ?_;rw[eF,xh,h.i.held]
 have A:cq (λ_=>P) w.q (bH ((List.range n).map (cP w G)).flatten) w.fa ord:=by
  refine cq.perm (H:=w.he) ⟨h.i.iN,h.i.part,h.i.yo,h.yj⟩ J.symm
 obtain⟨e,m,l,ln,f⟩:=XR ((List.range n).map G) right (w.q,(List.range n).map (cP w G)) aq A (λi s l o L=>by
  obtain⟨E,rfl⟩:=RW o;obtain⟨_,rfl⟩:=qpI L;exact(pre i E).g) (λi s o=>by
  grind) (λy _=>rx) K I
 obtain⟨M,u⟩:=MK w G n right K;rw[←M,←u] at m;rw[←u] at f;refine⟨e,?_,l,λk a Q=>?_⟩
 .simp only[wW,xY] at m;exact m
 .have O:((List.range n).map G)[k]?=some (G k):=by rw[wE,xc a];rfl
  have N:((List.range n).map (cP w G))[k]?=some (cP w G k):=by rw[wE,xc a];rfl
  have:=(f k _ _ O N).1 ⟨(B k a).1,Q⟩;rw[zD _ _ a] at this;omega
def qna(hn:n<=16)(pre:∀k,k<n->sX (cP w G k))(K):((((List.range n).map G).zip ((List.range n).map (cP w G))).map (Ke true K)).sum<=4*n:=by
 have:=MP (Ke true K) 4 (((List.range n).map G).zip ((List.range n).map (cP w G))) λx hx=>by
  obtain⟨i,f,d⟩:=XN hx;obtain⟨a,_⟩:=RW f;obtain⟨_,e⟩:=qpI d;have:=(pre i a).1;rw[←e] at this;unfold Ke sY;split
  .split<;>omega
  .omega
 grind
def gU.gm(h:gU w ord P C)(fit:na w G n)(right)(eF:dB G n=w.sl.length)(o:∀k,k<n->1<=(G k).y/\(G k).y<=6)(u:P+32*n<=4096):∀K,K<6->HV (zI w G n right K).q K 1000:=λK A=>by
 have f:∀j,j<w.sl.length->1<=(bD w j).l.length/\(bD w j).l.length<=3:=λj s=>by
  have:=h.i.sb _ (Z1 (d:=aO) s);exact⟨this.2.1,this.2.2⟩
 obtain⟨H,m,l,_⟩:=h.px fit right eF o u K ab;have hn:=fit.Ht;have c:=MP (λK=>((((List.range n).map G).zip ((List.range n).map (cP w G))).map (Ke true K)).sum) (4*n) (List.range K) λx _=>qna hn (λk r=>(MG (fit.at r) f).g.1) x;rw[xY] at c;have E:4*n*K<=4*16*6:=Nat.mul_le_mul ab ab;have D:=h.i.len;have B:=m.iN.len K;have a:=m.yr K A;unfold HV;rw[a.ct];refine⟨ab,ab,ab,?_⟩;cases e:((zI w G n right K).q.Y K).i with
 |true =>
  have:=(a.rQ e).2.1;rw[wh ab] at this;omega
 |false=>rw[(a.out e).2.2.1];simp
def gU.ne(h:gU w ord P C)(fit:na w G n)(right)(eF:dB G n=w.sl.length)(f:∀k,k<n->1<=(G k).y/\(G k).y<=6)(i:P+32*n<=4096):∀k,k<n->(zI w G n right 6).r.sl k≠[]:=λk d e=>by
 obtain⟨_,_,_,g⟩:=h.px fit right eF f i 6 (wc _);have a:=(g k d (f k d).2).len;rw[e] at a;have:=qri (fit.at d);have a:0=sY (G k) (cP w G k):=a;have:1<=sY (G k) (cP w G k):=this;omega
end
structure uJ(c:List aU)(ord:List aw)(B:Nat):Prop where
 m:∀x∈c,x.p∈ord/\x.q∈ord/\uY x.p x.q<0
 n:∀x∈c,x.n≠0/\-(B:Int)<=x.n/\x.n<=(B:Int)
 p:c.Pairwise tI
 l:c.length<=B
def qj0(a b):uY a b<0↔a.y<b.y∨a.y=b.y/\a.n<b.n:=Pc a.y a.n b.y b.n
def qrk{a b}(h:Ce a b=false)(d:a≠b):uY a b<0:=by
 rw[qj0];unfold Ce at h;simp only[vf,vN,wV] at h;by_cases c:a.y=b.y
 .refine .inr ⟨c,?_⟩;have:a.n≠b.n:=λe=>d (by cases a;cases b;simp_all);rcases h.2 with q|q
  .exact absurd c q
  .omega
 omega
def qrl{a b}(h:Ce a b=true):uY b a<0:=by
 rw[qj0];unfold Ce at h;grind
def uJ.H7{c:List aU}{ord:List aw}{B:Nat}(h:uJ c ord B){a b}(e:a∈ord)(d:b∈ord)(o:a≠b){s:Int}(f:s=1∨s = -1)(hB:B+1<=1000000):uJ (Z0 c a b s) ord (B+1):=by
 have key:∀a b:aw,a∈ord->b∈ord->uY a b<0->uJ (YW a b s c) ord (B+1):=λa b e d r=>by
  refine⟨λx hx=>?_,λx hx=>?_,Xp a b s c h.p,wM (Xq a b s c) (Nat.add_le_add_right h.l 1)⟩
  .rcases Rb a b s c x hx with⟨k,j,i,g⟩|q
   .have p:x.p=a:=by unfold aU.p;rw[k,j]
    have q:x.q=b:=by unfold aU.q;rw[i,g]
    rw[p,q];grind
   .exact h.m x q
  .have:=Xr a b s (B:Int) f ⟨ab,ab⟩ c h.n x hx;omega
 rw[qiT h.p (λx hx=>(h.n x hx).1)];cases hw:Ce a b with
 |true=>exact key b a d e (qrl hw)
 |false=>exact key a b e d (qrk hw o)
def uJ.aT{ord}{s}(e:s=1∨s = -1):∀(l:List (aw×aw)) (c:List aU) (B:Nat),uJ c ord B->(∀p∈l,p.1∈ord/\p.2∈ord/\p.1≠p.2)->B+l.length<=1000000->uJ (l.foldl (λc p=>Z0 c p.1 p.2 s) c) ord (B+l.length)
 |[],c,B,h,_,_=>h
 |p::l,c,B,h,f,hB=>by
  have hB:B+(l.length+1)<=1000000:=hB;obtain⟨a,b,d⟩:=f p aq;have:=uJ.aT e l (Z0 c p.1 p.2 s) (B+1) (h.H7 a b d e ab) (λq g=>f q (wX _ g)) ab;rw[show B+1+l.length=B+(l.length+1) by omega] at this;grind
def MQ{α β}(f:α->List β)(N):∀l:List α,(∀x∈l,(f x).length<=N)->(l.flatMap f).length<=N*l.length
 |[],_=>by simp
 |x::l,h=>by
  have:=MQ f N l λy a=>h y (wX _ a);have d:=h x aq;rw[List.flatMap_cons,wC,vc,Nat.mul_succ];omega
def qlb(L R:List aB)(i:L.length<=4)(hR:R.length<=4)(d:∀x∈L,x.l.length<=4)(f:∀x∈R,x.l.length<=4):(KJ L R).length<=256:=by
 have:(KJ L R).length<=64*L.length:=MQ _ 64 L λa e=>by
  have:(R.flatMap λb=>a.l.flatMap λx=>b.l.map λy=>(x,y)).length<=16*R.length:=MQ _ 16 R λb g=>by
   have:(a.l.flatMap λx=>b.l.map λy=>(x,y)).length<=4*a.l.length:=MQ _ 4 a.l λx _=>by rw[wW];grind
   have:=d a e;omega
  omega
 omega
def qlc{L R}{p}(h:p∈KJ L R):p.1∈bH L/\p.2∈bH R:=by
 unfold KJ at h;simp at h;obtain⟨a,f,b,e,x,hx,y,d,rfl⟩:=h;exact⟨j0 f hx,j0 e d⟩
def qo0{l m}(h:l.Sublist m):(bH l).Sublist (bH m):=by
 induction h with
 |slnil=>grind
 |cons a _ d=>rw[Z3];grind
 |cons_cons a _ d=>rw[Z3,Z3];grind
section
variable {w:bJ} {G:Nat->am} {n:Nat} {ord:List aw} {P C:Nat}
def gU.Dm(h:gU w ord P C)(fit:na w G n)(hC:C+256*n<=1000000):∀i,i<=n->uJ (gT w G i) ord (C+256*i)
 |0,_=>⟨λx hx=>by have:=h.i.Dm x hx;grind,λx hx=>⟨(h.i.Dm x hx).2.2.2.1,h.cb x hx⟩,h.cp,h.cl⟩
 |i+1,M=>by
  have g:=h.Dm fit hC i ab;have f:=fit.at (i:=i) ab;obtain⟨n4,_⟩:=am.n4 f.ok;have D:=f.le
  let T:=fI (G i) (w.sl.drop (dB G i))
  have hT:T.length=(G i).nN:=KM _ _ (by rw[vv];omega);show uJ (tH (G i) T (gT w G i)) ord (C+256*(i+1));have mono:∀{c:List aU} {B j:Nat},uJ c ord B->B<=j->uJ c ord j:=λh u=>⟨h.m,λx hx=>⟨(h.n x hx).1,by have:=(h.n x hx).2.1;omega,by have:=(h.n x hx).2.2;omega⟩,h.p,wM h.l u⟩;unfold tH;split
  .let L:=T.take (G i).a.toNat
   let R:=T.drop (G i).a.toNat
   have e:bH L++bH R=bH T:=by rw[←yF,xE]
   have sub:(bH T).Sublist (bH w.sl):=by
    rw[qm9];have s1:((w.sl.drop (dB G i)).take (G i).nN).Sublist w.sl:=(List.take_sublist _ _).trans (List.drop_sublist _ _);exact qo0 s1
   have J:(bH w.sl).Nodup:=by
    have p:=h.i.part.nodup_iff.2 h.i.iN.nodup;rw[xq] at p;have p:=p.1;rw[xq] at p;rw[h.i.held];grind
   have nd:(bH L++bH R).Nodup:=by rw[e];grind
   have k:∀a,a∈bH T->a∈ord:=λa A=>h.i.part.mem_iff.1 (by
    have:a∈w.he:=by rw[←h.i.held];exact sub.subset A
    grind)
   have d:∀x∈T,x.l.length<=4:=λx hx=>by
    obtain⟨e,he,rfl⟩:=xU.1 hx;have:=yH w (G i) (dB G i) e D ab;rw[wg,wi he] at this;rw[show T[e]=_ from this];show(bD w (dB G i+e)).l.length<=4;have r:bD w (dB G i+e)∈w.sl:=Z1 ab;have:=(h.i.sb _ r).2.2;omega
   have E:=qlb L R (by rw[vL];omega) (by rw[vv];omega) (λx hx=>d x (ug hx)) (λx hx=>d x (uj hx));have:=uJ.aT (s:=Eg (G i).f) (by unfold Eg;split<;>simp) (KJ L R) (gT w G i) _ g (λp o=>by
    obtain⟨I,H⟩:=qlc o;grind) ab
   exact mono this ab
  .exact mono g ab
def fZ(q a:Ys):Prop:=∀y,(q.tb y).length<=(a.tb y).length
def fZ.refl(q:Ys):fZ q q:=λ_=>wc _
def fZ.trans{a b c}(h:fZ a b)(k:fZ b c):fZ a c:=λy=>wM (h y) (k y)
def fZ.loop(q)(K)(b)(th):fZ q (q.loop K b th):=λy=>by
 show _<=(aA q.tb K _ y).length;grind[aA]
def qhJ(K:Nat):∀(l:List aB) (q:Ys),fZ q (lK K q l).1
 |[],q=>.refl q
 |s::l,q=>(fZ.loop q K s.b s.l).trans (qhJ K l _)
def qnb(K)(right)(q)(l):fZ q (BD K right q l).1:=by
 cases right<;>exact qhJ K _ q
def qeV(K:Nat)(right:Bool):∀(l:List aB) (q:Ys),fZ q (l.foldl (λq s=>q.e8 K (z8 s right)) q)
 |[],q=>.refl q
 |s::l,q=>fZ.trans (λ_=>wc _) (qeV K right l (q.e8 K (z8 s right)))
def qnc(K)(right a)(s)(q)(l):fZ q (ly K right a s q l).1:=by
 unfold ly;split
 .unfold oq;split
  .exact fZ.loop _ _ _ _
  .split
   .exact fZ.loop _ _ _ _
   .split
    .exact λ_=>wc _
    .exact qnb K right q l
 .exact qeV K right _ q
def qhK(K:Nat)(right a:Bool):∀(t:List (am×List aB)) (q:Ys),fZ q (me K right a q t).1
 |[],q=>.refl q
 |(s,l)::t,q=>(qnc K right a s q l).trans (qhK K right a t _)
def qhL(K)(right a)(row)(q)(d):fZ q (mu K right a row q d).1:=by
 cases right<;>exact qhK K _ a _ q
def qnd(row)(right)(p:Ys×List (List aB))(K):fZ p.1 (iy row right p K).1:=by
 unfold iy;split
 .exact .refl _
 ·have m1:fZ p.1 (if (p.1.Y K).i=false then p.1.dp K ⟨true,zi (!right),(p.1.Y K).ct,true,(p.1.Y K).pe⟩ else p.1):=by
   split<;>exact λ_=>wc _
  refine m1.trans ?_;generalize (if (p.1.Y K).i=false then p.1.dp K ⟨true,zi (!right),(p.1.Y K).ct,true,(p.1.Y K).pe⟩ else p.1)=a;have d:fZ a (if (a.Y K).pl≠zi (!right) then(mu K (!right) false row a p.2).1 else a):=by
   split
   .exact qhL _ _ _ _ _ _
   .exact .refl _
  refine d.trans ?_;exact fZ.trans (qhL K right true row _ p.2) λ_=>wc _
def qeW(row:List am)(right:Bool)(p:Ys×List (List aB)):∀k,fZ p.1 ((List.range k).foldl (iy row right) p).1
 |0=>.refl _
 |k+1=>by
  rw[vV,xC];exact(qeW row right p k).trans (qnd row right _ k)
def qrm{x y}(h:tI x y):Mo x y=true:=by
 unfold Mo;rw[wm];show uX _ (zv x.cy x.cn y.cy y.cn)<0;rw[U7,Pc,Pc,qlU];unfold tI at h;omega
def gU.row(h:gU w ord P C)(fit:na w G n)(right:Bool)(eF:dB G n=w.sl.length)(H:∀k,k<n->1<=(G k).y/\(G k).y<=6)(J:P+32*n<=4096)(hC:C+256*n<=500000)(Z:ord.length+24*n<=2048)
 (Y:w.d=0∨w.d=1) (O:1<=(mM (zI w G n right 6).r.sl n).length/\(mM (zI w G n right 6).r.sl n).length<=16) (R:∀s∈mM (zI w G n right 6).r.sl n,1<=s.l.length/\s.l.length<=3) :
 ∃A,gU (H3 w G n right) A (P+32*n) (C+256*n)/\A.length<=ord.length+24*n:=by
 have M:∀j,j<w.sl.length->1<=(bD w j).l.length/\(bD w j).l.length<=3:=λj Q=>by
  have:=h.i.sb _ (Z1 (d:=aO) Q);exact⟨this.2.1,this.2.2⟩
 have hn:=fit.Ht;obtain⟨A,m,l,L⟩:=h.px fit right eF H J 6 (wc _);have c:=MP (λK=>((((List.range n).map G).zip ((List.range n).map (cP w G))).map (Ke true K)).sum) (4*n) (List.range 6) λx _=>qna hn (λk f=>(MG (fit.at f) M).g.1) x;rw[xY] at c;have cr:=h.Dm fit ab n (wc _);have mono:∀a,a∈ord->a∈A:=λa S=>by
  obtain⟨y,k,u,f,rfl⟩:=h.i.iN.mem a S;have E:=qeW ((List.range n).map G) right (w.q,(List.range n).map (cP w G)) 6;rw[←(MK w G n right 6).1] at E;obtain⟨pre,post,e,_⟩:=m.iN.row y u k (vg f (E y));grind
 refine⟨A,⟨⟨m.iN,ab,m.part,h.i.Q4,λx hx=>?_,λi o=>?_,?_,m.yo,λy u=>?_,O,λs I=>?_,rfl,?_⟩,λy u=>?_,cr.p,λx hx=>(cr.n x hx).2,cr.l⟩,ab⟩
 .obtain⟨a1,a2,a3⟩:=cr.m x hx;obtain⟨b1,b2,b3⟩:=cr.n x hx;grind
 .have o:i+1<(gT w G n).length:=o;refine qrm ?_;have:=List.pairwise_iff_getElem.1 cr.p i (i+1) ab o ab;show tI ((gT w G n).getD i lH) ((gT w G n).getD (i+1) lH);rw[wg,wg,wi ab,wi o];grind
 .have:=cr.l;show(gT w G n).length<=_;omega
 .have j:=m.yr y u;refine⟨j.ct,λo=>?_,λo=>?_⟩
  .obtain⟨D,B,k3,N⟩:=j.rQ o;rw[wl u] at B;exact⟨D,wM B J,k3,N⟩
  .obtain⟨D,B,k3,_⟩:=j.out o;exact⟨D,B,k3⟩
 .obtain⟨X,V,U⟩:=List.mem_flatten.1 I;obtain⟨k,f,rfl⟩:=wY.1 V;have f:=xk.1 f;have W:=L k f (H k f).2;exact⟨W.2 s U,R s I⟩
 .show 1-w.d=0∨1-w.d=1;omega
 .have j:=m.yr y u;rw[wl u] at j;exact j
end
def qa0{B a:Nat->Int}:∀n,(∀e,e<n->B e=a e)->Zi B n=Zi a n
 |0,_=>rfl
 |n+1,h=>by
  unfold Zi;rw[qa0 n λe he=>h e ab];unfold y7;rw[h n ab]
def qld{s}{B a}(h:∀e,e<s.nN->B e=a e):mr s B s.nN=mr s a s.nN:=by
 unfold mr;by_cases v:dX s=false
 .rw[wl v,wl v]
 .have hn:=am.uH (by simpa using v);rw[wh v,wh v,wh (λq:s.nN≠s.nN=>q rfl),wh (λq:s.nN≠s.nN=>q rfl),qa0 _ h];grind
def am.H8{s}(h:dX s=true):s.mN=if s.k=8 then s.nN else 1:=by
 have hn:=am.uH h;grind[am.m,am.mN]
def qo1{w}{A}{s}{a}(fit:rY w A s a):(AW s (lI s (fI s (w.sl.drop a)))).map ofNat=(List.range s.mN).map (iZ s λe=>ofNat (bD w (a+e)).l.length):=by
 have E:=fit.le;have hn:=am.uH fit.v;have i:=am.H8 fit.v;have B:=KM s (w.sl.drop a) (by rw[vv];omega);unfold AW;by_cases u:s.k=3
 .rw[wl u,i,wh ab];simp[iZ,u]
 .rw[wh u];rw[wh u] at hn;by_cases C:s.k=4∨s.k=5
  .rw[wh (by omega:¬s.k=6),wh (by omega:¬s.k=7),i,wh ab];unfold lI;rw[wl C];have f:¬s.k=6:=by omega
   have d:¬s.k=7:=by omega
   simp[iZ,f,d]
  .rw[wh C] at hn;by_cases r:s.k=8
   ·rw[wh (by omega:¬s.k=6),wh (by omega:¬s.k=7),i,wl r];have o:(lI s (fI s (w.sl.drop a))).length=s.nN:=by
     grind[lI]
    have D:iZ s (λe=>ofNat (bD w (a+e)).l.length)=λ_=>(1:Int):=by
     funext j;unfold iZ;rw[wh ab,wh ab]
    rw[D,List.map_map];generalize lI s (fI s (w.sl.drop a))=l at o;rw[←o,List.map_const',xY];exact List.map_const' ..
   .rw[wh r] at hn;have o:lI s (fI s (w.sl.drop a))=fI s (w.sl.drop a):=by unfold lI;rw[wh C,wh r]
    have g:=yH w s a 0 E ab;rw[o,i,wh r];generalize fI s (w.sl.drop a)=T at B g;rw[hn] at B
    match T,B with
    |[x],_ =>
     have g:x=⟨zj s,(bD w (a+0)).l⟩:=g;subst g;by_cases f:s.k=6
     .rw[wl f];simp[iZ,f]
     .rw[wh f];by_cases d:s.k=7
      .rw[wl d];simp[iZ,d]
      .rw[wh d];simp[iZ,f,d]
structure H9(w:bJ)(L:Nat×(Nat->Int)):Prop where
 n:w.sl.length=L.1
 l:∀j,j<L.1->ofNat (bD w j).l.length=L.2 j
def RX{G}(ok:∀j,(G j).Ok):∀k,(dB G k:Int)=zh (λj=>(G j).n) k
 |0=>rfl
 |k+1=>by
  obtain⟨_,e⟩:=am.n4 (ok k);show((dB G k+(G k).nN:Nat):Int)=zh (λj=>(G j).n) k+(G k).n;rw[←RX ok k,e];simp
def Cp.Cl(c:Cp)(i):∀j,(c.rw i j).Ok:=(c.gP i).1.g
def Cp.Ia(c:Cp)(i k:Nat)(e:k<=c.rn i):dB (c.rw i) k=(Qq (c.ld i).2 (c.ld i).1 (c.C i) (c.mi i) k).i:=by
 obtain⟨g,d,a⟩:=c.mZ i;obtain⟨_,_,f⟩:=jX _ _ d a;obtain⟨s1,_⟩:=Ma a f k e;have:=RX (c.Cl i) k;have s1:zh (λj=>(c.rw i j).n) k=_:=s1;rw[s1] at this;omega
def Cp.Eu(c:Cp)(i:Nat){w}(h:H9 w (c.ld i)):na w (c.rw i) (c.rn i):=by
 obtain⟨o,e,x,u⟩:=c.gP i;obtain⟨g,f,_⟩:=c.AU i;have key:∀k,k<c.rn i->dB _ k+(c.rw i k).nN<=w.sl.length/\mr _ (λe=>ofNat (bD w (dB (c.rw i) k+e)).l.length) (c.rw i k).nN=0:=λk a=>by
  obtain⟨p,s,r,B,A,j,_⟩:=c.Ef i k a;have d:dB (c.rw i) k=p:=by
   have:=RX (c.Cl i) k;rw[←s] at this;omega
  refine⟨by rw[d,h.n];exact r,?_⟩;rw[←j];exact qld λe he=>by rw[d];exact h.l (p+e) ab
 exact⟨c.Cl i,ab,λk a=>o.v k a,λk a=>(key k a).1,λk a=>(key k a).2,g,by rw[f,h.n];rfl⟩
def Cp.eF(c:Cp)(i){w:bJ}(h:H9 w (c.ld i)):dB (c.rw i) (c.rn i)=w.sl.length:=by
 rw[c.Ia i _ (wc _),h.n];exact(c.gP i).2.1
def Cp.yb(c:Cp)(i k):1<=(c.rw i k).y/\(c.rw i k).y<=6:=by
 have:=(c.gP i).1.y k;have h:1<=(c.rw i k).y/\(c.rw i k).y<=3:=this;omega
def qrn{α β}(l:List α)(f)(d:α)(e:β){j}(h:j<l.length):f (l.getD j d)=(l.map f).getD j e:=by
 rw[wg,wg,wE,wi h];rfl
def Cp.Cm(c:Cp)(i:Nat){w:bJ}{g:List aw}{P C:Nat}(h:H9 w (c.ld i))(d:gU w g P C)(right)(E:P+32*c.rn i<=4096):H9 (H3 w (c.rw i) (c.rn i) right) (c.ld (i+1)):=by
 have fit:=c.Eu i h;obtain⟨_,_,_,A⟩:=d.px fit right (c.eF i h) (λk _=>c.yb i k) E 6 (wc _);have key:∀k,k<=c.rn i->(mM (zI w (c.rw i) (c.rn i) right 6).r.sl k).map (λx=>ofNat x.l.length)=(List.range (Qq (c.ld i).2 (c.ld i).1 (c.C i) (c.mi i) k).m).map (Qq (c.ld i).2 (c.ld i).1 (c.C i) (c.mi i) k).x:=by
  intro k
  induction k with
  |zero=>intro _;rfl
  |succ k B =>
   intro M;have a:=(A k ab (c.yb i k).2).1;have f:=fit.at (i:=k) ab;have J:=qo1 f;have H:=c.Ia i k ab;have u:c.rw i k=BC (c.ld i).2 (c.ld i).1 (c.C i) (c.mi i) k:=Hj k (c.rn i) ab;rw[ML,vh,B ab];have I:((zI w (c.rw i) (c.rn i) right 6).r.sl k).map (λx=>ofNat x.l.length)=(List.range (c.rw i k).mN).map (iZ (c.rw i k) λe=>ofNat (bD w (dB (c.rw i) k+e)).l.length):=by
    rw[←J];show _=(AW (c.rw i k) (cP w (c.rw i) k)).map ofNat;rw[←a,List.map_map];rfl
   rw[I];show _=(List.range ((Qq (c.ld i).2 (c.ld i).1 (c.C i) (c.mi i) k).m+(BC (c.ld i).2 (c.ld i).1 (c.C i) (c.mi i) k).mN)).map _;rw[List.range_add,vh,List.map_map,←u];refine congr (vA _ ?_) ?_
   .refine ve λj d=>?_;show _=if j<_ then _ else _;rw[wl (xk.1 d)]
   ·refine ve λj d=>?_;show _=if _+j<_ then _ else iZ (BC (c.ld i).2 (c.ld i).1 (c.C i) (c.mi i) k) _ (_+j-_);rw[wh ab,←u,Nat.add_sub_cancel_left,←H];have O:=f.le;have N:=h.n;have L:=am.H8 f.v;have hn:=am.uH f.v;have d:=xk.1 d;unfold iZ;have Q:(c.rw i k).k=6∨(c.rw i k).k=7->ofNat (bD w (dB (c.rw i) k+0)).l.length=(c.ld i).2 (dB (c.rw i) k+0):=λq=>by
     rw[wh ab,wh ab,wh ab] at hn;exact h.l _ ab
    grind
 have s:=key (c.rn i) (wc _);have o:=vA List.length s;rw[wW,wW,xY] at o;refine⟨o,λj d=>?_⟩;have D:j<(mM (zI w (c.rw i) (c.rn i) right 6).r.sl (c.rn i)).length:=by rw[o];exact d
 show ofNat ((mM (zI w (c.rw i) (c.rn i) right 6).r.sl (c.rn i)).getD j aO).l.length=_;rw[qrn (mM (zI w (c.rw i) (c.rn i) right 6).r.sl (c.rn i)) (λx=>ofNat x.l.length) aO 0 D,s];exact zD _ _ d
def gU.mono{w:bJ}{a:List aw}{P P' C d:Nat}(h:gU w a P C)(hp:P<=P')(f:C<=d):gU w a P' d :=
 ⟨h.i,λy e=>(h.yj y e).mono hp λ_ h=>h,h.cp,λx hx=>⟨by have:=(h.cb x hx).1;omega,by have:=(h.cb x hx).2;omega⟩,wM h.cl f⟩
def qro{K n:Nat}(f:K<6)(h1:1<=n)(a:n<=16):gU (Kc K n) (zG K n) 0 0 where
 i:=qmM f h1 a
 yj:=λy g=>by
  rw[Q8,Z2];by_cases c:y=K
  .rw[wl c,wl c];refine⟨by show(n:Int)=_;rw[yt],λ_=>⟨.inr rfl,wN _,(λi e=>absurd e aq),(λp d=>(by cases d))⟩,λh=>(by cases h),λ_ h=>?_⟩;have:=vA List.length h;rw[yt] at this;grind
  .rw[wh c,wh c];exact⟨rfl,λh=>(by cases h),λ_=>⟨rfl,rfl,rfl,rfl⟩,λh=>(by cases h)⟩
 cp:=.nil
 cb:=λx hx=>(by cases hx)
 cl:=wc _
def RY{G:Nat->am}(h:∀j,1<=(G j).y/\(G j).y<=3):∀k,1<=ra G k/\ra G k<=3
 |0=>h 0
 |k+1=>by
  unfold ra;split
  .grind
  .exact RY h k
def Cp.K(c:Cp):Nat:=(ra (c.rw 0) (c.rn 0-1)-1).toNat
def Cp.Ev(c:Cp):c.K<6/\ra (c.rw 0) (c.rn 0-1)=ofNat c.K+1:=by
 have:=RY (G:=c.rw 0) (c.gP 0).1.y (c.rn 0-1);unfold Cp.K;grind
def Cp.wk(c:Cp):Nat->bJ
 |0=>Kc c.K (c.w%8+1)
 |i+1=>H3 (c.wk i) (c.rw i) (c.rn i) (decide (i%2=1))
structure Cp.WkI(c:Cp)(i:Nat)(ord:List aw):Prop where
 j:gU (c.wk i) ord (256*i) (2048*i)
 len:ord.length<=8+192*i
 ld:H9 (c.wk i) (c.ld i)
 d:(c.wk i).d=((i%2:Nat):Int)
def Cp.A6(c:Cp):∀i,i<=9->∃f,c.WkI i f
 |0,_=>by
  refine⟨_,(qro c.Ev.1 (n:=c.w%8+1) ab ab),?_,⟨Kd _ _,λj u=>?_⟩,rfl⟩
  .rw[jZ];omega
  .have u:j<c.w%8+1:=u;show ofNat (((yW c.K (c.w%8+1)).getD j aO).l.length)=1;grind[yW]
 |i+1,J=>by
  obtain⟨f,h⟩:=Cp.A6 c i ab;obtain⟨o,e,D,C⟩:=c.gP i;have fit:=c.Eu i h.ld;have g:=c.Cm i h.ld h.j (decide (i%2=1)) ab;obtain⟨H,E,k3⟩:=c.mZ (i+1);have L:=h.d;have I:=h.len;obtain⟨B,m,l⟩:=h.j.row fit (decide (i%2=1)) (c.eF i h.ld) (λk _=>c.yb i k) ab ab ab ab (by have:(mM (zI (c.wk i) (c.rw i) (c.rn i) (decide (i%2=1)) 6).r.sl (c.rn i)).length=_:=g.n;omega) (λs x=>by
   obtain⟨j,u,rfl⟩:=xU.1 x;have M:(mM (zI (c.wk i) (c.rw i) (c.rn i) (decide (i%2=1)) 6).r.sl (c.rn i)).length=_:=g.n;have a:=g.l j ab;have b:=k3 j ab;rw[←a] at b;have A:bD (H3 (c.wk i) (c.rw i) (c.rn i) (decide (i%2=1))) j=(mM (zI (c.wk i) (c.rw i) (c.rn i) (decide (i%2=1)) 6).r.sl (c.rn i))[j]:=by
    show(mM (zI (c.wk i) (c.rw i) (c.rn i) (decide (i%2=1)) 6).r.sl (c.rn i)).getD j aO=_;rw[wg,wi u];rfl
   rw[A] at b;grind)
  refine⟨B,m.mono ab ab,ab,g,?_⟩;show 1-(c.wk i).d=_;omega
def Cp.A7(c:Cp)(i:Nat)(r:i<9):TO 34 [.agg ((c.wk i).cc none),aN (c.rw i) (c.rn i) none] (.aJ [.agg ((c.wk (i+1)).cc none),iI 0]):=by
 obtain⟨a,h⟩:=c.A6 i ab;obtain⟨o,e,g,f⟩:=c.gP i;have fit:=c.Eu i h.ld;have eF:=c.eF i h.ld;have yb:∀k,k<c.rn i->1<=(c.rw i k).y/\(c.rw i k).y<=6:=λk _=>c.yb i k;refine qrg (c.wk i) (c.rw i) (c.rn i) (decide (i%2=1)) (h.j.H6 ab ab) fit ?_ (h.j.gm fit _ eF yb ab) (h.j.ne fit _ eF yb ab);rw[h.d];grind[rI]
def Cn(i:Nat)(W:Nat->bJ):ap:=.mk i 7 (i+1) (λj=>(W j).cc none) false false none
def wf1(w)(C)(M)(h):cD 18 [1] [0] [.agg (cw w C M h)] [] [1,3] =
( zN [.ag (cw w C M h),.ag [.ae]] []):=qh
def wf2(p)(w)(C)(M)(h n)(G:Nat->Nat->am)(l:Nat->Nat)(b:T):cK (qt.add 49 (qH p λ_=>some (.agg [.view 1 n (λi=>[aN (G i) (l i) none]) none]))) 18 eH [1,3] [.ag (cw w C M h),b] [] [3,4] =
( gD (qx (p [.agg (cw w C M h)] (.agg [.view 1 n (λi=>[cU (G i) (l i)
 none])
 none])))<|zN [b,.ag [.view 1 n (λi=>[cU (G i) (l i)
 none])
 none]] []):=qh
def wf3(p q r)(n)(G:Nat->Nat->am)(l:Nat->Nat)(b:T)(y m)(w):cK (((qt.add 19 (qH p λ_=>some (uI y))).add 20 (qH q λ_=>some (iI m))).add 17 (qH r λ_=>some (.agg (w.cc none)))) 18 lD [3,4] [b,.ag [.view 1 n (λi=>[aN (G i) (l i) none]) none]] [] [3,4,5] =
( gD (decide (0<ofNat n))<|gD (qx (p [cU (G (0:Nat)) (l (0:Nat))
 none] (uI y)))<|gD (decide (0<ofNat n))<|gD (qx (q [cU (G (0:Nat)) (l (0:Nat))
 none] (iI m)))<|gD (qx (r [uI y,iI m] (.agg (w.cc
 none))))<|zN [b,.ag [.view 1 n (λi=>[cU (G i) (l i)
 none])
 none],bu w] []):=qh
def wf4(w)(b d:T):cD 18 dd [3,4,5] [b,d,.ag (w.cc none)] [] [3,4,5,6] =
( zN [b,d,bu w,oN (0:Nat) (1:Nat)] [.mk 0 7 1 (λj=>[w.cc
 none].getD j []) false true
 none]):=qh
def wf5(b d e f:T)(H):cD 18 mP [3,4,5,6] [b,d,e,f] H gE =
( zN [b,d,e,f,iI 0] H):=qh
def wf6(n i)(G:Nat->Nat->am)(l:Nat->Nat)(b e f:T)(H):cD 18 er gE [b,.ag [.view 1 n (λi=>[aN (G i) (l i) none]) none],e,f,iI (ofNat i)] H gE =
( bif decide (ofNat i<ofNat n) then zN [b,.ag [.view 1 n (λi=>[cU (G i) (l i)
 none])
 none],e,f,iI (.ofNat i)] H else
 zX 0 [b,.ag [.view 1 n (λi=>[cU (G i) (l i)
 none])
 none],e,f,iI (.ofNat i)] H):=qh
def qxV(n i)(G:Nat->Nat->am)(l:Nat->Nat)(b e f:T)(H):cD 18 er gE [b,.ag [.view 1 n (λi=>[aN (G i) (l i) none]) none],e,f,iI (ofNat i)] H [3,4,6] =
( bif decide (ofNat i<ofNat n) then zN [b,.ag [.view 1 n (λi=>[cU (G i) (l i)
 none])
 none],f] H else
 zX 0 [b,.ag [.view 1 n (λi=>[cU (G i) (l i)
 none])
 none],f] H):=qh
def wf7(p)(n i)(G:Nat->Nat->am)(l:Nat->Nat)(b f:T)(w w':bJ)(H):cK (qt.add 34 (qH p λ_=>some (.aJ [.agg (w'.cc none),iI 0]))) 18 kv gE [b,.ag [.view 1 n (λi=>[aN (G i) (l i) none]) none],.ag (w.cc none),f,iI (ofNat i)] H gE =
( gD (decide (0<=ofNat i)&&decide (ofNat i<ofNat n))<|gD (qx (p [.agg (w.cc
 none),cU (G i) (l i)
 none] (.aJ [.agg (w'.cc
 none),iI 0])))<|zN [b,.ag [.view 1 n (λi=>[cU (G i) (l i)
 none])
 none],bu w',f,iI (.ofNat i)] H):=qh
def wf8(i)(W:Nat->bJ)(w)(b d g:T):cK (KG qt) 18 [2,0,1,2,0,0,2,1,2,2,2,2] gE [b,d,.ag (w.cc none),.own 0 i 0 (i+1) none,g] [Cn i W] gE =
( gD (i==i&&true)<|gD (((0:Nat)+(i+(1:Nat))).ble (i+1))<|gD (((i+(1:Nat)+(1:Nat))*(153:Nat)).ble 70368744177664)<|bif ((0:Nat)+(i+(1:Nat))+(1:Nat)).ble (i+1) then zN [b,d,bu w,.own 0 i 0 (i+1+(1:Nat))
 none,g] [.mk i 7 (i+1) (λj=>bif ((0:Nat)+(i+(1:Nat))).ble j&&j.blt ((0:Nat)+(i+1)+(1:Nat)) then [w.cc
 none].getD (j-((0:Nat)+(i+1))) []
 else(W j).cc
 none) false false
 none] else
 zN [b,d,bu w,.own 0 (i+1) (0:Nat) (i+1+(1:Nat))
 none,g] [.mk (i+1) (7:Nat) (i+1+(1:Nat)) (λj=>bif j.blt (i+1) then(W ((0:Nat)+j)).cc none else [w.cc
 none].getD (j-(i+1)) []) false false
 none]):=qh
def wf9(b d e f:T)(i)(H):cD 18 kn gE [b,d,e,f,iI (ofNat i)] H gE =
( zN [b,d,e,f,iI (i64.wrap (ofNat i+1))] H):=qh
def wg1(n i:Nat)(G:Nat->Nat->am)(l:Nat->Nat)(W):cD 18 sf [3,4,6] [.ag [.ae],.ag [.view 1 n (λi=>[aN (G i) (l i) none]) none],.own 0 i 0 (i+1) none] [Cn i W] ta =
( zR [.own 0 i 0 (i+1)
 none,.ag [.view 1 n (λi=>[cU (G i) (l i)
 none])
 none]] [Cn i W]):=qh
def wg2(n i:Nat)(G:Nat->Nat->am)(l:Nat->Nat)(W):YX au G16 (ar 18).aa Tryz.f18 (qJ ta [.own 0 i 0 (i+1) none,.ag [.view 1 n (λi=>[aN (G i) (l i) none]) none]] [Cn i W]) (λv=>some (kQ [Cn i W] v)) =
( some (.aJ [bif i==i&&((0:Nat)+(i+(1:Nat))).ble (i+1) then .fresh false (7:Nat) (i+1) (λj=>(W ((0:Nat)+j)).cc
 none) (i+1) none else .undef,.agg [.view 1 n (λi=>[cU (G i) (l i)
 none])
 none]])):=qh
def qo2(i:Nat)(W:Nat->bJ):ai [ap.mk (i+1) 7 (i+1+1) (λj=>bif j.blt (i+1) then(W (0+j)).cc none else [(W (i+1)).cc none].getD (j-(i+1)) []) false false none] [Cn (i+1) W]:=by
 refine .cons ⟨rfl,rfl,rfl,λh=>h,λj a=>?_⟩ .nil rfl;have a:j<i+1+1:=a;show(W j).cc none=bif j.blt (i+1) then(W (0+j)).cc none else [(W (i+1)).cc none].getD (j-(i+1)) [];by_cases c:j<i+1
 .rw[qN c,wo];rfl
 grind
def qrp(W:Nat->bJ):ai [ap.mk 0 7 1 (λj=>[(W 0).cc none].getD j []) false true none] [Cn 0 W]:=by
 refine .cons ⟨rfl,rfl,rfl,λh=>(by cases h),λj a=>?_⟩ .nil rfl;obtain rfl:j=0:=by have a:j<1:=a;omega
 rfl
def Cp.wks(c:Cp):T:=.view 7 (c.aT+1) (λj=>(c.wk j).cc none) none
def qrq(c:Cp)(ok:c.Ok)(W:Nat->bJ)(B:TO 17 [yI c.K,iI (ofNat (c.w%8+1))] (.agg ((W 0).cc none)))(x:∀i,i<9->TO 34 [.agg ((W i).cc none),aN (c.rw i) (c.rn i) none] (.aJ [.agg ((W (i+1)).cc none),iI 0])) :
 TO 18 [c.t] (.aJ [.view 7 (c.aT+1) (λj=>(W j).cc none) none,c.ch]):=by
 have run:=λ{p l E h S I U e} (q:cD 18 p l E h S=some (e,I,U))=>aP [] q;obtain⟨C,g⟩:=qz au G16 49;obtain⟨D,s⟩:=qz au G16 19;obtain⟨X,o⟩:=qz au G16 20;obtain⟨Z,u⟩:=qz au G16 17;obtain⟨Y,k⟩:=qz au G16 34;have aT:=c.pv;obtain⟨o0,_,n1,n8⟩:=c.gP 0
 let b:T:=.ag [.ae]
 let d:T:=.ag [.view 1 c.aT (λi=>[aN (c.rw i) (c.rn i) none]) none]
 have R:=run (wf1 (c.w:Int) c.cI c.M c.h);have Q:=bR (qr qm (qn g)) [] ((wf2 C (c.w:Int) c.cI c.M c.h c.aT c.rw c.rn b).trans (qj (qu g (cpT c ok)) rfl));have f:=qqv (c.rw 0) (c.rn 0) n1 ab;rw[c.Ev.2] at f;have a:=KF (r:=c.rw 0) (n:=c.rn 0) (c:=none) ab (c.Cl 0);rw[(c.AU 0).2.1] at a;have P:=bR (qr (qr (qr qm (qn s)) (qn o)) (qn u)) []
  ((wf3 D X Z c.aT c.rw c.rn b (ofNat c.K+1) ((c.ld 0).1:Int) (W 0)).trans (qj (wt rx) (qj (qu s f) (qj (wt rx) (qj (qu o a) (qj (qu u B) rfl))))))
 have O:Pq 18 [] dd [3,4,5] [b,d,.ag ((W 0).cc none)] [] .normal [3,4,5,6] [b,d,.ag ((W 0).cc none),.own 0 0 0 1 none] [Cn 0 W] :=
  Pz.post (run (wf4 (W 0) b d)) λnt=>.trans (.cap (.rg (.rg (.rg (.cons (.own rfl (wc _)) .nil))))) (.same (qrp W))
 let V:Nat->t7:=λi=>[b,d,.ag ((W i).cc none),.own 0 i 0 (i+1) none,iI (ofNat i)]
 let H:Nat->qa:=λi=>[Cn i W]
 have round:∀i,i<c.aT->Pq 18 [] ew gE (V i) (H i) .normal gE (V (i+1)) (H (i+1)):=by
  intro i hi;have N:=run ((wf6 c.aT i c.rw c.rn b (.ag ((W i).cc none)) (.own 0 i 0 (i+1) none) (H i)).trans (qj (wt bP) rfl));have L:=bR (qr qm (qn k)) []
   ((wf7 Y c.aT i c.rw c.rn b (.own 0 i 0 (i+1) none) (W i) (W (i+1)) (H i)).trans (qj rx (qj (qu k (x i ab)) rfl)))
  have J:=Pz.post (bR (qA qm (λ_ _ _ _ h=>(by cases h))) []
   ((wf8 i W (W (i+1)) b d (iI (ofNat i))).trans (qj aq (qj (qR ab) (qj (qR ab) (qB (by rw[ZE ab];simp) rfl)))))) (v2:=_) (h2:=H (i+1)) λnt=>.same (qo2 i W)
  have q9:=wf9 b d (.ag ((W (i+1)).cc none)) (.own 0 (i+1) 0 (i+1+1) none) i (H (i+1));rw[dH ab] at q9;exact ao N (ao (cO 1 (ao L J)) (run q9))
 have lp:Pq 18 [] lT gE (V 0) (H 0) (.exit 0) [3,4,6] [b,d,.own 0 c.aT 0 (c.aT+1) none] (H c.aT) :=
  Pz.count qh V H (n:=c.aT) aq round (ed (run ((qxV c.aT c.aT c.rw c.rn b (.ag ((W c.aT).cc none)) (.own 0 c.aT 0 (c.aT+1) none) (H c.aT)).trans (qB aq rfl))))
 have t:=Pz.told (A:=ar) qY Tryz.func18 qh qh (l:=[0]) rfl
  (ao R (ao Q (ao P (ao O (ao (ao (run (wf5 b d _ _ _)) (cO 0 lp)) (run (wg1 c.aT c.aT c.rw c.rn W)))))))
  ((wg2 c.aT c.aT c.rw c.rn W).trans (vA some (show T.aJ [bif c.aT==c.aT&&Nat.ble (0+(c.aT+1)) (c.aT+1) then _ else _,_]=T.aJ [.fresh false 7 (c.aT+1) (λj=>(W (0+j)).cc none) (c.aT+1) none,c.ch] by rw[qR ab,wF];rfl)))
 refine(aD.iQ t).oF (.cons (.view (.view (.inl rfl) λj hj=>?_)) (.rg .nil));rw[wo];exact .refl _
def qrr(c:Cp)(ok:c.Ok):TO 18 [c.t] (.aJ [c.wks,c.ch]) :=
 qrq c ok c.wk (qqQ (K:=c.K) (n:=c.w%8+1) c.Ev.1 ab ab) c.A7
def Ib:t7:=[.ae,.ae,.ae,.ae]
def rk1(w:dc)(r:Nat->am)(n:Nat)(c:Option Nat):cD 53 [1] ir [.agg w.c,cU r n c] [] [1,2,5] =
( zN [aN r n c,.ag w.c,.ag [.ae,.ae,.ae,.ae]] []):=qh
def rk2(p:t7->T->Prop)(w:dc)(r:Nat->am)(n:Nat)(c:Option Nat)(x:Int):cK (qt.add 86 (qH p λ_=>some (iI x))) 53 eH [1,2,5] [cU r n c,.ag w.c,.ag Ib] [] [4,5,6] =
( gD (qx (p [aN r n c] (iI x)))<|bif !decide (x=0) then zR [.ae,.ag [.ae,.ae,.ae,.ae],iI x] [] else
 zN [.undef,.ag [.ae,.ae,.ae,.ae],.undef] []):=qh
def rk3(w:dc)(r:Nat->am)(n:Nat)(c:Option Nat):cD 51 [1] ir [.agg w.c,cU r n c] [] [1,2,4,5] =
( zN [aN r n c,.ag w.c,.ag [.ae,.ae,.ae,.ae,.ae,.ae,uI 0],.ag [iI 0]] []):=qh
def rk4(p:t7->T->Prop)(w:dc)(r:Nat->am)(n:Nat)(c:Option Nat)(d e:T)(x:Int):cK (qt.add 53 (qH p λ_=>some (.aJ [.ae,.agg Ib,iI x]))) 51 eH [1,2,4,5] [cU r n c,.ag w.c,d,e] [] [1,2,4,5,6,7,8] =
( gD (qx (p [.agg w.c,aN r n c] (.aJ [.ae,.agg [.ae,.ae,.ae,.ae],iI x])))<|zN [aN r n c,.ag w.c,d,e,.ae,.ag [.ae,.ae,.ae,.ae],iI x] []):=qh
def rk5(w:dc)(r:Nat->am)(n:Nat)(c:Option Nat)(f g:T)(x:Int):cD 51 lD [1,2,4,5,6,7,8] [cU r n c,.ag w.c,.ag bE,.ag [iI 0],f,g,iI x] [] tk =
( bif !decide (x=0) then zR [.ag [.ae,.ae,.ae,.ae,.ae,.ae,uI 0],.ag [iI x]] [] else
 zN [.ag [.ae,.ae,.ae,.ae,.ae,.ae,uI 0],.ag [iI 0]] []):=qh
def rk6(w:dc)(r:Nat->am)(n:Nat)(c:Option Nat):cD 21 [1] ir [.agg w.c,cU r n c] [] te =
( zN [aN r n c,.ag w.c,.ag [.ae,.ae,.ae,.ae,.ae,.ae,uI 0]] []):=qh
def rk7(p:t7->T->Prop)(w:dc)(r:Nat->am)(n:Nat)(c:Option Nat)(x:Int):cK (qt.add 15 (qH p λ_=>some (iI x))) 21 eH te [cU r n c,.ag w.c,.ag bE] [] tk =
( gD (qx (p [.agg w.c] (iI x)))<|bif !decide (x=0) then zR [.ag [.ae,.ae,.ae,.ae,.ae,.ae,uI 0],iI x] [] else
 zN [.ag [.ae,.ae,.ae,.ae,.ae,.ae,uI 0],.undef] []):=qh
def qxW(p:t7->T->Prop)(w:dc)(r:Nat->am)(n:Nat)(c:Option Nat)(x:Int):cK (qt.add 15 (qH p λ_=>some (iI x))) 21 eH te [cU r n c,.ag w.c,.ag bE] [] te =
( gD (qx (p [.agg w.c] (iI x)))<|bif !decide (x=0) then zR [aN r n c,.ag w.c,.ag [.ae,.ae,.ae,.ae,.ae,.ae,uI 0]] [] else
 zN [aN r n c,.ag w.c,.ag [.ae,.ae,.ae,.ae,.ae,.ae,uI 0]] []):=qh
def rk8(p:t7->T->Prop)(w:dc)(r:Nat->am)(n:Nat)(c:Option Nat)(x:Int):cK (qt.add 51 (qH p λ_=>some (.aJ [.agg bE,iI x]))) 21 [2,2] te [cU r n c,.ag w.c,.ag bE] [] tk =
( gD (qx (p [.agg w.c,aN r n c] (.aJ [.agg [.ae,.ae,.ae,.ae,.ae,.ae,uI 0],iI x])))<|zR [.ag [.ae,.ae,.ae,.ae,.ae,.ae,uI 0],iI x] []):=qh
def qne(w:dc)(r:Nat->am)(n:Nat)(c:Option Nat)(hn:n<=1000)(hr:∀j,(r j).Ok)(hx:rE r n≠0):TO 53 [.agg w.c,cU r n c] (.aJ [.ae,.agg Ib,iI (rE r n)]):=by
 obtain⟨p,a⟩:=qz au G16 86;have e:=aP [] (rk1 w r n c);have d:=bR (qr qm (qn a)) [] ((rk2 p w r n c (rE r n)).trans (qj (qu a (qkT r n c hn hr)) (qj rx rfl)));exact Pz.told (A:=ar) qY Tryz.func53 qh qh (l:=ir) rfl (ao e (ed d)) rfl
def qnf(w:dc)(r:Nat->am)(n:Nat)(c:Option Nat)(x:Int)(hx:x≠0)(t:TO 53 [.agg w.c,cU r n c] (.aJ [.ae,.agg Ib,iI x])):TO 51 [.agg w.c,cU r n c] (.aJ [.agg bE,iI x]):=by
 obtain⟨p,a⟩:=qz au G16 53;have f:=aP [] (rk3 w r n c);have e:=bR (qr qm (qn a)) [] ((rk4 p w r n c (.ag bE) (.ag [iI 0]) x).trans (qj (qu a t) rfl));have d:=aP [] ((rk5 w r n c .ae (.ag Ib) x).trans (qj rx rfl));exact Pz.told (A:=ar) qY Tryz.func51 qh qh (l:=ir) rfl (ao f (ao e (ed d))) rfl
def qo3(w:dc)(hw:w.Ok)(r:Nat->am)(n:Nat)(c:Option Nat)(hx:la w≠0):TO 21 [.agg w.c,cU r n c] (.aJ [.agg bE,iI (la w)]):=by
 obtain⟨p,a⟩:=qz au G16 15;have e:=aP [] (rk6 w r n c);have d:=bR (qr qm (qn a)) [] ((rk7 p w r n c (la w)).trans (qj (qu a (KH w hw)) (qj rx rfl)));exact Pz.told (A:=ar) qY Tryz.func21 qh qh (l:=ir) rfl (ao e (ed d)) rfl
def qo4(w:dc)(hw:w.Ok)(r:Nat->am)(n:Nat)(c:Option Nat)(x:Int)(h0:la w=0)(t:TO 51 [.agg w.c,cU r n c] (.aJ [.agg bE,iI x])):TO 21 [.agg w.c,cU r n c] (.aJ [.agg bE,iI x]):=by
 obtain⟨p,e⟩:=qz au G16 15;obtain⟨q,d⟩:=qz au G16 51;have a:=KH w hw;rw[h0] at a;have i:=aP [] (rk6 w r n c);have g:=bR (qr qm (qn e)) [] ((qxW p w r n c 0).trans (qj (qu e a) (qB aq rfl)));have f:=bR (qr qm (qn d)) [] ((rk8 q w r n c x).trans (qj (qu d t) rfl));exact Pz.told (A:=ar) qY Tryz.func21 qh qh (l:=ir) rfl (ao i (ao g f)) rfl
def qt4(w:bJ):T:=.agg [.own 0 w.sl.length 0 w.sl.length none,.own 17 6 0 6 none,.own 18 6 0 6 none,aQ w.cr,bB w.he,bB w.fa,uI w.d]
def rc0(w:Int)(C:Nat->Nat->Int)(M:Nat->Nat)(h:Nat)(a b:Int):cD 5 [1] [0,1,2] [.agg (cw w C M h),uI a,uI b] [] db =
( zN [uI a,uI b,.ag (cw w C M h)] []):=qh
def rc1(p:t7->T->Prop)(w:Int)(C:Nat->Nat->Int)(M:Nat->Nat)(h m n:Nat)(G:Nat->Nat->am)(l:Nat->Nat)(W:Nat->bJ)(a b:Int):cK (qt.add 18 (qH p λ_=>some (.aJ [.view 7 m (λj=>(W j).cc none) none,.agg [.view 1 n (λi=>[aN (G i) (l i) none]) none]]))) 5 eH db [uI a,uI b,.ag (cw w C M h)] [] [1,2,7] =
( gD (qx (p [.agg (cw w C M h)] (.aJ [.view 7 m (λj=>(W j).cc
 none)
 none,.agg [.view 1 n (λi=>[aN (G i) (l i)
 none])
 none]])))<|zN [uI a,uI b,.view 7 m (λj=>(W j).cc
 none)
 none] []):=qh
def rc2(p:t7->qa->T->qa->Prop)(m:Nat)(W:Nat->bJ)(w:bJ)(a b:Int)(H:qa):cK (qt.bW 22 (kH p λ_ _=>some (qt4 w,H))) 5 lD [1,2,7] [uI a,uI b,.view 7 m (λj=>(W j).cc none) none] [] [1,2,9] =
( bif decide (ofNat m=0) then none else
 gD (decide ((0:Int)<=(i64.wrap a).tmod (ofNat m))&&decide ((i64.wrap a).tmod (ofNat m)<ofNat m))<|gD (qx (p [.agg ((W ((i64.wrap a).tmod (ofNat m)).toNat).cc
 none)] [] (qt4 w) H))<|zN [uI a,uI b,.ag [.own 0 w.sl.length (0:Nat) w.sl.length
 none,.own 17 6 0 6
 none,.own 18 6 0 6
 none,aQ w.cr,bB w.he,bB w.fa,uI w.d]] H):=qh
def Ew(x:oI)(i:Nat):t7:=[uI (x.b i),aX (x.s.g i) (x.s.l i) none]
def rk(t:bt)(y:Nat):t7:=[oh (t.L y) (t.ln y) none]
def oW(W:dc):T:=.ag [.own 0 W.s.s.n 0 W.s.s.n none,.own 1 6 0 6 none,.own 2 6 0 6 none,mb W.F.cr W.F.nc none,aX W.F.he W.F.nh none,aX W.F.fa W.F.nf none,uI W.d]
def hW(W:dc):qa:=[bZ W.s.s.n W.s.s.n (Ew W.s),Yf 6 W.Y,cR 6 (rk W.F.t)]
def qo5(w:bJ)(a:t8)(h:qa)(j:Nat)(f:h[19+j]?=some (RS w 6 j))(d:a.contains (19+j)=false)(hp:QW a (19+j)=none)(e:j<6):(mK w j).map (qO a h)=rk w.w.F.t j:=by
 have g:(mK w j).map (qO a h)=[bif (true&&(0==0&&Nat.ble (0+(w.q.tb j).length) (RS w 6 j).n)) then T.view 4 (w.q.tb j).length (λi=>(((w.q.tb j).getD (0+i) dP).l.c).map (resolve 3 a h)) none else .undef]:=by
  simp only[mK,xt,List.map_nil,qO,hp,resolve,f,d];rfl
 rw[g];have hn:(RS w 6 j).n=(w.q.tb j).length:=by show(bif j.blt 6 then _ else 0)=_;rw[qN e];rfl
 rw[hn,qR (show 0+(w.q.tb j).length<=(w.q.tb j).length by omega)];show [T.view 4 _ _ none]=[T.view 4 _ _ none];congr 2;funext i;rw[wo];rfl
def qrs(w:bJ){aa:t8}{nt:Nat}(a b:Int):ak G16 aa nt [1,2,9] 0 [uI a,uI b,.ag [.own 0 w.sl.length 0 w.sl.length none,.own 17 6 0 6 none,.own 18 6 0 6 none,aQ w.cr,bB w.he,bB w.fa,uI w.d]] (hT (λ_=>false) w 6)
 [uI a,uI b,oW w.w] (hW w.w):=by
 refine ak.cu [0,17,18] rfl rfl rfl (.cons ⟨rfl,rfl,rfl,λh=>h,λj e=>rfl⟩ (.cons ⟨rfl,rfl,rfl,λh=>h,λj e=>rfl⟩ (.cons ⟨rfl,rfl,rfl,λh=>h,λj e=>?_⟩ .nil rfl) rfl) rfl);have e:j<6:=e;cases ZH e
 all_goals exact(qo5 w _ _ _ rfl rfl rfl (by decide)).symm
def rc3(p:t7->T->Prop)(W:dc)(a b x:Int):cK (qt.add 15 (qH p λ_=>some (iI x))) 5 dd [1,2,9] [uI a,uI b,oW W] (hW W) [1,2,9] =
( gD (qx (p [.agg [bif W.s.s.n==W.s.s.n&&((0:Nat)+W.s.s.n).ble W.s.s.n then .view 2 W.s.s.n (λj=>Ew W.s (0+j)) none else .undef,nU (λj=>W.Y (0+j)) (6:Nat),.view 1 6 (λj=>rk W.F.t (0+j))
 none,mb W.F.cr W.F.nc
 none,aX W.F.he W.F.nh
 none,aX W.F.fa W.F.nf
 none,uI W.d]] (iI x)))<|bif !decide (x=0) then zR [uI a,uI b,oW W] (hW W) else
 zN [uI a,uI b,oW W] (hW W)):=qh
def rc4(W:dc)(a b:Int):cD 5 k7 [1,2,9] [uI a,uI b,oW W] (hW W) [1,2,9,10] =
( zN [uI a,uI b,oW W,iI 1] (hW W)):=qh
def RZ(W:dc)(a b:Int)(c:T):cD 5 eK [1,2,9,10] [uI a,uI b,oW W,c] (hW W) [1,2,9,10,11] =
( gD (W.s.s.n==W.s.s.n&&true)<|bif decide (ofNat W.s.s.n=0) then none else
 zN [uI a,uI b,oW W,c,iI ((i64.wrap a).tmod (ofNat W.s.s.n))] (hW W)):=qh
def rc6(W:dc)(a b:Int)(c d:T):cD 5 [1,1,2,2,2,2,2,2] [1,2,9,10,11] [uI a,uI b,oW W,c,d] (hW W) dW =
( zN [uI a,oW W,c,d,uI (b.tmod 13)] (hW W)):=qh
def rd0(W)(a)(k):cD 5 ce dW [uI a,oW W,iI 1,iI (ofNat k),uI 0] (hW W) o5 =
( zN [.ag [.own 0 W.s.s.n (0:Nat) W.s.s.n
 none,.own 1 6 0 5
 none,.own 2 6 0 6
 none,mb W.F.cr W.F.nc
 none,aX W.F.he W.F.nh
 none,aX W.F.fa W.F.nf
 none,uI W.d],iI 5] (hW W)):=qh
def rd1(W)(a)(k):cK (KG qt) 5 ce dW [uI a,oW W,iI 1,iI (ofNat k),uI 1] (hW W) o5 =
( zN [.ag [.own 0 W.s.s.n (0:Nat) W.s.s.n
 none,.own 1 6 0 6
 none,.own 2 7 0 7
 none,mb W.F.cr W.F.nc
 none,aX W.F.he W.F.nh
 none,aX W.F.fa W.F.nf
 none,uI W.d],iI 5] [fv W.s.s.n W.s.b λj=>aX (W.s.s.g j) (W.s.s.l j)
 none,Yf (6:Nat) W.Y,cR (7:Nat) λj=>bif j.blt 6 then rk W.F.t (0+j)
 else [[T.ae]].getD (j-6) []]):=qh
def rd2(W)(a)(k):cD 5 ce dW [uI a,oW W,iI 1,iI (ofNat k),uI 2] (hW W) o5 =
( gD (decide (0<=a.tmod 6)&&decide (a.tmod 6<6))<|gD (((0:Nat)+(a.tmod (6:Int)).toNat).blt 6)<|gD (decide (0<=a.tmod 6)&&decide (a.tmod 6<6))<|gD (((0:Nat)+(a.tmod (6:Int)).toNat).blt 6&&true&&true&&true)<|zN [oW W,iI 1] [fv W.s.s.n W.s.b λj=>aX (W.s.s.g j) (W.s.s.l j)
 none,.mk 6 5 6 (λe=>[.bool (bif e==(0:Nat)+(a.tmod (6:Int)).toNat then(W.Y ((0:Nat)+(a.tmod (6:Int)).toNat)).i
 else(W.Y e).i),iI (bif e==(0:Nat)+(a.tmod (6:Int)).toNat then(W.Y ((0:Nat)+(a.tmod (6:Int)).toNat)).pl
 else(W.Y e).pl),iI (bif e==(0:Nat)+(a.tmod (6:Int)).toNat then i64.wrap ((W.Y ((0:Nat)+(a.tmod (6:Int)).toNat)).ct+1)
 else(W.Y e).ct),.bool (bif e==(0:Nat)+(a.tmod (6:Int)).toNat then(W.Y ((0:Nat)+(a.tmod (6:Int)).toNat)).w
 else(W.Y e).w),
 bif e==(0:Nat)+(a.tmod (6:Int)).toNat then bY (W.Y ((0:Nat)+(a.tmod (6:Int)).toNat)).pe (W.Y ((0:Nat)+(a.tmod (6:Int)).toNat)).np none else bY (W.Y e).pe (W.Y e).np
 none]) false false
 none,cR (6:Nat) λy=>rk W.F.t y]):=qh
def rd3(W)(a)(k):cD 5 ce dW [uI a,oW W,iI 1,iI (ofNat k),uI 3] (hW W) o5 =
( zN [oW W,iI 1] [fv W.s.s.n W.s.b λj=>aX (W.s.s.g j) (W.s.s.l j)
 none,.mk 6 5 6 (λe=>[.bool (bif e==(5:Nat) then true
 else(W.Y e).i),iI (bif e==(5:Nat) then(3:Int)
 else(W.Y e).pl),iI (bif e==(5:Nat) then(0:Int)
 else(W.Y e).ct),.bool (bif e==(5:Nat) then false
 else(W.Y e).w),
 bif e==(5:Nat) then .ae
 else bY (W.Y e).pe (W.Y e).np
 none]) false false
 none,cR (6:Nat) λy=>rk W.F.t y]):=qh
def rd4(p)(y n)(W)(a)(k):cK (qt.add 23 (qH p λ_=>some (.agg [uI y,iI n]))) 5 ce dW [uI a,oW W,iI 1,iI (ofNat k),uI 4] (hW W) o5 =
( gD (qx (p [uI 6,iI 0] (.agg [uI y,iI n])))<|zN [oW W,iI 1] [fv W.s.s.n W.s.b λj=>aX (W.s.s.g j) (W.s.s.l j)
 none,.mk 6 5 6 (λe=>[.bool (bif e==(5:Nat) then true
 else(W.Y e).i),iI (bif e==(5:Nat) then(179:Int)
 else(W.Y e).pl),iI (bif e==(5:Nat) then(0:Int)
 else(W.Y e).ct),.bool (bif e==(5:Nat) then false
 else(W.Y e).w),
 bif e==(5:Nat) then .own 3 0 0 1 (some 1)
 else bY (W.Y e).pe (W.Y e).np
 none]) false false
 none,cR (6:Nat) λy=>rk W.F.t y,.mk 0 4 1 (λj=>[[uI y,iI n,T.bool false,uI (0:Int)]].getD j []) true true
 none]):=qh
def rd5(W)(a)(k):cD 5 ce dW [uI a,oW W,iI 1,iI (ofNat k),uI 5] (hW W) o5 =
( zN [.ag [.ae,.own 1 6 0 6
 none,.own 2 6 0 6
 none,mb W.F.cr W.F.nc
 none,aX W.F.he W.F.nh
 none,aX W.F.fa W.F.nf
 none,uI W.d],iI 1] (hW W)):=qh
def rd6(W)(a)(k):cD 5 ce dW [uI a,oW W,iI 1,iI (ofNat k),uI 6] (hW W) o5 =
( gD (W.s.s.n==W.s.s.n&&true)<|gD (decide (0<=ofNat k)&&decide (ofNat k<ofNat W.s.s.n))<|gD (W.s.s.n==W.s.s.n&&true)<|gD (W.s.s.n==W.s.s.n&&true)<|gD (((0:Nat)+k).blt W.s.s.n&&true&&true&&true)<|zN [oW W,iI 1] [fv W.s.s.n (λj=>bif j==0+k then W.s.b (0+k)
 else W.s.b j) λj=>bif j==0+k then .ae
 else aX (W.s.s.g j) (W.s.s.l j)
 none,Yf (6:Nat) W.Y,cR (6:Nat) λy=>rk W.F.t y]):=qh
def rd7(p)(y n)(W)(a)(k):cK (qt.add 23 (qH p λ_=>some (.agg [uI y,iI n]))) 5 ce dW [uI a,oW W,iI 1,iI (ofNat k),uI 7] (hW W) o5 =
( gD (qx (p [uI 1,iI 0] (.agg [uI y,iI n])))<|gD (qx (p [uI 1,iI 0] (.agg [uI y,iI n])))<|gD (qx (p [uI 1,iI 0] (.agg [uI y,iI n])))<|gD (qx (p [uI 1,iI 0] (.agg [uI y,iI n])))<|gD (W.s.s.n==W.s.s.n&&true)<|gD (decide (0<=ofNat k)&&decide (ofNat k<ofNat W.s.s.n))<|gD (W.s.s.n==W.s.s.n&&true)<|gD (W.s.s.n==W.s.s.n&&true)<|gD (((0:Nat)+k).blt W.s.s.n&&true&&true&&true)<|zN [oW W,iI 1] [fv W.s.s.n (λj=>bif j==0+k then W.s.b (0+k)
 else W.s.b j) λj=>bif j==0+k then .own 3 0 0 4 (some 4)
 else aX (W.s.s.g j) (W.s.s.l j)
 none,Yf (6:Nat) W.Y,cR (6:Nat) λy=>rk W.F.t y,.mk 0 2 4 (λj=>[[uI y,iI n],[uI y,iI n],[uI y,iI n],[uI y,iI n]].getD j []) true true
 none]):=qh
def rd8(W)(a)(k):cD 5 ce dW [uI a,oW W,iI 1,iI (ofNat k),uI 8] (hW W) o5 =
( gD (W.s.s.n==W.s.s.n&&true)<|gD (decide (0<=ofNat k)&&decide (ofNat k<ofNat W.s.s.n))<|gD (W.s.s.n==W.s.s.n&&true)<|gD (W.s.s.n==W.s.s.n&&true)<|gD (((0:Nat)+k).blt W.s.s.n&&true&&true&&true)<|zN [oW W,iI 1] [fv W.s.s.n (λj=>bif j==0+k then(2:Int)
 else W.s.b j) λj=>bif j==0+k then aX (W.s.s.g (0+k)) (W.s.s.l (0+k)) none else aX (W.s.s.g j) (W.s.s.l j)
 none,Yf (6:Nat) W.Y,cR (6:Nat) λy=>rk W.F.t y]):=qh
def rd9(W)(a)(k):cD 5 ce dW [uI a,oW W,iI 1,iI (ofNat k),uI 9] (hW W) o5 =
( zN [.ag [.own 0 W.s.s.n (0:Nat) W.s.s.n
 none,.own 1 6 0 6
 none,.own 2 6 0 6
 none,mb W.F.cr W.F.nc
 none,aX W.F.he W.F.nh
 none,aX W.F.fa W.F.nf
 none,uI 2],iI 1] (hW W)):=qh
def qxX(W)(a)(k):cK (KG qt) 5 ce dW [uI a,oW W,iI 1,iI (ofNat k),uI 10] (hW W) o5 =
( gD (W.s.s.n==W.s.s.n&&true)<|gD (decide (0<ofNat W.s.s.n))<|gD (W.s.s.n==W.s.s.n&&true)<|gD (W.s.s.n==W.s.s.n&&true)<|gD (Nat.blt 0 W.s.s.n)<|gD (decide (0<ofNat (W.s.s.l (0:Nat))))<|bif W.F.nh==(0:Nat) then zN [.ag [.own 0 W.s.s.n (0:Nat) W.s.s.n
 none,.own 1 6 0 6
 none,.own 2 6 0 6
 none,mb W.F.cr W.F.nc
 none,.view 2 1 (λj=>[(W.s.s.g (0:Nat) (0:Nat)).c].getD j []) (some 1),aX W.F.fa W.F.nf
 none,uI W.d],iI 6] (hW W) else
 gD (Nat.blt 1 ((1:Nat)+W.F.nh)&&(((1:Nat)+W.F.nh)*(17:Nat)).ble 70368744177664)<|zN [.ag [.own 0 W.s.s.n (0:Nat) W.s.s.n
 none,.own 1 6 0 6
 none,.own 2 6 0 6
 none,mb W.F.cr W.F.nc
 none,.own 3 0 0 ((1:Nat)+W.F.nh)
 none,aX W.F.fa W.F.nf
 none,uI W.d],iI 6] [fv W.s.s.n W.s.b λj=>aX (W.s.s.g j) (W.s.s.l j)
 none,Yf (6:Nat) W.Y,cR (6:Nat) λy=>rk W.F.t y,.mk 0 2 ((1:Nat)+W.F.nh) (λj=>bif j.blt 1 then List.map Qk ([(W.s.s.g (0:Nat) (0:Nat)).c].getD j [])
 else(W.F.he (j-(1:Nat))).c) true false
 none]):=qh
def qxY(W)(a)(k):cD 5 ce dW [uI a,oW W,iI 1,iI (ofNat k),uI 12] (hW W) o5 =
( gD (W.s.s.n==W.s.s.n&&true)<|gD (decide (0<=ofNat k)&&decide (ofNat k<ofNat W.s.s.n))<|gD (W.s.s.n==W.s.s.n&&true)<|gD (W.s.s.n==W.s.s.n&&true)<|gD (((0:Nat)+k).blt W.s.s.n)<|gD (W.s.s.n==W.s.s.n&&true)<|gD (decide (0<=ofNat k)&&decide (ofNat k<ofNat W.s.s.n))<|gD (W.s.s.n==W.s.s.n&&true)<|gD (W.s.s.n==W.s.s.n&&true)<|gD (((0:Nat)+k).blt W.s.s.n&&true&&true&&true)<|zN [oW W,iI 0] [fv W.s.s.n (λj=>bif j==0+k then u8.wrap ((1:Int)-W.s.b (0+k))
 else W.s.b j) λj=>bif j==0+k then aX (W.s.s.g (0+k)) (W.s.s.l (0+k)) none else aX (W.s.s.g j) (W.s.s.l j)
 none,Yf (6:Nat) W.Y,cR (6:Nat) λy=>rk W.F.t y]):=qh
def y6{H:qa}{i v n m sz:Nat}{f g:Nat->t7}{tb:Bool}(a:H[i]?=some (.mk v sz m f false tb none))(hn:n<=m)(k:∀j,j<n->cH ((f j).map (resolve 3 [] H)) (g j)):bU (qO [] H (.own i v 0 n none)) (.view sz n g none):=by
 have e:qO [] H (.own i v 0 n none) = .view sz n (λj=>(f (0+j)).map (resolve 3 [] H)) none:=by
  show resolve 4 [] H (.own i v 0 n none)=_;simp only[resolve,a];show(bif (true&&(v==v&&Nat.ble (0+n) m)) then T.view sz n _ none else .undef)=_;rw[wF,qR ab];rfl
 rw[e];refine .view (.inl rfl) λj d=>?_;rw[wo];grind
def tM{aa:t8}{nt:Nat}(W:dc){g a e f:T}{H:qa}(x:Int)(h1:bU (qO [] H g) W.s.v)(h2:bU (qO [] H a) (nU W.Y W.ny))(j:bU (qO [] H e) W.F.t.v)(i:bU (qO [] H f) (aX W.F.he W.F.nh none)) :
 ak G16 aa nt o5 0 [.ag [g,a,e,mb W.F.cr W.F.nc none,f,aX W.F.fa W.F.nf none,uI W.d],iI x] H [.ag W.c,iI x] []:=by
 refine .trans (h1:=[]) (dM:=[.ag [qO [] H g,qO [] H a,qO [] H e,mb W.F.cr W.F.nc none,qO [] H f,aX W.F.fa W.F.nf none,uI W.d],iI x]) (.cu [] rfl rfl rfl .nil) ?_;exact .sl (.cons (jG (.cons h1 (.cons h2 (.cons j (.rg (.cons i (.rg (.rg .nil)))))))) (.rg .nil)) (.refl _)
section
variable (W:dc)
def qt5(H:qa)(j:Nat):cH ((Ew W.s j).map (resolve 3 [] H)) (Ew W.s j):=.refl _
def qt6(H:qa)(j:Nat):cH (((W.Y j).c).map (resolve 3 [] H)) (W.Y j).c:=.refl _
def qt7(H:qa)(j:Nat):cH ((rk W.F.t j).map (resolve 3 [] H)) (rk W.F.t j):=.refl _
def mW(a k:Nat):Nat->dc
 |0=>{ W with ny:=5 }
 |1=>{ W with F:={ W.F with t:=⟨7,λy=>if y<6 then W.F.t.ln y else 0,W.F.t.L⟩ } }
 |2=>{ W with Y:=λe=>if e=a then { W.Y a with ct:=i64.wrap ((W.Y a).ct+1) } else W.Y e }
 |3=>{ W with Y:=λe=>if e=5 then ⟨true,3,0,false,λ_=>⟨0,0,false,0⟩,0⟩ else W.Y e }
 |4=>{ W with Y:=λe=>if e=5 then ⟨true,179,0,false,λ_=>⟨6,0,false,0⟩,1⟩ else W.Y e }
 |5=>{ W with s:={ W.s with s:={ W.s.s with n:=0 } } }
 |6=>{ W with s:={ W.s with s:={ W.s.s with l:=λj=>if j=k then 0 else W.s.s.l j } } }
 |7=>{ W with s:={ W.s with s:={ W.s.s with l:=λj=>if j=k then 4 else W.s.s.l j,g:=λj=>if j=k then λ_=>⟨1,0⟩ else W.s.s.g j } } }
 |8=>{ W with s:={ W.s with b:=λj=>if j=k then 2 else W.s.b j } }
 |9=>{ W with d:=2 }
 |10=>{ W with F:={ W.F with he:=λj=>if j=0 then W.s.s.g 0 0 else W.F.he (j-1),nh:=W.F.nh+1 } }
 |11=>{ W with s:={ W.s with s:={ W.s.s with g:=λj=>if j=k then λe=>if e=0 then ⟨6,7⟩ else W.s.s.g j e else W.s.s.g j } } }
 |_=>{ W with s:={ W.s with b:=λj=>if j=k then 1-W.s.b j else W.s.b j } }
def sA(a:Int)(k v:Nat)(d:dc)(x:Int):Prop:=Pq 5 [] ce dW [uI a,oW W,iI 1,iI (ofNat k),uI (v:Int)] (hW W) .normal o5 [.ag d.c,iI x] []
variable {W} (h6:W.ny=6) (mz:W.F.t.h=6)
def Du{H:qa}(a:H[0]?=some (bZ W.s.s.n W.s.s.n (Ew W.s))):bU (qO [] H (.own 0 W.s.s.n 0 W.s.s.n none)) W.s.v:=y6 (f:=Ew W.s) a (wc _) λj _=>qt5 W H j
def A8{H:qa}{n:Nat}(hn:n<=6)(a:H[1]?=some (Yf 6 W.Y)):bU (qO [] H (.own 1 6 0 n none)) (nU W.Y n):=y6 (f:=λe=>(W.Y e).c) a hn λj _=>qt6 W H j
def uK{H:qa}(mz:W.F.t.h=6)(a:H[2]?=some (cR 6 (rk W.F.t))):bU (qO [] H (.own 2 6 0 6 none)) W.F.t.v:=by
 show bU _ (.view 1 W.F.t.h _ none);rw[mz];exact y6 (f:=rk W.F.t) a (wc _) λj _=>qt7 W H j
def df0(mz:W.F.t.h=6)(a:Int)(k:Nat):sA W a k 0 (mW W 0 k 0) 5:=by
 have run:=λ{p l d h g f i e} (q:cD 5 p l d h g=some (e,f,i))=>aP [] q;exact Pz.post (run (rd0 W a k)) λnt=>tM (mW W 0 k 0) 5 (Du rfl) (A8 (by decide) rfl) (uK mz rfl) (.refl _)
def df5(mz:W.F.t.h=6)(h6:W.ny=6)(a:Int)(k:Nat):sA W a k 5 (mW W 0 k 5) 1:=by
 have run:=λ{p l d h g f i e} (q:cD 5 p l d h g=some (e,f,i))=>aP [] q;exact Pz.post (run (rd5 W a k)) λnt=>tM (mW W 0 k 5) 1 (.eZ _ _ (.inl rfl)) (by show bU _ (nU W.Y W.ny);rw[h6];exact A8 (wc _) rfl) (uK mz rfl) (.refl _)
def df9(mz:W.F.t.h=6)(h6:W.ny=6)(a:Int)(k:Nat):sA W a k 9 (mW W 0 k 9) 1:=by
 have run:=λ{p l d h g f i e} (q:cD 5 p l d h g=some (e,f,i))=>aP [] q;exact Pz.post (run (rd9 W a k)) λnt=>tM (mW W 0 k 9) 1 (Du rfl) (by show bU _ (nU W.Y W.ny);rw[h6];exact A8 (wc _) rfl) (uK mz rfl) (.refl _)
end
def qxZ(y n):QK au G16 ar qt 0 23 [uI y,iI n] =
( some (.agg [uI y,iI n])):=qh
def R4(y n):TO 23 [uI y,iI n] (.agg [uI y,iI n]):=qE qV qY qm (qxZ y n)
def qo6{H}{i v n m sz}{f g}{tb}(a:H[i]?=some (.mk v sz m f true tb none))(hn:n<=m)(k:∀j,j<n->cH (f j) (g j)):bU (qO [] H (.own i v 0 n none)) (.view sz n g none):=by
 have e:qO [] H (.own i v 0 n none) = .view sz n (λj=>f (0+j)) none:=by
  show resolve 4 [] H (.own i v 0 n none)=_;simp only[resolve,a];show(bif (true&&(v==v&&Nat.ble (0+n) m)) then T.view sz n _ none else .undef)=_;rw[wF,qR ab];rfl
 rw[e];refine .view (.inl rfl) λj d=>?_;rw[wo];grind
def Ic(j):(j==0+j)=true:=by simp
def Ie{j k}(h:j≠k):(j==0+k)=false:=by simp[h]
section
variable {W:dc}
def df1(e:W.F.t.h=6)(d:W.ny=6)(a)(k):sA W a k 1 (mW W 0 k 1) 5:=by
 refine Pz.post (bR (qA qm (λ_ _ _ _ h=>(by cases h))) [] (rd1 W a k)) λnt=>tM (mW W 0 k 1) 5 (Du rfl) (by show bU _ (nU W.Y W.ny);rw[d];exact A8 (wc _) rfl) ?_ (.refl _);refine y6 (m:=7) rfl (wc _) λj f=>?_;by_cases c:j<6
 .rw[qN c,wo];show cH _ [oh (W.F.t.L j) (if j<6 then W.F.t.ln j else 0) none];rw[wl c];exact .refl _
 .obtain rfl:j=6:=by omega
  exact .cons (.eZ _ _ (.inl rfl)) .nil
def df2(o:W.F.t.h=6)(x:W.ny=6)(a)(u:0<=a)(k):sA W a k 2 (mW W (a.tmod 6).toNat k 2) 1:=by
 have run:=λ{p l g h s i B e} (q:cD 5 p l g h s=some (e,i,B))=>aP [] q;have r:a.tmod 6=a%6:=vH u;have f:(decide ((0:Int)<=a.tmod 6)&&decide (a.tmod 6<6))=true:=by simp only[wd,wm];omega
 have d:(0+(a.tmod 6).toNat).blt 6=true:=qN ab;refine Pz.post (run ((rd2 W a k).trans (qj f (qj d (qj f (qj (by rw[d];rfl) rfl)))))) λnt=>tM (mW W (a.tmod 6).toNat k 2) 1 (Du rfl) ?_ (uK o rfl) (.refl _);show bU _ (nU _ W.ny);rw[x];generalize (a.tmod 6).toNat=A;refine y6 (m:=6) rfl (wc _) λj C=>?_;show cH _ ((if j=A then { W.Y A with ct:=i64.wrap ((W.Y A).ct+1) } else W.Y j:bC).c);by_cases c:j=A
 .subst c;rw[Ic,wl rfl,wo];exact .refl _
 .rw[Ie c,wh c];exact .refl _
def df3(g:W.F.t.h=6)(r:W.ny=6)(a)(k):sA W a k 3 (mW W 0 k 3) 1:=by
 have run:=λ{p l d h i f s e} (q:cD 5 p l d h i=some (e,f,s))=>aP [] q;refine Pz.post (run (rd3 W a k)) λnt=>tM (mW W 0 k 3) 1 (Du rfl) ?_ (uK g rfl) (.refl _);show bU _ (nU _ W.ny);rw[r];refine y6 (m:=6) rfl (wc _) λj o=>?_;show cH _ ((if j=5 then(⟨true,3,0,false,λ_=>⟨0,0,false,0⟩,0⟩:bC) else W.Y j:bC).c);cases ZH o
 all_goals first|exact .refl _|exact .rg (.rg (.rg (.rg (.cons (.eZ _ _ (.inl rfl)) .nil))))
def df4(f:W.F.t.h=6)(i:W.ny=6)(a)(k):sA W a k 4 (mW W 0 k 4) 1:=by
 obtain⟨p,d⟩:=qz au G16 23;refine Pz.post (bR (qr qm (qn d)) [] ((rd4 p 6 0 W a k).trans (qj (qu d (R4 6 0)) rfl))) λnt=>tM (mW W 0 k 4) 1 (Du rfl) ?_ (uK f rfl) (.refl _);show bU _ (nU _ W.ny);rw[i];refine y6 (m:=6) rfl (wc _) λj g=>?_;show cH _ ((if j=5 then(⟨true,179,0,false,λ_=>⟨6,0,false,0⟩,1⟩:bC) else W.Y j:bC).c);cases ZH g
 all_goals first|exact .refl _|exact .rg (.rg (.rg (.rg (.cons (.view (.inr rfl) λe he=>by
  obtain rfl:e=0:=by omega
  exact .refl _) .nil))))
def kN{k n}(a:k<n):(decide ((0:Int)<=ofNat k)&&decide (ofNat k<ofNat n))=true:=rx
def mA(n:Nat):(n==n&&true)=true:=by simp
def df6(i:W.F.t.h=6)(u:W.ny=6)(a)(k)(r:k<W.s.s.n):sA W a k 6 (mW W 0 k 6) 1:=by
 have run:=λ{p l d h o f x e} (q:cD 5 p l d h o=some (e,f,x))=>aP [] q;refine Pz.post (run ((rd6 W a k).trans (qj (mA _) (qj (kN r) (qj (mA _) (qj (mA _) (qj (by rw[qN (show 0+k<_ by omega)];rfl) rfl))))))) λnt=>tM (mW W 0 k 6) 1 ?_ (by show bU _ (nU W.Y W.ny);rw[u];exact A8 (wc _) rfl) (uK i rfl) (.refl _);refine y6 (m:=W.s.s.n) rfl (wc _) λj A=>?_;show cH _ [uI (W.s.b j),aX (W.s.s.g j) (if j=k then 0 else W.s.s.l j) none];dsimp only;by_cases c:j=k
 .subst c;rw[Ic,wl rfl,wo];exact .rg (.cons (.eZ _ _ (.inl rfl)) .nil)
 .rw[Ie c,wh c];exact .refl _
def df7(i:W.F.t.h=6)(r:W.ny=6)(a)(k)(o:k<W.s.s.n):sA W a k 7 (mW W 0 k 7) 1:=by
 obtain⟨p,f⟩:=qz au G16 23;have d:=qu f (R4 1 0);refine Pz.post (bR (qr qm (qn f)) [] ((rd7 p 1 0 W a k).trans (qj d (qj d (qj d (qj d (qj (mA _) (qj (kN o) (qj (mA _) (qj (mA _) (qj (by rw[qN (show 0+k<_ by omega)];rfl) rfl))))))))))) λnt=>tM (mW W 0 k 7) 1 ?_ (by show bU _ (nU W.Y W.ny);rw[r];exact A8 (wc _) rfl) (uK i rfl) (.refl _);refine y6 (m:=W.s.s.n) rfl (wc _) λj u=>?_;show cH _ [uI (W.s.b j),aX (if j=k then λ_=>⟨1,0⟩ else W.s.s.g j) (if j=k then 4 else W.s.s.l j) none];dsimp only;by_cases c:j=k
 .subst c;rw[Ic,wl rfl,wl rfl,wo];refine .rg (.cons (.view (.inr rfl) λe he=>?_) .nil);obtain rfl|rfl|rfl|rfl:e=0∨e=1∨e=2∨e=3:=by omega
  all_goals exact .refl _
 .rw[Ie c,wh c,wh c];exact .refl _
def df8(i:W.F.t.h=6)(u:W.ny=6)(a)(k)(r:k<W.s.s.n):sA W a k 8 (mW W 0 k 8) 1:=by
 have run:=λ{p l d h o f x e} (q:cD 5 p l d h o=some (e,f,x))=>aP [] q;refine Pz.post (run ((rd8 W a k).trans (qj (mA _) (qj (kN r) (qj (mA _) (qj (mA _) (qj (by rw[qN (show 0+k<_ by omega)];rfl) rfl))))))) λnt=>tM (mW W 0 k 8) 1 ?_ (by show bU _ (nU W.Y W.ny);rw[u];exact A8 (wc _) rfl) (uK i rfl) (.refl _);refine y6 (m:=W.s.s.n) rfl (wc _) λj A=>?_;show cH _ [uI (if j=k then 2 else W.s.b j),aX (W.s.s.g j) (W.s.s.l j) none];dsimp only;by_cases c:j=k
 .subst c;rw[Ic,wl rfl,wo];exact .refl _
 .rw[Ie c,wh c];exact .refl _
def qx0(o:W.F.t.h=6)(x:W.ny=6)(a)(k)(d:k<W.s.s.n)(C:W.s.b k=0∨W.s.b k=1):sA W a k 12 (mW W 0 k 12) 0:=by
 have run:=λ{p l f h u i A e} (q:cD 5 p l f h u=some (e,i,A))=>aP [] q;have r:(0+k).blt W.s.s.n=true:=qN ab;refine Pz.post (run ((qxY W a k).trans (qj (mA _) (qj (kN d) (qj (mA _) (qj (mA _) (qj r (qj (mA _) (qj (kN d) (qj (mA _) (qj (mA _) (qj (by rw[r];rfl) rfl)))))))))))) λnt=>tM (mW W 0 k 12) 0 ?_ (by show bU _ (nU W.Y W.ny);rw[x];exact A8 (wc _) rfl) (uK o rfl) (.refl _);refine y6 (m:=W.s.s.n) rfl (wc _) λj B=>?_;show cH _ [uI (if j=k then 1-W.s.b j else W.s.b j),aX (W.s.s.g j) (W.s.s.l j) none];dsimp only;by_cases c:j=k
 .subst c;rw[Ic,wl rfl,wo,show u8.wrap (1-W.s.b j)=1-W.s.b j from nY ab ab];exact .refl _
 .rw[Ie c,wh c];exact .refl _
def qx1(d:W.F.t.h=6)(f:W.ny=6)(a:Int)(k:Nat)(hn:0<W.s.s.n)(o:0<W.s.s.l 0)(r:W.F.nh<=1000000):sA W a k 10 (mW W 0 k 10) 6:=by
 have e:OO (KG qt):=qA qm (λ_ _ _ _ h=>(by cases h));have q:=(qxX W a k).trans (qj (mA _) (qj (wt bP) (qj (mA _) (qj (mA _) (qj (qN hn) (qj (wt bP) rfl))))));by_cases z:W.F.nh=0
 .refine Pz.post (bR e [] (q.trans (qj (by simp[z]) rfl))) λnt=>tM (mW W 0 k 10) 6 (Du rfl) (by show bU _ (nU W.Y W.ny);rw[f];exact A8 (wc _) rfl) (uK d rfl) ?_;show bU _ (.view 2 (W.F.nh+1) (λj=>((if j=0 then W.s.s.g 0 0 else W.F.he (j-1):aw)).c) none);rw[z];refine .view (.inr rfl) λj i=>?_;obtain rfl:j=0:=by omega
  exact .refl _
 .refine Pz.post (bR e [] (q.trans (qB (by simp[z]) (qj (by rw[qN ab,qR ab];rfl) rfl)))) λnt=>tM (mW W 0 k 10) 6 (Du rfl) (by show bU _ (nU W.Y W.ny);rw[f];exact A8 (wc _) rfl) (uK d rfl) ?_;show bU _ (.view 2 (W.F.nh+1) (λj=>((if j=0 then W.s.s.g 0 0 else W.F.he (j-1):aw)).c) none);rw[Nat.add_comm W.F.nh 1];refine qo6 (m:=1+W.F.nh) rfl (wc _) λj i=>?_;by_cases c:j=0
  .subst c;exact .refl _
  .rw[QZ ab,wh c];exact .refl _
end
def qx2(p:t7->T->Prop)(y n:Int)(W:dc)(a:Int)(k:Nat)(d:k<16):cK (KG (qt.add 23 (qH p λ_=>some (.agg [uI y,iI n])))) 5 ce dW [uI a,oW W,iI 1,iI (ofNat k),uI 11] (hW W) o5 =
( gD (W.s.s.n==W.s.s.n&&true)<|gD (decide (ofNat k<ofNat W.s.s.n))<|gD (W.s.s.n==W.s.s.n&&true)<|gD (W.s.s.n==W.s.s.n&&true)<|gD (Nat.blt k W.s.s.n)<|bif W.s.s.l k==(0:Nat) then gD (W.s.s.n==W.s.s.n&&true)<|gD (decide (ofNat k<ofNat W.s.s.n))<|gD (W.s.s.n==W.s.s.n&&true)<|gD (W.s.s.n==W.s.s.n&&true)<|gD (Nat.blt k W.s.s.n&&true&&true&&true)<|gD (W.s.s.n==W.s.s.n&&true)<|gD (decide (ofNat k<ofNat W.s.s.n))<|gD (W.s.s.n==W.s.s.n&&true)<|gD (W.s.s.n==W.s.s.n&&true)<|gD (Nat.blt k W.s.s.n)<|gD (qx
  (p [uI (6:Int),iI (7:Int)] (T.agg [uI y,iI n]))) none else
 gD (Nat.blt (0:Nat) ((0:Nat)+W.s.s.l k) &&
  (((0:Nat)+W.s.s.l k)*(17:Nat)).ble (70368744177664:Nat))<|gD (W.s.s.n==W.s.s.n&&true)<|gD (decide (ofNat k<ofNat W.s.s.n))<|gD (W.s.s.n==W.s.s.n&&true)<|gD (W.s.s.n==W.s.s.n&&true)<|gD (Nat.blt k W.s.s.n&&true&&true&&true)<|gD (W.s.s.n==W.s.s.n&&true)<|gD (decide (ofNat k<ofNat W.s.s.n))<|gD (W.s.s.n==W.s.s.n&&true)<|gD (W.s.s.n==W.s.s.n&&true)<|gD (Nat.blt k W.s.s.n)<|gD (qx
  (p [uI (6:Int),iI (7:Int)] (T.agg [uI y,iI n])))<|gD (decide ((0:Int)<ofNat ((0:Nat)+W.s.s.l k)))<|gD (Nat.blt (0:Nat) ((0:Nat)+W.s.s.l k)&&true&&true&&true)<|zN [oW W,iI (6:Int)] [fv W.s.s.n (λj=>bif j==k then W.s.b k else W.s.b j) λj =>
   bif j==k then T.own (3:Nat) (0:Nat) (0:Nat) ((0:Nat)+W.s.s.l k) none
   else aX (W.s.s.g j) (W.s.s.l j) none,
   Yf (6:Nat) W.Y,cR (6:Nat) λy=>rk W.F.t y,
   ap.mk (0:Nat) (2:Nat) ((0:Nat)+W.s.s.l k)
    (λe =>
     [uI (bif e==(0:Nat) then y else(W.s.s.g k e).y),
      iI (bif e==(0:Nat) then n else(W.s.s.g k e).n)])
    true false none]):=by
 cases Qb d
 all_goals kernel_rfl
def qx3{W:dc}(o:W.F.t.h=6)(r:W.ny=6)(a:Int)(k:Nat)(d:k<W.s.s.n)(A:W.s.s.n<=16)(B:1<=W.s.s.l k)(x:W.s.s.l k<=1000):sA W a k 11 (mW W 0 k 11) 6:=by
 obtain⟨p,i⟩:=qz au G16 23;have f:decide (ofNat k<ofNat W.s.s.n)=true:=wt bP;have u:(k.blt W.s.s.n&&true&&true&&true)=true:=by rw[qN d];rfl
 refine Pz.post (bR (qA (qr qm (qn i)) (λ_ _ _ _ h=>(by cases h))) [] ((qx2 p 6 7 W a k ab).trans
  (qj (mA _) (qj f (qj (mA _) (qj (mA _) (qj (qN d) (qB rx (qj (by rw[qN ab,qR ab];rfl) (qj (mA _) (qj f (qj (mA _) (qj (mA _) (qj u (qj (mA _) (qj f (qj (mA _) (qj (mA _) (qj (qN d) (qj (qu i (R4 6 7)) (qj (wt bP) (qj (by rw[qN ab];rfl) rfl))))))))))))))))))))))
  λnt=>tM (mW W 0 k 11) 6 ?_ (by show bU _ (nU W.Y W.ny);rw[r];exact A8 (wc _) rfl) (uK o rfl) (.refl _)
 refine y6 (m:=W.s.s.n) rfl (wc _) λj C=>?_;show cH _ [uI (W.s.b j),aX (if j=k then λe=>if e=0 then ⟨6,7⟩ else W.s.s.g j e else W.s.s.g j) (W.s.s.l j) none];dsimp only;by_cases c:j=k
 .subst c;rw[show(j==j)=true by simp,wl rfl];refine .rg (.cons ?_ .nil);show mV (bif (true&&(0==0&&Nat.ble (0+(0+W.s.s.l j)) (0+W.s.s.l j))) then T.view 2 (0+W.s.s.l j) (λe=>[uI (bif (0+e)==0 then(6:Int) else(W.s.s.g j (0+e)).y),iI (bif (0+e)==0 then(7:Int) else(W.s.s.g j (0+e)).n)]) none else .undef) _;rw[qR ab];simp only[wo];refine .view (.inr rfl) λe he=>?_;dsimp only;by_cases z:e=0
  .subst z;exact .refl _
  .rw[show(e==0)=false by simp[z],wh z];exact .refl _
 .rw[show(j==k)=false by simp[c],wh c];exact .refl _
def Co:t7->am
 |[.int .u8 k,.int .u8 y,.int .i64 a,.int .i64 b,.bool f]=>⟨k,y,a,b,f⟩
 |_=>⟨0,0,0,0,false⟩
def FI:t7->Bool
 |[.int .u8 _,.int .u8 _,.int .i64 _,.int .i64 _,.bool _]=>true
 |_=>false
def qrt{l}(h:FI l=true):l=(Co l).c:=by
 unfold FI at h;split at h
 .rfl
 .cases h
def qnj(g)(n)(c)(y)(hn:n<=1000000)(d:∀j,j<n->FI (g j)=true):TO 114 [.view 5 n g c,KW y] (.bool (uZ (λj=>Co (g j)) n y)) :=
 (qn3 (λj=>Co _) n c y hn).J3 (.cons (.view (.inl rfl) λj a=>by rw[←qrt (d j a)];exact .refl _) (.refl _))
def lu(us:Int->Bool)(k:Nat):List Int:=((List.range k).map λ(i:Nat)=>(i:Int)+1).filter us
def MS(us)(k):lu us (k+1)=if us ((k:Int)+1)=true then lu us k++[(k:Int)+1] else lu us k:=by
 unfold lu;rw[vV,vh,List.filter_append];grind
def qhM(us){k}(a:us ((k:Int)+1)=true):∀m,k<m->∃r,lu us m=lu us k++((k:Int)+1)::r
 |0,h=>by omega
 |m+1,h=>by
  rcases wu k m with q|q
  .obtain⟨r,hr⟩:=qhM us a m q;rw[MS];grind
  .obtain rfl:k=m:=by omega
   rw[MS,wl a];grind
def bx:Nat->Nat->t7
 |0,e=>[uI (bif e==0 then 1 else 0)]
 |k+1,e=>[uI (bif e==0 then ofNat (k+2) else bif e==0 then ofNat (k+1) else 0)]
def zH(k:Nat):qa:=(List.range (k+1)).map λi=>⟨0,1,1,bx i,true,false,none⟩
def Yh(l:Nat)(row:T)(k:Nat):t7:=[.rZ l,.vp [row],.ptr k 0 0 0]
noncomputable def R5(p:t7->T->Prop)(b:Bool):bv:=qt.add 114 (qH p λ_=>some (.bool b))
def qrv(g)(n)(c)(us)(Ad:∀y,TO 114 [.view 5 n g c,KW y] (.bool (us y))):nr au G16 112 [.vp [.view 5 n g c]] (lu us 6).length (λi=>[uI ((lu us 6).getD i 0)]):=by
 obtain⟨p,L⟩:=qz au G16 114;have P:∀b,OO (R5 p b):=λb=>qr qm (qn L);refine qlE (aa:=[]) Tryz.func112 rfl qh qh (by simp_all) (xL qh) λl R J Jx a CU hy X g0 w W hi=>?_;refine wpIn_seq ?_;refine It.Bj (m:=0) (l:=ir) (vs:=[.rZ l,.vp [.view 5 n g c]]) (h:=[]) (l':=pK) (aW:=Yh l (.view 5 n g c) 0) (h':=zH 0) (e:=.normal) qV qm (by simp_all) qh qh (a 0) (hi.only _) λX1 g1 a1 W1 LZ=>?_;refine wpIn_block ?_;refine yA (λm Z W=>∃(k:Nat) (X:Nat->Prop) (gg:Gh),k<=6/\m=6-k/\It G16 [] Tryz.f112.ntmps R (J (lu us k).length) X gg (qJ pK (Yh l (.view 5 n g c) k) (zH k)) Z W) (λm Z W hI=>?_) 6 a1 W1 ⟨0,X1,g1,ab,ab,LZ⟩;obtain⟨k,X5,g5,cz,rfl,x⟩:=hI;refine wpIn_seq ?_;rcases wu k 6 with Mj|Mj
 .have I:=Ad ((k:Int)+1);have o:k=0∨k=1∨k=2∨k=3∨k=4∨k=5:=by omega
  refine It.Bj (m:=0) (l:=pK) (vs:=Yh l (.view 5 n g c) k) (h:=zH k) (l':=pK) (aW:=Yh l (.view 5 n g c) k) (h':=zH k) (e:=.normal) qV qm (by simp_all) (by rcases o with rfl|rfl|rfl|rfl|rfl|rfl<;>kernel_rfl) qh (a _) x λX6 S a6 W6 O=>?_;refine wpIn_seq ?_;refine wpIn_block ?_;refine wpIn_seq ?_;refine It.Bj (m:=0) (l:=pK) (vs:=Yh l (.view 5 n g c) k) (h:=zH k) (l':=[0,1,3,4]) (aW:=Yh l (.view 5 n g c) k++[.fn 113 [.ptr k 0 0 0]]) (h':=zH k) (e:=.normal) qV qm (by simp_all) (by rcases o with rfl|rfl|rfl|rfl|rfl|rfl<;>kernel_rfl) qh (a _) O λX7 g7 a7 W7 u=>?_;refine wpIn_seq ?_;cases s:us ((k:Int)+1) with
  |false =>
   rw[s] at I;have M:lu us (k+1)=lu us k:=by rw[MS,wh (by rw[s];simp)]
   refine It.Bj (m:=0) (K:=R5 p false) (l:=[0,1,3,4]) (vs:=Yh l (.view 5 n g c) k++[.fn 113 [.ptr k 0 0 0]]) (h:=zH k) (l':=sT) (aW:=Yh l (.view 5 n g c) k++[.bool false]) (h':=zH k) (e:=.normal) qV (P false) (by simp_all) (Eq.trans (b:=bif qx (p [(.view 5 n g c),KW ((k:Int)+1)] (.bool false)) then some (.normal,Yh l (.view 5 n g c) k++[.bool false],zH k) else none) (by rcases o with rfl|rfl|rfl|rfl|rfl|rfl<;>kernel_rfl) (qj (qu L I) rfl)) qh (a _) u λX8 Q Y W8 E=>?_;refine It.Bj (m:=0) (l:=sT) (vs:=Yh l (.view 5 n g c) k++[.bool false]) (h:=zH k) (l':=pK) (aW:=Yh l (.view 5 n g c) k) (h':=zH k) (e:=.normal) qV qm (by simp_all) (by rcases o with rfl|rfl|rfl|rfl|rfl|rfl<;>kernel_rfl) qh (a _) E λX9 g9 a9 W9 N=>?_;refine It.Bj (m:=0) (l:=pK) (vs:=Yh l (.view 5 n g c) k) (h:=zH k) (l':=pK) (aW:=Yh l (.view 5 n g c) (k+1)) (h':=zH (k+1)) (e:=.normal) qV qm (by simp_all) (by rcases o with rfl|rfl|rfl|rfl|rfl|rfl<;>kernel_rfl) qh (a _) N λD C V B H=>?_;exact⟨6-(k+1),ab,k+1,D,C,ab,rfl,by rw[M];exact H⟩
  |true =>
   rw[s] at I;obtain⟨r,hr⟩:=qhM us s 6 Mj;have M:(lu us (k+1)).length=(lu us k).length+1:=by rw[MS,wl s];simp
   have U:(lu us k).length<(lu us 6).length:=by rw[hr];simp
   have fA:(lu us 6).getD (lu us k).length 0=(k:Int)+1:=by rw[hr];simp
   refine It.yield (K:=R5 p true) (k:=6) (l:=[0,1,3,4]) (l':=sT) (vs:=Yh l (.view 5 n g c) k++[.fn 113 [.ptr k 0 0 0]]) (h:=zH k) (hT:=zH k) (hF:=zH k)
    (vsT:=Yh l (.view 5 n g c) k++[.bool false]) (vsF:=Yh l (.view 5 n g c) k++[.bool true]) (P true) (l0:=l) (xs:=[uI ((k:Int)+1)]) (Eq.trans (b:=bif qx (p [(.view 5 n g c),KW ((k:Int)+1)] (.bool true)) then some (l,[uI ((k:Int)+1)],(Yh l (.view 5 n g c) k++[.bool false],zH k),(Yh l (.view 5 n g c) k++[.bool true],zH k)) else none) (by rcases o with rfl|rfl|rfl|rfl|rfl|rfl<;>kernel_rfl) (qj (qu L I) rfl)) rfl (a _) (a ((lu us k).length+1)) (CU (lu us k).length) u (λX W A hj hpp=>hy (lu us k).length X W A U hj (by rw[fA];omega)) (λX8 Q Y W8 E=>?_) (λX8 Q Y W8 E=>?_)
   .refine It.Bj (m:=0) (l:=sT) (vs:=Yh l (.view 5 n g c) k++[.bool false]) (h:=zH k) (l':=pK) (aW:=Yh l (.view 5 n g c) k) (h':=zH k) (e:=.normal) qV qm (by simp_all) (by rcases o with rfl|rfl|rfl|rfl|rfl|rfl<;>kernel_rfl) qh (a _) E λX9 g9 a9 W9 N=>?_;refine It.Bj (m:=0) (l:=pK) (vs:=Yh l (.view 5 n g c) k) (h:=zH k) (l':=pK) (aW:=Yh l (.view 5 n g c) (k+1)) (h':=zH (k+1)) (e:=.normal) qV qm (by simp_all) (by rcases o with rfl|rfl|rfl|rfl|rfl|rfl<;>kernel_rfl) qh (a _) N λD C V B H=>?_;exact⟨6-(k+1),ab,k+1,D,C,ab,rfl,by rw[M];exact H⟩
   .refine It.Bj (m:=0) (l:=sT) (vs:=Yh l (.view 5 n g c) k++[.bool true]) (h:=zH k) (l':=[]) (aW:=[]) (h':=zH k) (e:=.ret) qV qm (by simp_all) (by rcases o with rfl|rfl|rfl|rfl|rfl|rfl<;>kernel_rfl) qh (CU _) E λD C V B H=>?_;exact⟨.inr rfl,D,C,_,.inr ⟨_,U,H⟩⟩
 .obtain rfl:k=6:=by omega
  refine It.Bj (m:=0) (l:=pK) (vs:=Yh l (.view 5 n g c) 6) (h:=zH 6) (l':=[]) (aW:=[]) (h':=zH 6) (e:=.exit 0) qV qm (by simp_all) qh qh (a _) x λX6 S a6 W6 O=>?_;exact⟨.inl rfl,X6,S,_,.inl O⟩
def Cr:FuncId->t7->Option (List t7):=λf a=>bif f==112 then match a with
 |[.vp [.view 5 n g _]]=>bif Nat.ble n 1000&&(List.range n).all (λj=>FI (g j)) then some ((lu (uZ (λj=>Co (g j)) n) 6).map λy=>[uI y]) else none
 |_=>none else none
def kp:JO au G16 Cr:=λN R l h=>by
 unfold Cr at h;obtain⟨B,r⟩:=qo h;obtain rfl:N=112:=by simpa using B
 split at r
 .rename_i n g c;obtain⟨C,I⟩:=qo r;have k:Nat.ble n 1000=true/\(List.range n).all (λj=>FI (g j))=true:=by simpa only[wd] using C
  have M:=k.1;have L:∀j,j<n->FI _=true:=λj f=>wD.1 k.2 j (xk.2 f);obtain rfl:=we I;have key:=qrv g n c (uZ (λj=>Co (g j)) n) λy=>qnj g n c y (by have:=Qr M;omega) L;rw[wW];have e:(λi=>(List.map (λy=>[uI y]) (lu (uZ (λj=>Co (g j)) n) 6)).getD i [])=λi=>(if i<(lu (uZ (λj=>Co (g j)) n) 6).length then [uI ((lu (uZ (λj=>Co (g j)) n) 6).getD i 0)] else []):=by
   funext i;rw[wg,wE,wg];by_cases q:i<(lu (uZ (λj=>Co (g j)) n) 6).length
   .rw[wl q,wi q];rfl
   .rw[wh q,wz ab];rfl
  rw[e];refine⟨key.enters,λw U u E O D=>?_⟩;have s:=key.it w U u E O D;exact λl J P H Q x W a b c=>s l J P H Q (λi X W d o f A=>x i X W d o f (by dsimp only;rw[wl o];exact A)) W a b c
 grind
def qx4:t8:=[115,83,36,64,37,38,39,40,85,48,62,98,52,105,123,143,149,150,153,154,138,139,140,141,109,125,74,127,68,122,90,97,53]
def qx5:t8:=[13,21,51,35]
def qt8(s:St):t8:=match s.at 4,s.at 5,s.at 7,s.at 9 with
 |.ptr f _ _ _,.ptr e _ _ _,.ptr d _ _ _,.ptr a _ _ _=>match s.h[a]? with
  |some x=>match x.get 0 with
   |.ptr sb _ _ _::_=>match s.h[sb]? with
    |some y=>match y.get 0 with
     |[_,_,_,.own tb _ _ _ _,_]=>[f,e,d,a,sb,tb]
     |_=>[]
    |none=>[]
   |_=>[]
  |none=>[]
 |_,_,_,_=>[]
def Dv:FuncId->Option s6:=λf=>bif f==51 then some ⟨4,[4,5,7,9],1,[4,5,7,9],qt8,[68]⟩ else none
noncomputable def Dw:bv:=K1 au G16 ar Cr Dv (λf=>!(qx4.contains f)) (λf=>qx5.contains f) (λ_=>false) 40 qt 10
def KO:OO Dw:=qj2 qV qY kp 40 qm 10
def Ey(l:List t7):ap:=⟨0,(l.headD []).length,l.length,λj=>l.getD j [],false,Nat.ble l.length 8,none⟩
def stK(y:Int):t7:=[uI 1,uI y,iI 0,iI 0,.bool false]
def qt9:T:=.view 5 2 (λj=>bif j==0 then stK 1 else stK 1) none
def idv(y n:Int):t7:=[uI y,iI n]
def lst(l:List t7):T:=.view (l.headD []).length l.length (λj=>l.getD j []) none
def hx:qa:=[Ey [[qt9,.own 3 0 0 2 (some 2),.own 1 0 0 6 (some 6),.own 2 0 0 6 (some 6),uI 0]],
 Ey ([.bool true,iI 179,iI 2,.bool false,.ae]::List.replicate 5 [.bool false,iI 0,iI 0,.bool false,.ae]),
 Ey ([.own 6 0 0 2 (some 2)]::List.replicate 5 [.ae]),
 Ey [[.own 4 0 0 1 (some 1)],[.own 5 0 0 1 (some 1)]],
 Ey [[uI 0,lst [idv 1 0]]],Ey [[uI 0,lst [idv 1 1]]],
 Ey [[uI 0,.bool true,.ae,.ae],[uI 0,.bool false,.ae,.ae]]]
def Sd:T:=vw 1 none [[.str [107]],[.str [107]]]
def er0:T:=.aJ [vw 2 (some 2) [[uu 0,vw 2 (some 1) [[uu 1,ii 3]]],[uu 0,vw 2 (some 1) [[uu 1,ii 2]]]],.agg [uu 0,.bool false,vw 2 (some 1) [[uu 1,ii 0]],vw 4 (some 0) []],.agg [uu 0,.bool false,.ae,.ae],vw 5 (some 0) []]
def qua:TO 41 [Sd] er0:=Kg (o:=KX au G16 ar Cr Dv Dw 40 41 [Sd]) (d:=9) (λr h=>zK (m:=40) qV qY KO kp h) qh
def Se:T:=vw 1 none [[.str [107,50]],[.str [107]]]
def er1:T:=.aJ [vw 2 (some 2) [[uu 0,vw 2 (some 1) [[uu 2,ii 0]]],[uu 0,vw 2 (some 1) [[uu 1,ii 2]]]],.agg [uu 0,.bool false,vw 2 (some 1) [[uu 1,ii 1]],vw 4 (some 0) []],.agg [uu 0,.bool true,vw 2 (some 1) [[uu 1,ii 0]],vw 4 (some 1) [[uu 1,ii 2,.bool false,uu 0]]],vw 5 (some 0) []]
def qub:TO 41 [Se] er1:=Kg (o:=KX au G16 ar Cr Dv Dw 40 41 [Se]) (d:=9) (λr h=>zK (m:=40) qV qY KO kp h) qh
def Sf:T:=vw 1 none [[.str [112,50]],[.str [107]]]
def er2:T:=.aJ [vw 2 (some 2) [[uu 1,vw 2 (some 1) [[uu 2,ii 0]]],[uu 0,vw 2 (some 1) [[uu 1,ii 2]]]],.agg [uu 0,.bool false,vw 2 (some 1) [[uu 1,ii 1]],vw 4 (some 0) []],.agg [uu 1,.bool true,vw 2 (some 1) [[uu 1,ii 0]],vw 4 (some 1) [[uu 1,ii 2,.bool false,uu 0]]],vw 5 (some 0) []]
def quc:TO 41 [Sf] er2:=Kg (o:=KX au G16 ar Cr Dv Dw 40 41 [Sf]) (d:=9) (λr h=>zK (m:=40) qV qY KO kp h) qh
def Sg:T:=vw 1 none [[.str [99,49,49,70]]]
def er3:T:=.aJ [vw 2 (some 2) [[uu 0,vw 2 (some 1) [[uu 1,ii 3]]],[uu 0,vw 2 (some 1) [[uu 1,ii 2]]]],.agg [uu 0,.bool false,vw 2 (some 1) [[uu 1,ii 1]],vw 4 (some 0) []],.agg [uu 0,.bool false,.ae,.ae],vw 5 (some 1) [[uu 1,ii 0,uu 1,ii 1,ii 1]]]
def qud:TO 41 [Sg] er3:=Kg (o:=KX au G16 ar Cr Dv Dw 40 41 [Sg]) (d:=9) (λr h=>zK (m:=40) qV qY KO kp h) qh
def Sh:T:=vw 1 none [[.str [111]],[.str [47]]]
def er4:T:=.aJ [vw 2 (some 2) [[uu 0,vw 2 (some 1) [[uu 1,ii 3]]],[uu 0,vw 2 (some 1) [[uu 1,ii 2]]]],.agg [uu 0,.bool false,vw 2 (some 0) [],vw 4 (some 0) []],.agg [uu 0,.bool false,.ae,.ae],vw 5 (some 0) []]
def que:TO 41 [Sh] er4:=Kg (o:=KX au G16 ar Cr Dv Dw 40 41 [Sh]) (d:=9) (λr h=>zK (m:=40) qV qY KO kp h) qh
def Si:T:=vw 1 none [[.str [116]],[.str [115]]]
def er5:T:=.aJ [vw 2 (some 2) [[uu 0,vw 2 (some 2) [[uu 1,ii 0],[uu 1,ii 2]]],[uu 0,vw 2 (some 1) [[uu 1,ii 1]]]],.agg [uu 0,.bool false,vw 2 (some 0) [],vw 4 (some 1) [[uu 1,ii 1,.bool false,uu 0]]],.agg [uu 0,.bool false,.ae,.ae],vw 5 (some 0) []]
def quf:TO 41 [Si] er5:=Kg (o:=KX au G16 ar Cr Dv Dw 40 41 [Si]) (d:=9) (λr h=>zK (m:=40) qV qY KO kp h) qh
def qug:Ez:=[(41,[Sd],er0),(41,[Se],er1),(41,[Sf],er2),(41,[Sg],er3),(41,[Sh],er4),(41,[Si],er5)]
def qpb:MY au G16 qug:=⟨qua,qub,quc,qud,que,quf,trivial⟩
def qpc:TO 14 [] (.bool true):=zK (A:=ar) (Z:=Dv) (K:=Jw 9 qug Dw) (m:=40) qV qY (qnr qpb KO) kp qh
def re1(p:t7->T->Prop)(W:dc)(c:T)(x:Int):cK (qt.add 15 (qH p λ_=>some (iI x))) 5 si o5 [.ag W.c,c] [] [9,10,12] =
( gD (qx (p [.agg W.c] (iI x)))<|zN [.ag W.c,c,iI x] []):=qh
def re2(p:t7->T->Prop)(W:dc)(c d:T)(x:Int):cK (qt.add 21 (qH p λ_=>some (.aJ [.agg bE,iI x]))) 5 [1,2,2,2,2,2,2,2,2] [9,10,12] [.ag W.c,c,d] [] tQ =
( gD (qx (p [.agg W.c,.view 5 1 (λj=>[[uI (0:Int),uI (0:Int),iI (0:Int),iI (0:Int),T.bool false]].getD j []) (some 1)] (.aJ [.agg [.ae,.ae,.ae,.ae,.ae,.ae,uI 0],iI x])))<|zN [c,d,.ag [.ae,.ae,.ae,.ae,.ae,.ae,uI 0],iI x] []):=qh
def re3(p:t7->T->Prop)(x y z:Int):cK (qt.add 14 (qH p λ_=>some (.bool true))) 5 rc tQ [iI x,iI y,.ag bE,iI z] [] [6] =
( bif decide (y=x) then bif decide (x=0) then bif decide (z=1) then gD (qx (p [] (.bool true)))<|zR [.bool true] [] else
 bif !decide (x=0) then bif decide (z=x) then gD (qx (p [] (.bool true)))<|zR [.bool true] [] else
 zR [.bool false] [] else
 zR [.bool false] [] else
 bif !decide (x=0) then bif decide (z=x) then gD (qx (p [] (.bool true)))<|zR [.bool true] [] else
 zR [.bool false] [] else
 zR [.bool false] [] else
 zR [.bool false] []):=qh
def Dx(v:Nat):Int:=if v=0∨v=1 then 5 else if v=10∨v=11 then 6 else if v=12 then 0 else 1
def R0:Nat->am:=λ_=>⟨0,0,0,0,false⟩
def quh:rE R0 1=1:=by rfl
def qui:∀j,(R0 j).Ok:=λ_=>(show(am.mk 0 0 0 0 false).Ok from⟨⟨by decide,by decide⟩,⟨by decide,by decide⟩,⟨by decide,by decide⟩,⟨by decide,by decide⟩⟩)
def quj{W}(hw:W.Ok){x}(hx:la W=x):TO 21 [.agg W.c,cU R0 1 (some 1)] (.aJ [.agg bE,iI (if x=0 then 1 else x)]):=by
 by_cases z:x=0
 .rw[wl z];have t:=qne W R0 1 (some 1) (by decide) qui (by decide);exact qo4 W hw R0 1 (some 1) 1 (hx.trans z) (qnf W R0 1 (some 1) 1 (by decide) t)
 .rw[wh z,←hx];exact qo3 W hw R0 1 (some 1) (by rw[hx];exact z)
def quk{W}(hw:W.Ok)(x)(hx:la W=x):Pq 5 [] s4 o5 [.ag W.c,iI x] [] .ret [6] [.bool true] []:=by
 obtain⟨p,f⟩:=qz au G16 15;obtain⟨q,e⟩:=qz au G16 21;obtain⟨u,d⟩:=qz au G16 14;have a:=KH W hw;rw[hx] at a;have tr:=(quj hw hx).J3 (args:=[.agg W.c,T.view (5:Nat) (1:Nat) (λj=>[[uI (0:Int),uI (0:Int),iI (0:Int),iI (0:Int),T.bool false]].getD j []) (some (1:Nat))])
  (.rg (.cons (.view (.inl rfl) λj s=>by obtain rfl:j=0:=ab
                                         exact .refl _) .nil))
 have o:=bR (qr qm (qn f)) [] ((re1 p W (iI x) x).trans (qj (qu f a) rfl));have k:=bR (qr qm (qn e)) [] ((re2 q W (iI x) (iI x) (if x=0 then 1 else x)).trans (qj (qu e tr) rfl));have r:=qu d qpc;have i:Pq 5 [] rc tQ [iI x,iI x,.ag bE,iI (if x=0 then 1 else x)] [] .ret [6] [.bool true] []:=by
  refine bR (qr qm (qn d)) [] ((re3 u x x (if x=0 then 1 else x)).trans (qj aq ?_));grind
 exact ao o (ao k i)
structure MZ(w:bJ):Prop where
 f:A2 w
 n:1<=w.sl.length
 ok:w.w.Ok
 c:la w.w=0
 b:∀j,j<w.sl.length->w.w.s.b j=0∨w.w.s.b j=1
 d:∀v,v<13->∀A,A<6->∀k,k<w.sl.length->(mW w.w A k v).Ok/\la (mW w.w A k v)=Dx v
def qul{w}(h:MZ w)(a)(s:0<=a)(k)(i:k<w.sl.length)(v:Nat)(e:v<13):∃j,j.Ok/\la j=Dx v/\sA w.w a k v j (Dx v):=by
 have o:(a.tmod 6).toNat<6:=by
  have r:a.tmod 6=a%6:=vH s;omega
 have t6:w.w.F.t.h=6:=rfl;have g:w.w.ny=6:=rfl;have key:∀v,v<13->∀A,A<6->sA w.w a k v (mW w.w A k v) (Dx v)->∃j,j.Ok/\la j=Dx v/\sA w.w a k v j (Dx v):=λv e A o p=>⟨_,(h.d v e A o k i).1,(h.d v e A o k i).2,p⟩;obtain rfl|rfl|rfl|rfl|rfl|rfl|rfl|rfl|rfl|rfl|rfl|rfl|rfl:v=0∨v=1∨v=2∨v=3∨v=4∨v=5∨v=6∨v=7∨v=8∨v=9∨v=10∨v=11∨v=12:=by omega
 .exact key 0 e 0 (by decide) (df0 t6 a k)
 .exact key 1 e 0 (by decide) (df1 t6 g a k)
 .exact key 2 e _ o (df2 t6 g a s k)
 .exact key 3 e 0 (by decide) (df3 t6 g a k)
 .exact key 4 e 0 (by decide) (df4 t6 g a k)
 .exact key 5 e 0 (by decide) (df5 t6 g a k)
 .exact key 6 e 0 (by decide) (df6 t6 g a k i)
 .exact key 7 e 0 (by decide) (df7 t6 g a k i)
 .exact key 8 e 0 (by decide) (df8 t6 g a k i)
 .exact key 9 e 0 (by decide) (df9 t6 g a k)
 .exact key 10 e 0 (by decide) (qx1 t6 g a k h.n (by have:=(h.f.l 0 h.n).1;exact this) h.f.he)
 .exact key 11 e 0 (by decide) (qx3 t6 g a k i h.f.N (h.f.l k i).1 (by have:=(h.f.l k i).2;exact wM this (by decide)))
 .exact key 12 e 0 (by decide) (qx0 t6 g a k i (h.b k i))
def qum(c:Cp)(W:Nat->bJ)(tb:TO 18 [c.t] (.aJ [.view 7 (c.aT+1) (λj=>(W j).cc none) none,c.ch]))(hW:∀i,i<=c.aT->MZ (W i))(a b:Int)(C:0<=a/\a<256)(hb:0<=b/\b<256) :
 TO 5 [c.t,uI a,uI b] (.bool true):=by
 have run:=λ{p l O h l1 P h1 e} (q:cD 5 p l O h l1=some (e,P,h1))=>aP [] q;obtain⟨MI,u⟩:=qz au G16 18;obtain⟨RT,o⟩:=ZY au G16 22;obtain⟨RJ,x⟩:=qz au G16 15;have p0:=run (rc0 (c.w:Int) c.cI c.M c.h a b);have p1:=bR (qr qm (qn u)) [] ((rc1 MI (c.w:Int) c.cI c.M c.h (c.aT+1) c.aT c.rw c.rn W a b).trans (qj (qu u tb) rfl));have D:i64.wrap a=a:=Qv ab ab;obtain⟨i,hi,ei⟩:∃i:Nat,i<=c.aT/\a.tmod (ofNat (c.aT+1))=(i:Int):=by
  have r:a.tmod (ofNat (c.aT+1))=a%((c.aT+1:Nat):Int):=vH C.1;have R:=Int.emod_nonneg a (show((c.aT+1:Nat):Int)≠0 by omega);have Q:=Int.emod_lt_of_pos a (show(0:Int)<((c.aT+1:Nat):Int) by omega);exact⟨(a%((c.aT+1:Nat):Int)).toNat,ab,by rw[r];omega⟩
 have g:=hW i hi;generalize hw:W i=w at g;have B:=PV (λ_=>false) w g.f.N (λj L=>⟨(g.f.l j L).1,by have:=(g.f.l j L).2;omega⟩) (λe=>by have:=g.f.pe e;omega) (λe=>by have:=g.f.tb e;omega) (by have:=g.f.cr;omega) g.f.he g.f.fa;have J:=rc2 RT (c.aT+1) W w a b (hT (λ_=>false) w 6);rw[D,ei] at J;have p2:=Pz.post (bR (qA qm (Qy o)) [] (J.trans (qB rx (qj rx (qj (by
  rw[show((i:Int)).toNat=i from rfl,hw];exact QR o B) rfl))))) λnt=>qrs w a b
 have E:=KH w.w g.ok;rw[g.c] at E;have e3:T.agg [bif w.w.s.s.n==w.w.s.s.n&&((0:Nat)+w.w.s.s.n).ble w.w.s.s.n then T.view (2:Nat) w.w.s.s.n (λj=>Ew w.w.s ((0:Nat)+j)) none else T.undef,nU (λj=>w.w.Y ((0:Nat)+j)) (6:Nat),T.view (1:Nat) (6:Nat) (λj=>rk w.w.F.t ((0:Nat)+j)) none,mb w.w.F.cr w.w.F.nc none,aX w.w.F.he w.w.F.nh none,aX w.w.F.fa w.w.F.nf none,uI w.w.d] = .agg w.w.c:=by
  rw[wF,qR (show 0+w.w.s.s.n<=w.w.s.s.n by omega)];simp only[wo];rfl
 have I:=rc3 RJ w.w a b 0;rw[e3] at I;have Z:=bR (qr qm (qn x)) [] (I.trans (qj (qu x E) (qB aq rfl)));have X:=run (rc4 w.w a b);obtain⟨k,hk,ek⟩:∃k:Nat,k<w.sl.length/\a.tmod (ofNat w.w.s.s.n)=ofNat k:=by
  have hn:=g.n;have r:a.tmod (ofNat w.w.s.s.n)=a%((w.sl.length:Nat):Int):=vH C.1;have R:=Int.emod_nonneg a (show((w.sl.length:Nat):Int)≠0 by omega);have Q:=Int.emod_lt_of_pos a (show(0:Int)<((w.sl.length:Nat):Int) by omega);exact⟨(a%((w.sl.length:Nat):Int)).toNat,ab,by rw[r];grind⟩
 have H:=RZ w.w a b (iI 1);rw[D,ek] at H;have V:=run (H.trans (qj (mA _) (qB (by have:=g.n;show ¬decide (ofNat w.sl.length=0)=true;grind) rfl)));obtain⟨v,hv,ev⟩:∃v:Nat,v<13/\b.tmod 13=(v:Int):=by
  have r:b.tmod 13=b%13:=vH hb.1;exact⟨(b%13).toNat,ab,by rw[r];omega⟩
 have q6:=rc6 w.w a b (iI 1) (iI (ofNat k));rw[ev] at q6;have U:=run q6;obtain⟨W',o',e',S⟩:=qul g a C.1 k hk v hv;exact Pz.told (A:=ar) qY Tryz.func5 qh qh (l:=[0,1,2]) rfl
  (ao p0 (ao p1 (ao p2 (ao Z (ao X (ao V (ao (ao U (cO 0 S)) (quk o' (Dx v) e')))))))) rfl
def Kp(y:Nat)(q a:Ys):Prop:=a.tb y=q.tb y
def Kp.refl{y:Nat}(q:Ys):Kp y q q:=rfl
def Kp.trans{y:Nat}{a b c:Ys}(h:Kp y a b)(k:Kp y b c):Kp y a c:=Eq.trans k h
section
variable {y K:Nat} (ne:y≠K)
def Kp.loop(ne:y≠K)(q:Ys)(b:Int)(th:List aw):Kp y q (q.loop K b th):=by
 show aA q.tb K _ y=_;exact JS _ _ ne
def qns(ne:y≠K):∀(l:List aB) (q:Ys),Kp y q (lK K q l).1
 |[],q=>.refl q
 |s::l,q=>(Kp.loop ne q s.b s.l).trans (qns ne l _)
def qrw(ne:y≠K)(right:Bool)(q:Ys)(l:List aB):Kp y q (BD K right q l).1:=by
 cases right<;>exact qns ne _ q
def qj5(right:Bool):∀(l:List aB) (q:Ys),Kp y q (l.foldl (λq s=>q.e8 K (z8 s right)) q)
 |[],q=>.refl q
 |s::l,q=>Kp.trans (b:=q.e8 K (z8 s right)) rfl (qj5 right l (q.e8 K (z8 s right)))
def qrx(ne:y≠K)(right a:Bool)(s:am)(q:Ys)(l:List aB):Kp y q (ly K right a s q l).1:=by
 unfold ly;split
 .unfold oq;split
  .exact Kp.loop ne _ _ _
  .split
   .exact Kp.loop ne _ _ _
   .split
    .rfl
    .exact qrw ne right q l
 .exact qj5 right _ q
def qnt(ne:y≠K)(right a:Bool):∀(t:List (am×List aB)) (q:Ys),Kp y q (me K right a q t).1
 |[],q=>.refl q
 |(s,l)::t,q=>(qrx ne right a s q l).trans (qnt ne right a t _)
def qnu(ne:y≠K)(right a:Bool)(row:List am)(q:Ys)(d:List (List aB)):Kp y q (mu K right a row q d).1:=by
 unfold mu;cases right<;>exact qnt ne _ a _ q
def qry(ne:y≠K)(row:List am)(right:Bool)(p:Ys×List (List aB)):Kp y p.1 (iy row right p K).1:=by
 unfold iy;split
 .rfl
 ·simp only[];have m1:Kp y p.1 (if (p.1.Y K).i=false then p.1.dp K ⟨true,zi (!right),(p.1.Y K).ct,true,(p.1.Y K).pe⟩ else p.1):=by
   split<;>exact rfl
  refine m1.trans ?_;generalize (if (p.1.Y K).i=false then p.1.dp K ⟨true,zi (!right),(p.1.Y K).ct,true,(p.1.Y K).pe⟩ else p.1)=a;have d:Kp y a (if (a.Y K).pl≠zi (!right) then(mu K (!right) false row a p.2).1 else a):=by
   split
   .exact qnu ne _ _ _ _ _
   rfl
  refine d.trans ?_;exact Kp.trans (qnu ne right true row _ p.2) rfl
end
def qj6{y:Nat}(row:List am)(a:Jv row y=false)(right:Bool)(p:Ys×List (List aB)):∀k,Kp y p.1 ((List.range k).foldl (iy row right) p).1
 |0=>.refl _
 |k+1=>by
  rw[vV,xC];refine(qj6 row a right p k).trans ?_;show Kp y _ (iy row right _ k).1;by_cases c:y=k
  .subst c;unfold iy;rw[wl a];rfl
  .exact qry c row right _
def Cp.Dy(c:Cp):∀i,(c.wk i).q.tb 5=[]
 |0=>by
  show(Kc c.K (c.w%8+1)).q.tb 5=[];rw[Z2,wh];have h:=RY (G:=c.rw 0) (c.gP 0).1.y (c.rn 0-1);grind[Cp.K]
 |i+1=>by
  have a:=Cp.Dy c i;show(zI (c.wk i) (c.rw i) (c.rn i) (decide (i%2=1)) 6).q.tb 5=[];rw[(MK (c.wk i) (c.rw i) (c.rn i) (decide (i%2=1)) 6).1];have d:Jv ((List.range (c.rn i)).map (c.rw i)) 5=false:=by
   unfold Jv;rw[List.any_eq_false];intro s e;obtain⟨k,_,rfl⟩:=wY.1 e;have h:(c.rw i k).y<=3:=((c.gP i).1.y k).2;grind
  have:=qj6 ((List.range (c.rn i)).map (c.rw i)) d (decide (i%2=1)) ((c.wk i).q,(List.range (c.rn i)).map (cP (c.wk i) (c.rw i))) 6;exact Eq.trans this a
def j8{g}{n i}(a:i<n)(h:g i=false):¬qL g n=true:=λq=>by
 have:=(qI g n).1 q i a;grind
structure Ir(W:dc):Prop where
 y:W.ny=6/\W.F.t.h=6
 f:qL (u5 W) 6=true
 n:(1<=W.s.s.n/\W.s.s.n<=16)/\(W.d=0∨W.d=1)
 s:qL (u6 W) W.s.s.n=true
 F:kJ W.F (mJ W.F)=0
 h:Fm W=true
def Ir.of{W}(h:la W=0):Ir W:=by
 unfold la at h;by_cases j:W.ny=6/\W.F.t.h=6
 .rw[wl j] at h;by_cases g:qL (u5 W) 6=true
  .rw[wl g] at h;by_cases f:(1<=W.s.s.n/\W.s.s.n<=16)/\(W.d=0∨W.d=1)
   .rw[wl f] at h;by_cases e:qL (u6 W) W.s.s.n=true
    .rw[wl e] at h;by_cases a:kJ W.F (mJ W.F)=0
     .rw[wl a] at h;by_cases i:Fm W=true
      .exact⟨j,g,f,e,a,i⟩
      .rw[wh i] at h;cases h
     .rw[wh a] at h;exact absurd h a
    .rw[wh e] at h;cases h
   .rw[wh f] at h;cases h
  .rw[wh g] at h;cases h
 omega
def Sj{W}(y:W.ny=6/\W.F.t.h=6)(f:¬qL (u5 W) 6=true):la W=1:=by unfold la;rw[wl y,wh f]
def qun{W}(y:W.ny=6/\W.F.t.h=6)(f:qL (u5 W) 6=true)(n:¬((1<=W.s.s.n/\W.s.s.n<=16)/\(W.d=0∨W.d=1))):la W=1:=by unfold la;rw[wl y,wl f,wh n]
def Sk{W}(y:W.ny=6/\W.F.t.h=6)(f:qL (u5 W) 6=true)(n:(1<=W.s.s.n/\W.s.s.n<=16)/\(W.d=0∨W.d=1))(s:¬qL (u6 W) W.s.s.n=true):la W=1:=by unfold la;rw[wl y,wl f,wl n,wh s]
def qup{W}(y:W.ny=6/\W.F.t.h=6)(f:qL (u5 W) 6=true)(n:(1<=W.s.s.n/\W.s.s.n<=16)/\(W.d=0∨W.d=1))(s:qL (u6 W) W.s.s.n=true)(F:kJ W.F (mJ W.F)=0∨kJ W.F (mJ W.F)=6)(h:¬Fm W=true):la W=6:=by
 grind[la]
section
variable {w:bJ} {ord:List aw} (hI:gQ w ord)
def quq(hI:gQ w ord)(k:Nat):(mW w.w 0 k 10).Ok/\la (mW w.w 0 k 10)=6:=by
 have I:=Ir.of hI.Mq;have o:=hI.Mp;obtain⟨u,r,es⟩:∃u r,w.sl=u::r:=by
  cases e:w.sl with
  |nil=>have:=hI.sn.1;rw[e] at this;grind
  |cons a b=>grind
 have L:=(hI.sb u (by rw[es];simp)).2.1;have g0:w.w.s.s.g 0 0=w.w.F.he 0:=by
  show((w.sl.getD 0 aO).l).getD 0 bA=w.he.getD 0 bA;rw[←hI.held,es];show u.l.getD 0 bA=(u.l++bH r).getD 0 bA;rw[wg,wg,wy ab]
 have nh:1<=w.he.length:=by
  rw[←hI.held,es];show 1<=(u.l++bH r).length;rw[wC];omega
 have x:∀c,kJ w.F c=c:=λc=>by
  have h:=I.F;have h:kJ w.F (mJ w.F)=0:=h;unfold kJ at h ⊢;grind
 have Q6:mJ w.F=0:=by rw[←x (mJ w.F)];exact I.F
 let d:dC:=(mW w.w 0 k 10).F
 have M:∀c,kJ d c=c:=x;have A:qL (sS w.F.t w.F.he) w.F.nh=true/\qL (sS w.F.t w.F.fa) w.F.nf=true/\qL (AR w.F) w.F.nf=true:=by
  have h:=Q6;unfold mJ at h;grind
 have E:qL (sS d.t d.he) d.nh=true:=(qI _ _).2 λi C=>by
  have C:i<w.he.length+1:=C;have key:∀j,j<w.he.length->sS w.F.t w.F.he j=true:=λj H=>(qI _ _).1 A.1 j H;show n5 w.F.t (if i=0 then w.w.s.s.g 0 0 else w.F.he (i-1):aw).y (if i=0 then w.w.s.s.g 0 0 else w.F.he (i-1):aw).n=true;by_cases c:i=0
  .rw[wl c,g0];exact key 0 nh
  .rw[wh c];exact key (i-1) ab
 have D:mJ d=0∨mJ d=6:=by
  unfold mJ;rw[E,show qL (sS d.t d.fa) d.nf=true from A.2.1,show qL (AR d) d.nf=true from A.2.2];grind
 refine⟨⟨⟨o.F.t,o.F.cr,o.F.nc,λi=>?_,?_,o.F.fa,o.F.nf⟩,o.Y⟩,qup I.y I.f I.n I.s (by
  grind) λh=>?_⟩
 .show(if i=0 then w.w.s.s.g 0 0 else w.F.he (i-1):aw).Ok;by_cases c:i=0
  .rw[wl c,g0];exact o.F.he 0
  .rw[wh c];exact o.F.he (i-1)
 .show w.he.length+1<=1000000;have:=hI.part.length_eq;simp only[wC] at this;have:=hI.len;omega
 .have B:=I.h;have B:(decide (w.nz.hn=w.he.length)&&qL (B7 w.nz.hz w.F.he) w.nz.hn)=true:=B;have J:(decide (w.nz.hn=w.he.length+1)&&qL (B7 w.nz.hz d.he) w.nz.hn)=true:=h;rw[wd,wm] at B J;omega
def qur(hI:gQ w ord)(O:w.q.tb 5=[])(k:Nat)(o:k<w.sl.length):(mW w.w 0 k 11).Ok/\la (mW w.w 0 k 11)=6:=by
 have I:=Ir.of hI.Mq;have A:=hI.Mp
 let f:Nat->aB:=λi=>if i=k then ⟨(w.sl.getD i aO).b,(⟨6,7⟩:aw)::((w.sl.getD i aO).l).drop 1⟩ else w.sl.getD i aO
 let w':bJ:={ w with sl:=(List.range w.sl.length).map f }
 have N:1<=(w.sl.getD k aO).l.length:=(hI.sb _ (zT o)).2.1;refine⟨⟨A.F,A.Y⟩,qup I.y I.f I.n I.s (.inl I.F) λh=>?_⟩;have sn:w'.sl.length=w.sl.length:=by show((List.range w.sl.length).map f).length=_;simp
 have at':∀i,i<w.sl.length->w'.sl.getD i aO=f i:=λi a=>zD f aO a;have ln:∀i,i<w.sl.length->(f i).l.length=(w.sl.getD i aO).l.length:=λi a=>by
  show(if i=k then(⟨_,_⟩:aB) else w.sl.getD i aO).l.length=_;by_cases c:i=k
  .rw[wl c,c];show((⟨6,7⟩:aw)::((w.sl.getD k aO).l).drop 1).length=_;rw[vc,vv];omega
  .rw[wh c]
 have out:∀i,¬i<w.sl.length->w'.sl.getD i aO=w.sl.getD i aO:=λi a=>by
  rw[wg,wg,wz ab,wz ab]
 have E:(λi=>(w'.sl.getD i aO).l.length)=λi=>(w.sl.getD i aO).l.length:=funext λi=>by
  by_cases c:i<w.sl.length
  .rw[at' i c,ln i c]
  .rw[out i c]
 have J:(λi j=>((w'.sl.getD i aO).l).getD j bA)=λj=>if j=k then λe=>if e=0 then(⟨6,7⟩:aw) else w.w.s.s.g j e else w.w.s.s.g j:=funext λi=>by
  by_cases c:i<w.sl.length
  .rw[at' i c];by_cases x:i=k
   .subst x;rw[wl rfl];funext e;show((if i=i then(⟨(w.sl.getD i aO).b,(⟨6,7⟩:aw)::((w.sl.getD i aO).l).drop 1⟩:aB) else w.sl.getD i aO).l).getD e bA=_;rw[wl rfl];cases e with
    |zero=>rfl
    |succ e =>
     have key:∀l:List aw,(l.drop 1).getD e bA=l.getD (e+1) bA:=λl=>by cases l<;>rfl
     exact key _
   .rw[wh x];show(λj=>((if i=k then(⟨(w.sl.getD i aO).b,(⟨6,7⟩:aw)::((w.sl.getD i aO).l).drop 1⟩:aB) else w.sl.getD i aO).l).getD j bA)=_;rw[wh x];rfl
  .rw[out i c,wh (λq=>c (by rw[q];exact o))];rfl
 have es:w'.nz.s=(mW w.w 0 k 11).s.s:=by
  show mq.mk _ _ _ _=mq.mk _ _ _ _;rw[E,J,sn];rfl
 have u:(mW w.w 0 k 11).s.hn=w'.nz.hn:=by
  show(mW w.w 0 k 11).s.s.cap.sum (mW w.w 0 k 11).s.s.n=w'.nz.s.cap.sum w'.nz.s.n;rw[es]
 have r:(mW w.w 0 k 11).s.hz=w'.nz.hz:=by
  show(mW w.w 0 k 11).s.s.cap.z ((mW w.w 0 k 11).s.s.cap.sum (mW w.w 0 k 11).s.s.n) (mW w.w 0 k 11).s.s.n=w'.nz.s.cap.z (w'.nz.s.cap.sum w'.nz.s.n) w'.nz.s.n;rw[es]
 have h:B8 (mW w.w 0 k 11).s.hz w.F.he (mW w.w 0 k 11).s.hn w.he.length=true:=h;rw[u,r] at h;obtain⟨M,L⟩:=Xl w';unfold B8 at h;rw[wd,wm,M] at h;have mem:(⟨6,7⟩:aw)∈bH w'.sl:=by
  have C:w'.sl.getD k aO∈w'.sl:=zT (by rw[sn];exact o);refine j0 C ?_;rw[at' k o];show _∈(if k=k then(⟨(w.sl.getD k aO).b,(⟨6,7⟩:aw)::((w.sl.getD k aO).l).drop 1⟩:aB) else w.sl.getD k aO).l;rw[wl rfl];simp
 obtain⟨i,a,H⟩:=xU.1 mem;have q:=(qI _ _).1 h.2 i a;unfold B7 at q;rw[L i a,wg,wi a,xw,H,wd,wm,wm] at q;have D:w.he.getD i bA∈ord:=hI.part.mem_iff.1 (by
  simp only[wS];exact .inl (.inr (zT ab)))
 obtain⟨z,n,hz,hn,e⟩:=hI.iN.mem _ D;have B:(6:Int)=(nm z n).y:=by rw[←e];exact q.1
 have B:(6:Int)=(z:Int)+1:=B;grind
def qrB(hI:gQ w ord)(g:w.q.tb 5=[])(v:Nat)(x:v<13)(A)(j:A<6)(k)(e:k<w.sl.length):(mW w.w A k v).Ok/\la (mW w.w A k v)=Dx v:=by
 have I:=Ir.of hI.Mq;have a:=hI.Mp;obtain rfl|rfl|rfl|rfl|rfl|rfl|rfl|rfl|rfl|rfl|rfl|rfl|rfl:v=0∨v=1∨v=2∨v=3∨v=4∨v=5∨v=6∨v=7∨v=8∨v=9∨v=10∨v=11∨v=12:=by omega
 ·exact⟨⟨a.F,a.Y⟩,by
   rfl⟩
 ·refine⟨⟨⟨⟨by show 7<=1000;decide,λy=>?_,a.F.t.L⟩,a.F.cr,a.F.nc,a.F.he,a.F.nh,a.F.fa,a.F.nf⟩,a.Y⟩,by
   rfl⟩
  show(if y<6 then w.F.t.ln y else 0)<=10000;split
  .exact a.F.t.ln y
  .omega
 .refine⟨⟨a.F,λi=>?_⟩,Sj I.y (j8 j ?_)⟩
  .show(if i=A then { w.w.Y A with ct:=_ } else w.w.Y i:bC).np<=_;by_cases c:i=A
   .rw[wl c];exact a.Y A
   .rw[wh c];exact a.Y i
  .have f:=(qI _ _).1 I.f A j;have B:w.w.F.t.ln A<=10000:=a.F.t.ln A;show ux w.w.F.t (if A=A then { w.w.Y A with ct:=i64.wrap ((w.w.Y A).ct+1) } else w.w.Y A:bC) (ofNat (w.w.F.t.ln A))=false;rw[wl rfl];unfold u5 ux at f;rw[wd,wd,wm] at f;have r:(w.w.Y A).ct=ofNat (w.w.F.t.ln A):=xX f.2.1;unfold ux;rw[vN];right;rw[vN];left;refine vJ ?_;show ¬i64.wrap ((w.w.Y A).ct+1)=ofNat (w.w.F.t.ln A);rw[r,Qv bP bP];omega
 .refine⟨⟨a.F,λi=>?_⟩,Sj I.y (j8 (show 5<6 by decide) ?_)⟩
  .show(if i=5 then(⟨true,3,0,false,λ_=>⟨0,0,false,0⟩,0⟩:bC) else w.w.Y i:bC).np<=_;by_cases c:i=5
   .rw[wl c];decide
   .rw[wh c];exact a.Y i
  .show ux w.w.F.t (⟨true,3,0,false,λ_=>⟨0,0,false,0⟩,0⟩:bC) _=false;grind[ux]
 .refine⟨⟨a.F,λi=>?_⟩,Sj I.y (j8 (show 5<6 by decide) ?_)⟩
  .show(if i=5 then(⟨true,179,0,false,λ_=>⟨6,0,false,0⟩,1⟩:bC) else w.w.Y i:bC).np<=_;by_cases c:i=5
   .rw[wl c];decide
   .rw[wh c];exact a.Y i
  .have u:w.w.F.t.ln 5=0:=by show(w.q.tb 5).length=0;rw[g];rfl
   show ux w.w.F.t (⟨true,179,0,false,λ_=>⟨6,0,false,0⟩,1⟩:bC) _=false;unfold ux;rw[vN];right;rw[vN];right;rw[vN];right;show(true&&B9 w.w.F.t (⟨true,179,0,false,λ_=>⟨6,0,false,0⟩,1⟩:bC) 0)=false;rw[wQ];grind[B9]
 .exact⟨⟨a.F,a.Y⟩,qun I.y I.f λh=>by have:1<=0:=h.1.1;omega⟩
 .refine⟨⟨a.F,a.Y⟩,Sk I.y I.f I.n (j8 e ?_)⟩;show(_&&(decide (1<=(if k=k then 0 else w.w.s.s.l k))&&_))=false;rw[wl rfl];simp
 .refine⟨⟨a.F,a.Y⟩,Sk I.y I.f I.n (j8 e ?_)⟩;show(_&&(_&&decide ((if k=k then 4 else w.w.s.s.l k)<=3)))=false;rw[wl rfl];simp
 .refine⟨⟨a.F,a.Y⟩,Sk I.y I.f I.n (j8 e ?_)⟩;show((decide ((if k=k then 2 else w.w.s.b k)=0) || decide ((if k=k then 2 else w.w.s.b k)=1))&&_)=false;rw[wl rfl];simp
 ·exact⟨⟨a.F,a.Y⟩,qun I.y I.f λh=>by
   have h:(2:Int)=0∨(2:Int)=1:=h.2;omega⟩
 .exact quq hI k
 .exact qur hI g k e
 .refine⟨⟨a.F,a.Y⟩,?_⟩;show la (mW w.w A k 12)=0;unfold la;rw[wl (show(mW w.w A k 12).ny=6/\(mW w.w A k 12).F.t.h=6 from I.y),wl (show qL (u5 (mW w.w A k 12)) 6=true from I.f),wl (show(1<=(mW w.w A k 12).s.s.n/\(mW w.w A k 12).s.s.n<=16)/\((mW w.w A k 12).d=0∨(mW w.w A k 12).d=1) from I.n),wl,wl (show kJ (mW w.w A k 12).F (mJ (mW w.w A k 12).F)=0 from I.F),wl (show Fm (mW w.w A k 12)=true from I.h)];refine(qI _ _).2 λi o=>?_;have s:=(qI _ _).1 I.s i o;unfold u6 at s ⊢;simp only[wd,vI,wm] at s ⊢;refine⟨?_,s.2⟩;show(if i=k then 1-w.w.s.b i else w.w.s.b i)=0∨(if i=k then 1-w.w.s.b i else w.w.s.b i)=1;omega
end
def qrC{w:bJ}{ord:List aw}{P C}(h:gU w ord P C)(o:P<=4096)(hC:C<=500000)(e:w.q.tb 5=[]):MZ w :=
 ⟨h.H6 o hC,h.i.sn.1,h.i.Mp,h.i.Mq,λj g=>(h.i.sb _ (zT g)).1,λv a A r k f=>qrB h.i e v a A r k f⟩
def Cp.RZ(c:Cp)(i)(a:i<=c.aT):MZ (c.wk i):=by
 have aT:=c.pv;obtain⟨ord,h⟩:=c.A6 i ab;exact qrC h.j ab ab (c.Dy i)
def qus(c:Cp)(ok:c.Ok)(a b:Int)(e:0<=a/\a<256)(d:0<=b/\b<256):TO 5 [c.t,uI a,uI b] (.bool true) :=
 qum c c.wk (qrr c ok) c.RZ a b e d
section
variable {Hp:Type}
def qj7(a:Int):Bi au 5 [uI a] = uI a:=by simp[Bi,show ZQ au 5=false by kernel_rfl]
def qcu{ts:t7}{d:DataW Hp}(h:CT au 5 ts d):∃a:Int,ts=[uI a]/\0<=a/\a<256:=by
 obtain⟨a,rfl,rfl,w⟩:=h.B1 Tryz.underlying5;have w:=qrF w;grind
end
section
variable {Hp:Type}
def qhU:au.cellsOf 5=1:=qh
def qeY:au.cellsOf 71=1:=qh
def qpd:ZQ au 43=true:=qh
def nI5(l:t7):Nat:=match l with|[.int _ z]=>z.toNat|_=>0
def qx6{ts:t7}{d:DataW Hp}(h:CT au 71 ts d):∃(r:Nat->Nat) (n:Nat),(∀j,r j<256)/\n<=9223372036854775807/\∃x,ts=[x]/\mV x (gH (λj=>(r j:Int)) n none):=by
 rcases h.oE Tryz.underlying71 (by rw[qhU];omega) with⟨rfl,rfl⟩|⟨n,c,g,u,f,rfl,rfl,he,A,hn,s,o⟩
 .exact⟨λ_=>0,0,λ_=>(by decide:0<256),wN _,_,rfl,.eZ _ _ (.inl rfl)⟩
 .have key:∀j,j<n->∃a:Int,g j=[uI a]/\0<=a/\a<256:=λj e=>qcu (o j u[j] rx);refine⟨λj=>if j<n then nI5 (g j) else 0,n,λj=>?_,wM hn s,_,rfl,?_⟩
  .dsimp only;split
   .rename_i e;obtain⟨a,q,i,k⟩:=key j e;rw[q];show a.toNat<256;omega
   .omega
  .rw[qhU];refine .view (.inr rfl) λj e=>?_;obtain⟨a,q,i,k⟩:=key j e;show cH (g j) [uI ((if j<n then nI5 (g j) else 0:Nat):Int)];rw[wl e,q];show cH [uI a] [uI ((a.toNat:Nat):Int)];rw[Int.toNat_of_nonneg i];exact .refl _
def qut{ts:t7}{d:DataW Hp}(h:CT au 41 ts d):∃(C:Nat->Nat->Nat) (M:Nat->Nat) (n:Nat),(∀i k,C i k<256)/\(∀i,M i<=9223372036854775807)/\n<=9223372036854775807/\∃x,ts=[x]/\mV x (G7 (λi k=>(C i k:Int)) M n):=by
 rcases h.oE Tryz.underlying41 (by rw[qeY];omega) with⟨rfl,rfl⟩|⟨n,c,g,D,a,rfl,rfl,he,E,hn,o,f⟩
 .exact⟨λ_ _=>0,λ_=>0,0,λ_ _=>(by decide:0<256),λ_=>wN _,wN _,_,rfl,.eZ _ _ (.inl rfl)⟩
 ·have key:∀j,∃(p:(Nat->Nat)×Nat),(∀k,p.1 k<256)/\p.2<=9223372036854775807/\(j<n->cH (g j) [gH (λk=>(p.1 k:Int)) p.2 none]):=λj=>by
   by_cases e:j<n
   ·obtain⟨r,m,B,s,x,A,u⟩:=qx6 (f j D[j] rx);exact⟨(r,m),B,s,λ_=>by rw[A];exact .cons u .nil⟩
   ·exact⟨(λ_=>0,0),λ_=>(by decide:0<256),wN _,λh=>absurd h e⟩
  refine⟨λj=>(key j).choose.1,λj=>(key j).choose.2,n,λi k=>(key i).choose_spec.1 k,λi=>(key i).choose_spec.2.1,wM hn o,_,rfl,?_⟩;rw[qeY];exact .view (.inr rfl) λj e=>(key j).choose_spec.2.2 e
def qpe{ts:t7}{d:DataW Hp}(h:CT au 43 ts d):∃c:Cp,c.Ok/\mV (Bi au 43 ts) c.t:=by
 obtain⟨e,ds,rfl,rfl,s⟩:=CT.sL Tryz.underlying43 h;clear h;rename _=>h;change B0 au [5,41] e ds at h;obtain⟨r,_,x,_,rfl,rfl,j,h⟩:=h.cons;obtain⟨o,_,u,_,rfl,rfl,i,h⟩:=h.cons;obtain⟨rfl,rfl⟩:=h.nil;obtain⟨a,rfl,k,A⟩:=qcu j;obtain⟨C,M,n,hC,g,hn,y,rfl,f⟩:=qut i;refine⟨⟨a.toNat,n,M,C⟩,⟨by show a.toNat<256;omega,hn,g,hC⟩,?_⟩;rw[show Bi au 43 ([[uI a],[y]].flatten) = .agg [uI a,y] by simp[Bi,qpd]];show mV _ (.agg [uI ((a.toNat:Nat):Int),G7 _ M n]);rw[Int.toNat_of_nonneg k];exact .agg (.rg (.cons f .nil))
end
end Go.Ab
