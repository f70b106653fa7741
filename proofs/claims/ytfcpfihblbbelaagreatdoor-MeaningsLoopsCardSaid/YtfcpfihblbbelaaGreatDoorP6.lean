/- A part of the proof: nothing is assumed. -/
import Derived.Test.YtfcpfihblbbelaaGreatDoorP4
import Derived.Test.YtfcpfihblbbelaaGreatDoorP5
import Derived.Test.YtfcpfihblbbelaaGreatDoorP3
import Derived.Test.YtfcpfihblbbelaaGreatDoorP2
set_option linter.all false
namespace Go.Ab
open IntKind(i64 u8)
open Int(ofNat)
open Go.Proofs
set_option maxHeartbeats 1000000
set_option maxRecDepth 100000
structure mL(w:bD)(G:Nat->ao)(n:Nat):Prop where
 ok:∀j,(G j).Ok
 GY:n<=16
 v:∀i,i<n->c9 (G i)=true
 le:∀i,i<n->dA G i+(G i).nN<=w.sl.length
 e:∀i,i<n->iY (G i) (λe=>ofNat (bl w (dA G i+e)).l.length) (G i).nN=0
 row:rE G n=0
 lE:mX G n=ofNat w.sl.length
structure Ar(w:bD):Prop where
 N:w.sl.length<=16
 l:∀j,j<w.sl.length->1<=(bl w j).l.length/\(bl w j).l.length<=3
 pe:∀e,(w.q.Y e).pe.length<=100000
 tb:∀e,(w.q.tb e).length<=100000
 cr:w.cr.length<=500000
 he:w.he.length<=1000000
 fa:w.fa.length<=1000000
def L7(G:Nat->ao)(n j:Nat):Bool:=decide (∃i,i<n/\((G i).k=4∨(G i).k=5)/\dA G i=j)
def Xs(G:Nat->ao):∀d i,dA G i<=dA G (i+d)
 |0,i=>wc _
 |d+1,i=>wN (Xs G d i) (xH _ _)
def L8(G:Nat->ao){i j:Nat}(h:i<j):dA G i+(G i).nN<=dA G j:=by
 have:=Xs G (j-(i+1)) (i+1);rw[show i+1+(j-(i+1))=j by omega] at this;exact this
section
variable {w:bD} {G:Nat->ao} {n:Nat}
def mL.at(h:mL w G n){i:Nat}(d:i<n):pQ w (L7 G n) (G i) (dA G i) where
 ok:=h.ok i
 v:=h.v i d
 le:=h.le i d
 e:=h.e i d
 two:=λf=>by
  refine⟨wq ⟨i,d,f,rfl⟩,?_⟩;unfold L7;rw[decide_eq_false_iff_not];rintro⟨a,h1,g,k⟩;have n2:=ao.oV (h.v i d) f;have j:=ao.oV (h.v a h1) g;rcases Nat.lt_trichotomy i a with c|c|c
  .have:=L8 G c;omega
  .subst c;omega
  .have:=L8 G c;omega
 one:=λf e he=>by
  unfold L7;rw[decide_eq_false_iff_not];rintro⟨a,h1,g,k⟩;have j:=ao.oV (h.v a h1) g;rcases Nat.lt_trichotomy i a with c|c|c
  .have:=L8 G c;omega
  .subst c;exact f g
  .have:=L8 G c;omega
def mL.crl(h:mL w G n)(hw:Ar w):∀i,i<=n->(ia w G i).length<=w.cr.length+256*i:=by
 intro i
 induction i with
 |zero=>intro _;exact wc _
 |succ i d =>
  intro s;have d:=d ae;have f:=h.at (i:=i) ae;obtain⟨n4,_⟩:=ao.n4 f.ok;have k:=f.le;have u:=KD (G i) (w.sl.drop (dA G i)) (by rw[vo];omega);have g:∀x∈fJ (G i) (w.sl.drop (dA G i)),x.l.length<=4:=λx hx=>by
   obtain⟨e,he,rfl⟩:=ua.1 hx;have:=yS w (G i) (dA G i) e k ae;rw[wh,wj he] at this;rw[show(fJ (G i) (w.sl.drop (dA G i)))[e]=_ from this];show(bl w (dA G i+e)).l.length<=4;have:=(hw.l (dA G i+e) ae).2;omega
  show(tF (G i) (fJ (G i) (w.sl.drop (dA G i))) (ia w G i)).length<=_;unfold tF;split
  .rw[WU,←jz];have:=KB (Ap ((fJ (G i) (w.sl.drop (dA G i))).drop (G i).a.toNat) (DH (G i).f)) ((fJ (G i) (w.sl.drop (dA G i))).take (G i).a.toNat) (ia w G i) 64 (λc y j=>WY (g y (xX j)) (λr hr=>g r (xZ hr)) (by rw[vo];omega)) be _ (wc _);have o:((fJ (G i) (w.sl.drop (dA G i))).take (G i).a.toNat).length<=4:=by rw[vB];omega
   omega
  .omega
end
def Re:Wa:=(List.range 17).map (17+·)
def qva:∀j,j<16->QU Re (18+j)=some (1+j):=by decide
def L9(l:Nat->List aF)(j:Nat):JO:=[.own (1+j) 1 0 (l j).length none]
def DN(w:bD)(G:Nat->ao)(n:Nat):qa:=Hf (di n (L9 (cP w G))) (dq (cP w G) n) []
def qsa(w:bD)(G:Nat->ao)(n:Nat)(hw:Ar w)(fit:mL w G n):aR aw G17 82 [.agg (w.cc none),aU G n none] [] (.aK [.own 0 n 0 n none,aM (ia w G n),iI 0]) (DN w G n):=by
 have run:=λ{p l U h l1 o h1 e} (k:cD 82 p l U h l1=some (e,o,h1))=>cf [] k;have hn:=fit.GY;have P:=hw.N
 let N:=w.sl.length
 let A:=L7 G n
 let g:=cP w G
 obtain⟨I,S⟩:=qE aw G17 62;obtain⟨Rf,R⟩:=qE aw G17 29;obtain⟨E,Q⟩:=YM aw G17 20;have u:TO 62 [aU G n none] (iI 0):=by
  have:=qnU G n none ae fit.ok;rw[fit.row] at this;exact this
 have C:TO 29 [aU G n none] (iI (mX G n)):=Kw G n none ae fit.ok;have B:=Pw A w P (λj s=>⟨(hw.l j s).1,by have:=(hw.l j s).2;omega⟩) (λe=>by have:=hw.pe e;omega) (λe=>by have:=hw.tb e;omega) (by have:=hw.cr;omega) hw.he hw.fa;have q0:=run (pr0 w (aU G n none));have q1:=eD (qr qp (qq S)) [] ((pr1 I w G n).trans (qk (qu S u) rfl));have q2:=eD (qr qp (qq R)) [] ((pr2 Rf w G n (mX G n)).trans (qk (qu R C) (qF (by rw[fit.lE];simp) rfl)));have Z:=eD (qC qp (zg Q)) [] ((pr3 E w G n N (bW N N (iv A w)) (XA A w N) (Kz 6 (YF w)) (di 6 (mr w)) (RS w 6) (aM w.cr) (aX w.he) (aX w.fa) w.d).trans (qk (zM Q B) rfl))
 let r:qa:=mq (bW N N (iv A w)) (XA A w N) (Kz 6 (YF w)) (di 6 (mr w)) (RS w 6) []
 let J:T:=.ah [.own 0 N 0 N none,.own 17 6 0 6 none,.own 18 6 0 6 none,aM w.cr,aX w.he,aX w.fa,uI w.d]
 let o:T:=aU G n none
 have Y:=run (pr4 o (.own 0 N 0 N none) (.own 17 6 0 6 none) (.own 18 6 0 6 none) (aX w.he) (aX w.fa) (uI w.d) w.cr r);have X:=run (pr5 o J (aM w.cr) r);have q6:=run (pr6 o J (aM w.cr) (iI 0) r)
 let V:Nat->JO:=λi=>[o,dD N,aM (ia w G i),iI (ofNat (dA G i)),.own 17 i 0 i none,iI (ofNat i)]
 let H:Nat->qa:=λi=>Hq (gM N (bS w) (gA w A (dA G i))) (XP w A (dA G i)) (di i (eR g)) (dq g i) []
 have q7:=Pz.post (run (pr7 o J (aM w.cr) (iI 0) .ag r)) (v2:=V 0) (h2:=H 0) λnt=>by
  refine .trans (h1:=r) (fA:=[o,dD N,aM w.cr,iI 0,.ag,iI 0]) (am.fgR (.Ue (.cons (.inr ⟨_,_,rfl,rfl,rfl,λi a b h1 f=>?_⟩) (.Ue (.Ue (.Ue (.Ue .nil))))))) ?_
  .match i,h1,f with
   |0,h1,f=>obtain rfl:=wa h1;obtain rfl:=wa f;exact .inl rfl
   |1,_,f=>exact .inr (wa f).symm
   |2,_,f=>exact .inr (wa f).symm
   |3,_,f=>exact .inr (wa f).symm
   |4,_,f=>exact .inr (wa f).symm
   |5,_,f=>exact .inr (wa f).symm
   |6,_,f=>exact .inr (wa f).symm
   |i+7,_,f=>cases f
  let aw:qa:=(Hq (gM N (bS w) (gA w A 0)) (XP w A 0) (di 0 (eR g)) (dq g 0) []).take 17
  refine .trans (h1:=aw) (fA:=[o,dD N,aM w.cr,iI 0,.ag,iI 0]) ?_ ?_
  .refine am.DM (n:=17) (p:=aw) (z:=r.drop 17) rfl (wR _) rfl (λx hx=>?_) (λb O=>?_)
   .simp only[wK,xa,or_false] at hx;rcases hx with h|h|h|h|h|h
    all_goals (rw[h];rfl)
   .have hs:fg 17 (gM N (bS w) (gA w A 0)):=KC ae;revert b;refine vI.2 ⟨hs,?_⟩
    repeat (first|exact List.forall_mem_nil _|refine vI.2 ⟨Hc,?_⟩)
  .refine am.gh (di 0 (eR g)::(List.range 16).map (dq g 0)) (λb O=>?_) (.Ue (.Ue (.Ue (.Ue (.cons (.inl (.own (k:=17) (b:=di 0 (eR g)) (wc _) rfl rfl)) (.Ue .nil)))))) (cT.refl _);rcases wK.1 O with h|h
   .rw[h];exact⟨rfl,rfl⟩
   .obtain⟨k,_,rfl⟩:=vb.1 h;exact⟨by show(bif k.blt 0 then(g k).length else 0)=0;rw[QP (wR _)];rfl,rfl⟩
 have round:∀i,i<n->Pq 82 [] [0,0,2,1,2,2,2,2,2,2,2] [1,2,8,9,10,11] (V i) (H i) .normal [1,2,8,9,10,11] (V (i+1)) (H (i+1)):=λi M =>
  qqw (A:=A) P hw.l i n M hn (fit.at M) (by have:=fit.crl hw i ae;have:=hw.cr;omega)
 have last:=Pz.post (run ((prx G n n (dD N) (aM (ia w G n)) (iI (ofNat (dA G n))) (.own 17 n 0 n none) (H n)).trans (qF (CM (wc _)) rfl))) (v2:=[aM (ia w G n),.own 0 n 0 n none]) (h2:=DN w G n) λnt=>by
  refine am.bZ Re rfl rfl rfl (.cons ⟨rfl,rfl,rfl,λh=>h,λj s=>?_⟩ ?_ rfl)
  .have s:j<n:=s;show [T.own (1+j) 1 0 (g j).length none]=[qJ Re (H n) (.own (18+j) 1 0 (g j).length none)];simp only[qJ,qva j ae]
  .repeat (first|exact .nil|refine .cons ⟨rfl,rfl,rfl,λh=>h,λ_ _=>rfl⟩ ?_ rfl)
 have lp:Pq 82 [] [0,2,1,2,2,2,2,2,2,2] [1,2,8,9,10,11] (V 0) (H 0) (.exit 0) [8,10] [aM (ia w G n),.own 0 n 0 n none] (DN w G n):=Pz.count qh V H (n:=n) au round (lk last);have D:=run (quJ (ia w G n) n (DN w G n));exact Pz.fI (A:=az) Qn Tryz.func82 qh qh (l:=[0,1]) rfl
  (av q0 (av q1 (av q2 (av Z (av Y (av X (av q6
   (av (av q7 (fi 0 lp)) D)))))))) rfl
def ro0(w:bD)(a:T):cD 45 [1] [0,1] [.agg (w.cc none),a] [] [1,2,4] =
( zN [a,bz w,.ah [.ag,.ag,.ag,.ag,.ag,.ag,uI 0]] []):=qh
def ro1(p:JO->qa->T->qa->Prop)(w:bD)(G:Nat->ao)(n:Nat)(c:List aV)(H:qa):cK (qv.cE 82 (jo p λ_ _=>some (.aK [.own 0 n 0 n none,aM c,iI 0],H))) 45 [1,2] [1,2,4] [aU G n none,bz w,.ah bL] [] [1,2,4,6,7,8] =
( gD (qM (p [.agg (w.cc
 none),aU G n
 none] [] (.aK [.own 0 n 0 n
 none,aM c,iI 0]) H))<|zN [aU G n
 none,bz w,.ah [.ag,.ag,.ag,.ag,.ag,.ag,uI 0],.own 0 n 0 n
 none,aM c,iI 0] H):=qh
def qvb(a b c d e:T)(H:qa):cD 45 [1,2,2] [1,2,4,6,7,8] [a,b,c,d,e,iI 0] H [1,2,4,6,7] =
( zN [a,b,c,d,e] H):=qh
def ro6(w:bD)(a c d e:T)(H:qa):cD 45 [1,2,2,2,2,2] [1,2,4,6,9] [a,bz w,c,d,e] H [1,2,4,6,9,10] =
( zN [a,bz w,c,d,e,iI (i64.wrap w.d)] H):=qh
def ro7(a b c d e f:T)(H:qa):cD 45 [1,2,2,2,2,2,2] [1,2,4,6,9,10] [a,b,c,d,e,f] H [1,2,4,6,9,10,11] =
( zN [a,b,c,d,e,f,.ah [iI (-13:Int),iI 179]] H):=qh
def ro8(a b c d e f g:T)(H:qa):cD 45 [1,1,2,2,2,2,2,2,2] [1,2,4,6,9,10,11] [a,b,c,d,e,f,g] H [1,2,4,6,9,10,11,12] =
( zN [a,b,c,d,e,f,g,iI 1] H):=qh
def roc(a b c d e f g:T)(y:Int)(H:qa):cD 45 [1,0,0,2,1,2,2,2,2,2,2,2] [1,2,4,6,9,10,11,12] [a,b,c,d,e,f,g,iI y] H [1,2,4,6,9,10,11,12] =
( bif decide (y<=6) then zN [a,b,c,d,e,f,g,iI y] H else
 zX 0 [a,b,c,d,e,f,g,iI y] H):=qh
def qvc(a b c d e f g:T)(y:Int)(H:qa):cD 45 [1,0,0,2,1,2,2,2,2,2,2,2] [1,2,4,6,9,10,11,12] [a,b,c,d,e,f,g,iI y] H [2,4,6,9] =
( bif decide (y<=6) then zN [b,c,d,e] H else
 zX 0 [b,c,d,e] H):=qh
def qvd(a b c d e f g y:T)(H:qa):cD 45 [1,0,1,2,0,0,2,1,2,2,2,2,2,2,2] [1,2,4,6,9,10,11,12] [a,b,c,d,e,f,g,y] H [1,2,4,6,9,10,11,12,13] =
( zN [a,b,c,d,e,f,g,y,iI 0] H):=qh
def qve(a b c d e f g y u:T)(H:qa):cD 45 [1,1,2,0,1,2,0,0,2,1,2,2,2,2,2,2,2] [1,2,4,6,9,10,11,12,13] [a,b,c,d,e,f,g,y,u] H [1,2,4,6,9,10,11,12,13,14] =
( zN [a,b,c,d,e,f,g,y,u,iI 0] H):=qh
def qvf(G:Nat->ao)(b c d e f g y u:T)(n i:Nat)(H:qa):cD 45 [1,0,0,2,1,2,0,1,2,0,0,2,1,2,2,2,2,2,2,2] [1,2,4,6,9,10,11,12,13,14] [aU G n none,b,c,d,e,f,g,y,u,iI (ofNat i)] H [1,2,4,6,9,10,11,12,13,14] =
( bif decide (ofNat i<ofNat n) then zN [aU G n
 none,b,c,d,e,f,g,y,u,iI (.ofNat i)] H else
 zX 2 [aU G n
 none,b,c,d,e,f,g,y,u,iI (.ofNat i)] H):=qh
def qsb(G:Nat->ao)(b c d e f g y u:T)(n i:Nat)(H:qa):cD 45 [1,0,0,2,1,2,0,1,2,0,0,2,1,2,2,2,2,2,2,2] [1,2,4,6,9,10,11,12,13,14] [aU G n none,b,c,d,e,f,g,y,u,iI (ofNat i)] H [1,2,4,6,9,10,11,12,13] =
( bif decide (ofNat i<ofNat n) then zN [aU G n
 none,b,c,d,e,f,g,y,u] H else
 zX 2 [aU G n
 none,b,c,d,e,f,g,y,u] H):=qh
def qvg(G:Nat->ao)(b c d e f g:T)(n i:Nat)(y u:Int)(H:qa):cD 45 [1,2,0,0,2,1,2,0,1,2,0,0,2,1,2,2,2,2,2,2,2] [1,2,4,6,9,10,11,12,13,14] [aU G n none,b,c,d,e,f,g,iI y,iI u,iI (ofNat i)] H [1,2,4,6,9,10,11,12,13,14] =
( gD (decide (0<=ofNat i)&&decide (ofNat i<ofNat n))<|bif decide (i64.wrap (G i).y=y) then zN [aU G n
 none,b,c,d,e,f,g,iI y,iI 1,iI (.ofNat i)] H else
 zN [aU G n
 none,b,c,d,e,f,g,iI y,iI u,iI (.ofNat i)] H):=qh
def qvh(a b c d e f g y u:T)(i:Nat)(H:qa):cD 45 [2,2,0,0,2,1,2,0,1,2,0,0,2,1,2,2,2,2,2,2,2] [1,2,4,6,9,10,11,12,13,14] [a,b,c,d,e,f,g,y,u,iI (ofNat i)] H [1,2,4,6,9,10,11,12,13,14] =
( zN [a,b,c,d,e,f,g,y,u,iI (i64.wrap (ofNat i+1))] H):=qh
def qsc(a b c d e f g y:T)(u:Int)(H:qa):cD 45 [1,2,2,0,1,2,0,0,2,1,2,2,2,2,2,2,2] [1,2,4,6,9,10,11,12,13] [a,b,c,d,e,f,g,y,iI u] H [1,2,4,6,9,10,11,12] =
( bif decide (u=0) then zX 1 [a,b,c,d,e,f,g,y] H else
 zN [a,b,c,d,e,f,g,y] H):=qh
def qvi(a b c d e f g:T)(K:Nat)(H:qa):cD 45 [2,2,0,0,2,1,2,2,2,2,2,2,2] [1,2,4,6,9,10,11,12] [a,b,c,d,e,f,g,yK K] H [1,2,4,6,9,10,11,12] =
( zN [a,b,c,d,e,f,g,iI (i64.wrap (ofNat K+1+(1:Int)))] H):=qh
def Hm(w:bD)(a y t:T):aq:=.mk 0 7 1 (λe=>[bif e==0 then a else .ag,bif e==0 then y else .ag,bif e==0 then t else .ag,bif e==0 then aM w.cr else .ag,bif e==0 then aX w.he else .ag,bif e==0 then aX w.fa else .ag,uI (bif e==0 then w.d else 0)]) false false none
def ro4(p:JO->qa->T->qa->Prop)(w:bD)(a c d:T)(G:Nat->ao)(n N:Nat)(e:aq)(f:Nat->aq)(b:aq)(X:Nat->aq)(y t:aq)(R:Nat->aq):cK (qv.cE 20 (jo p λ_ _=>some (.agg [.own 17 N 0 N none,.own 34 6 0 6 none,.own 35 6 0 6 none,aM w.cr,aX w.he,aX w.fa,uI w.d],Hf e f (mq b X y t R [])))) 45 [1,2,2,2] [1,2,4,6,7] [aU G n none,bz w,a,c,d] (Hf e f []) [1,2,4,6,7,9] =
 (bif qM (p [.agg (w.cc none)] (Hf e f []) (.agg [.own 17 N 0 N none,.own 34 6 0 6 none,.own 35 6 0 6 none,aM w.cr,aX w.he,aX w.fa,uI w.d]) (Hf e f (mq b X y t R []))) then some (.normal,[aU G n none,bz w,a,c,d,.ptr 42 0 0 0],Hf e f (mq b X y t R [Hm w (.own 17 N 0 N none) (.own 34 6 0 6 none) (.own 35 6 0 6 none)])) else none):=qh
def ro5(g:List aF)(cr cc:List aV)(he fa:List aL)(f:Int)(Y:Nat->b6)(ln v:Nat->Nat)(L:Nat->Nat->dO)(rest:qa)(a b c d:T):cD 45 [1,2,2,2,2] [1,2,4,6,7,9] [a,b,c,d,aM cc,p0] (HW ⟨.undef,aM cr,aX he,aX fa,f⟩ Y ln v L rest) [1,2,4,6,9] =
 some (.normal,[a,b,c,d,p0],.mk 0 7 1 (λe=>[bif e==0 then .undef else .undef,bif e==0 then .own 1 0 0 6 none else .own 1 0 0 6 none,bif e==0 then .own 2 0 0 6 none else .own 2 0 0 6 none,bif e==0 then aM cc else aM cr,bif e==0 then aX he else aX he,bif e==0 then aX fa else aX fa,uI (bif e==0 then f else f)]) false false none::yB Y::tB ln v::rB ln v L 0::rB ln v L 1::rB ln v L 2::rB ln v L 3::rB ln v L 4::rB ln v L 5::rest):=qh
def qvj(x:Wx)(Y:Nat->b6)(ln v:Nat->Nat)(L:Nat->Nat->dO)(rest:qa)(K:Nat)(a b c d f g:T):cD 45 [1,2,2,2,0,1,2,0,0,2,1,2,2,2,2,2,2,2] [1,2,4,6,9,10,11,12] [a,b,c,d,p0,f,g,yK K] (HW x Y ln v L rest) [1,2,4,6,9,10,11,12,15] =
 (bif decide (0<=yD K)&&decide (yD K<6) then some (.normal,[a,b,c,d,p0,f,g,yK K,yP (ot K)],HW x Y ln v L rest) else none):=qh
def qvk(x:Wx)(Y:Nat->b6)(ln v:Nat->Nat)(L:Nat->Nat->dO)(rest:qa)(K:Nat)(a b c d y:T)(r:Int):cD 45 [1,1,2,2,2,2,0,1,2,0,0,2,1,2,2,2,2,2,2,2] [1,2,4,6,9,10,11,12,15] [a,b,c,d,p0,iI r,.ah [iI (-13),iI 179],y,yP K] (HW x Y ln v L rest) [1,2,4,6,9,10,11,12,15,66] =
 (bif K.blt 6 then bif (Y K).i then some (.normal,[a,b,c,d,p0,iI r,.ah [iI (-13),iI 179],y,yP K,.bool false],HW x Y ln v L rest) else some (.normal,[a,b,c,d,p0,iI r,.ah [iI (-13),iI 179],y,yP K,.bool true],HW x Y ln v L rest) else none):=qh
def qvl(x:Wx)(Y:Nat->b6)(ln v:Nat->Nat)(L:Nat->Nat->dO)(rest:qa)(K:Nat)(a b c d y:T)(r:Int):cD 45 [1,3,2,1,2,2,2,2,0,1,2,0,0,2,1,2,2,2,2,2,2,2] [1,2,4,6,9,10,11,12,15] [a,b,c,d,p0,iI r,.ah [iI (-13),iI 179],y,yP K] (HW x Y ln v L rest) [1,2,4,6,9,10,11,12,15] =
 (bif K.blt 6&&true&&true&&true then some (.normal,[a,b,c,d,p0,iI r,.ah [iI (-13),iI 179],y,yP K],sM x (yG Y K [.bool true,iI (Y K).pl,iI (Y K).ct,.bool (Y K).w,cH (Y K).pe (Y K).np none]) (tB ln v) ln v L rest) else none):=qh
def qvm(x:Wx)(Y:Nat->b6)(ln v:Nat->Nat)(L:Nat->Nat->dO)(rest:qa)(K:Nat)(a b c d y:T)(r:Int):cD 45 [1,2,3,2,1,2,2,2,2,0,1,2,0,0,2,1,2,2,2,2,2,2,2] [1,2,4,6,9,10,11,12,15] [a,b,c,d,p0,iI r,.ah [iI (-13),iI 179],y,yP K] (HW x Y ln v L rest) [1,2,4,6,9,10,11,12,15] =
 (bif K.blt 6&&true&&true&&true then some (.normal,[a,b,c,d,p0,iI r,.ah [iI (-13),iI 179],y,yP K],sM x (yG Y K [.bool (Y K).i,iI (Y K).pl,iI (Y K).ct,.bool true,cH (Y K).pe (Y K).np none]) (tB ln v) ln v L rest) else none):=qh
def qsd(x:Wx)(Y:Nat->b6)(ln v:Nat->Nat)(L:Nat->Nat->dO)(rest:qa)(K:Nat)(a b c d y:T):cD 45 [2,2,3,2,1,2,2,2,2,0,1,2,0,0,2,1,2,2,2,2,2,2,2] [1,2,4,6,9,10,11,12,15] [a,b,c,d,p0,iI 1,.ah [iI (-13),iI 179],y,yP K] (HW x Y ln v L rest) [1,2,4,6,9,10,11,12,15] =
 (bif K.blt 6&&true&&true&&true then some (.normal,[a,b,c,d,p0,iI 1,.ah [iI (-13),iI 179],y,yP K],sM x (yG Y K [.bool (Y K).i,iI (-13),iI (Y K).ct,.bool (Y K).w,cH (Y K).pe (Y K).np none]) (tB ln v) ln v L rest) else none):=qh
def qse(x:Wx)(Y:Nat->b6)(ln v:Nat->Nat)(L:Nat->Nat->dO)(rest:qa)(K:Nat)(a b c d y:T):cD 45 [1,1,2,2,2,2,2,0,1,2,0,0,2,1,2,2,2,2,2,2,2] [1,2,4,6,9,10,11,12,15] [a,b,c,d,p0,iI 1,.ah [iI (-13),iI 179],y,yP K] (HW x Y ln v L rest) [1,2,4,6,9,10,11,12,15,88] =
 (bif K.blt 6 then bif !decide ((Y K).pl=(-13)) then some (.normal,[a,b,c,d,p0,iI 1,.ah [iI (-13),iI 179],y,yP K,.bool true],HW x Y ln v L rest) else some (.normal,[a,b,c,d,p0,iI 1,.ah [iI (-13),iI 179],y,yP K,.bool false],HW x Y ln v L rest) else none):=qh
def qsf(x:Wx)(Y:Nat->b6)(ln v:Nat->Nat)(L:Nat->Nat->dO)(rest:qa)(K:Nat)(a b c d y:T):cD 45 [2,2,2,2,2,2,2,0,1,2,0,0,2,1,2,2,2,2,2,2,2] [1,2,4,6,9,10,11,12,15] [a,b,c,d,p0,iI 1,.ah [iI (-13),iI 179],y,yP K] (HW x Y ln v L rest) [1,2,4,6,9,10,11,12] =
 (bif K.blt 6&&true&&true&&true then some (.normal,[a,b,c,d,p0,iI 1,.ah [iI (-13),iI 179],y],sM x (yG Y K [.bool (Y K).i,iI 179,iI (Y K).ct,.bool (Y K).w,cH (Y K).pe (Y K).np none]) (tB ln v) ln v L rest) else none):=qh
def qsg(q:JO->qa->T->qa->Prop)(H d:qa)(G:Nat->ao)(n a:Nat)(K:Nat)(b c e:T):cK (qv.cE 83 (jo q λ_ _=>some (.aK [],d))) 45 [3,2,1,2,2,2,2,2,0,1,2,0,0,2,1,2,2,2,2,2,2,2] [1,2,4,6,9,10,11,12,15] [aU G n none,b,c,oL a n,p0,iI 1,.ah [iI (-13),iI 179],yK K,e] H [1,2,4,6,9,10,11,12,15] =
 (bif qM (q [p0,aU G n none,oL a n,yK K,iI 0,iI 0] H (.aK []) d) then some (.normal,[aU G n none,b,c,oL a n,p0,iI 1,.ah [iI (-13),iI 179],yK K,e],d) else none):=qh
def qsh(q:JO->qa->T->qa->Prop)(H d:qa)(G:Nat->ao)(n a:Nat)(K:Nat)(b c e:T):cK (qv.cE 83 (jo q λ_ _=>some (.aK [],d))) 45 [1,2,2,2,2,2,2,0,1,2,0,0,2,1,2,2,2,2,2,2,2] [1,2,4,6,9,10,11,12,15] [aU G n none,b,c,oL a n,p0,iI 1,.ah [iI (-13),iI 179],yK K,e] H [1,2,4,6,9,10,11,12,15] =
 (bif qM (q [p0,aU G n none,oL a n,yK K,iI 1,iI 1] H (.aK []) d) then some (.normal,[aU G n none,b,c,oL a n,p0,iI 1,.ah [iI (-13),iI 179],yK K,e],d) else none):=qh
def qsi(x:Wx)(Y:Nat->b6)(ln v:Nat->Nat)(L:Nat->Nat->dO)(rest:qa)(K:Nat)(a b c d y:T):cD 45 [2,2,3,2,1,2,2,2,2,0,1,2,0,0,2,1,2,2,2,2,2,2,2] [1,2,4,6,9,10,11,12,15] [a,b,c,d,p0,iI 0,.ah [iI (-13),iI 179],y,yP K] (HW x Y ln v L rest) [1,2,4,6,9,10,11,12,15] =
 (bif K.blt 6&&true&&true&&true then some (.normal,[a,b,c,d,p0,iI 0,.ah [iI (-13),iI 179],y,yP K],sM x (yG Y K [.bool (Y K).i,iI 179,iI (Y K).ct,.bool (Y K).w,cH (Y K).pe (Y K).np none]) (tB ln v) ln v L rest) else none):=qh
def qsj(x:Wx)(Y:Nat->b6)(ln v:Nat->Nat)(L:Nat->Nat->dO)(rest:qa)(K:Nat)(a b c d y:T):cD 45 [1,1,2,2,2,2,2,0,1,2,0,0,2,1,2,2,2,2,2,2,2] [1,2,4,6,9,10,11,12,15] [a,b,c,d,p0,iI 0,.ah [iI (-13),iI 179],y,yP K] (HW x Y ln v L rest) [1,2,4,6,9,10,11,12,15,88] =
 (bif K.blt 6 then bif !decide ((Y K).pl=179) then some (.normal,[a,b,c,d,p0,iI 0,.ah [iI (-13),iI 179],y,yP K,.bool true],HW x Y ln v L rest) else some (.normal,[a,b,c,d,p0,iI 0,.ah [iI (-13),iI 179],y,yP K,.bool false],HW x Y ln v L rest) else none):=qh
def qsk(x:Wx)(Y:Nat->b6)(ln v:Nat->Nat)(L:Nat->Nat->dO)(rest:qa)(K:Nat)(a b c d y:T):cD 45 [2,2,2,2,2,2,2,0,1,2,0,0,2,1,2,2,2,2,2,2,2] [1,2,4,6,9,10,11,12,15] [a,b,c,d,p0,iI 0,.ah [iI (-13),iI 179],y,yP K] (HW x Y ln v L rest) [1,2,4,6,9,10,11,12] =
 (bif K.blt 6&&true&&true&&true then some (.normal,[a,b,c,d,p0,iI 0,.ah [iI (-13),iI 179],y],sM x (yG Y K [.bool (Y K).i,iI (-13),iI (Y K).ct,.bool (Y K).w,cH (Y K).pe (Y K).np none]) (tB ln v) ln v L rest) else none):=qh
def qsl(q:JO->qa->T->qa->Prop)(H d:qa)(G:Nat->ao)(n a:Nat)(K:Nat)(b c e:T):cK (qv.cE 83 (jo q λ_ _=>some (.aK [],d))) 45 [3,2,1,2,2,2,2,2,0,1,2,0,0,2,1,2,2,2,2,2,2,2] [1,2,4,6,9,10,11,12,15] [aU G n none,b,c,oL a n,p0,iI 0,.ah [iI (-13),iI 179],yK K,e] H [1,2,4,6,9,10,11,12,15] =
 (bif qM (q [p0,aU G n none,oL a n,yK K,iI 1,iI 0] H (.aK []) d) then some (.normal,[aU G n none,b,c,oL a n,p0,iI 0,.ah [iI (-13),iI 179],yK K,e],d) else none):=qh
def qsm(q:JO->qa->T->qa->Prop)(H d:qa)(G:Nat->ao)(n a:Nat)(K:Nat)(b c e:T):cK (qv.cE 83 (jo q λ_ _=>some (.aK [],d))) 45 [1,2,2,2,2,2,2,0,1,2,0,0,2,1,2,2,2,2,2,2,2] [1,2,4,6,9,10,11,12,15] [aU G n none,b,c,oL a n,p0,iI 0,.ah [iI (-13),iI 179],yK K,e] H [1,2,4,6,9,10,11,12,15] =
 (bif qM (q [p0,aU G n none,oL a n,yK K,iI 0,iI 1] H (.aK []) d) then some (.normal,[aU G n none,b,c,oL a n,p0,iI 0,.ah [iI (-13),iI 179],yK K,e],d) else none):=qh
def qsn(a b c d e f g h i j:T)(H:qa):cD 45 [4,2,1,2,2,2,2,0,1,2,0,0,2,1,2,2,2,2,2,2,2] [1,2,4,6,9,10,11,12,15,66] [a,b,c,d,e,f,g,h,i,j] H [1,2,4,6,9,10,11,12,15]=some (.normal,[a,b,c,d,e,f,g,h,i],H):=qh
def qso(a b c d e f g h i j:T)(H:qa):cD 45 [4,2,1,2,2,2,2,2,0,1,2,0,0,2,1,2,2,2,2,2,2,2] [1,2,4,6,9,10,11,12,15,88] [a,b,c,d,e,f,g,h,i,j] H [1,2,4,6,9,10,11,12,15]=some (.normal,[a,b,c,d,e,f,g,h,i],H):=qh
def rk(a:T)(g1 g2:Nat->JO)(cr:List aV)(he fa:List aL)(d:Int):aq:=.mk 0 7 1 (λ_=>[a,.view 5 6 g1 none,.view 1 6 g2 none,aM cr,aX he,aX fa,uI d]) false false none
def DO(g f:T)(g1 g2:Nat->JO)(cr:List aV)(h2 he fa:List aL)(a d:Int):aq:=.mk 0 7 1 (λe=>[bif e==0 then g else f,bif e==0 then .view 5 6 g1 none else .view 5 6 g1 none,bif e==0 then .view 1 6 g2 none else .view 1 6 g2 none,bif e==0 then aM cr else aM cr,bif e==0 then aX h2 else aX he,bif e==0 then aX fa else aX fa,uI (bif e==0 then a else d)]) false false none
def qvn(e:T)(f:e = .undef)(g1 g2:Nat->JO)(cr:List aV)(he fa:List aL)(d:Int)(a b c:T)(H:qa):cD 45 [1,2,2,2,2,2,2,2,2] [2,4,6,9] [a,b,c,p0] (rk e g1 g2 cr he fa d::H) [2,4,6,9]=some (.normal,[a,b,c,p0],DO .ag e g1 g2 cr he he fa d d::H):=by
 subst f;kernel_rfl
def qvo(a b c d:T)(H:qa):cD 45 [1,1,2,2,2,2,2,2,2,2,2] [2,4,6,9] [a,b,c,d] H [2,4,6,9,16]=some (.normal,[a,b,c,d,iI 0],H):=qh
def qvp(a b c d:T)(i:Nat)(H:qa):cD 45 [2,2,0,0,2,1,2,2,2,2,2,2,2,2,2] [2,4,6,9,16] [a,b,c,d,iI (ofNat i)] H [2,4,6,9,16]=some (.normal,[a,b,c,d,iI (i64.wrap (ofNat i+1))],H):=qh
def oT(n:Nat)(vs a:Nat->Nat):aq:=.mk n 1 n (λj=>[.own (2+j) (vs j) 0 (a j) none]) false false none
def qvq(e:aq)(n:Nat)(vs d:Nat->Nat)(a b c:T)(i:Nat)(H:qa):cD 45 [1,0,0,2,1,2,2,2,2,2,2,2,2,2] [2,4,6,9,16] [a,b,.own 1 n 0 n none,c,iI (ofNat i)] (e::oT n vs d::H) [2,4,6,9,16]=(bif n==n&&true then bif decide (ofNat i<ofNat n) then some (.normal,[a,b,.own 1 n 0 n none,c,iI (ofNat i)],e::oT n vs d::H) else some (.exit 4,[a,b,.own 1 n 0 n none,c,iI (ofNat i)],e::oT n vs d::H) else none):=qh
def qsp(e:aq)(n:Nat)(vs d:Nat->Nat)(a b c:T)(i:Nat)(H:qa):cD 45 [1,0,0,2,1,2,2,2,2,2,2,2,2,2] [2,4,6,9,16] [a,b,.own 1 n 0 n none,c,iI (ofNat i)] (e::oT n vs d::H) [2,4,9]=(bif n==n&&true then bif decide (ofNat i<ofNat n) then some (.normal,[a,b,c],e::oT n vs d::H) else some (.exit 4,[a,b,c],e::oT n vs d::H) else none):=qh
def Xv(m:Nat)(g:Nat->JO)(sl:List aF)(j:Nat):JO:=bif j.blt m then g (0+j) else(sl.getD (0+(j-m)) be).c
def flP(m l:Nat)(g:Nat->JO)(sl:List aF)(j:Nat):JO:=bif (0+m).ble j&&j.blt (0+m+l) then(sl.getD (0+(j-(0+m))) be).c else g j
def qvr(k:Nat)(i:k<16)(v m e n:Nat)(vs a:Nat->Nat)(g:Nat->JO)(sl:List aF)(f:Nat->aq)(g1 g2:Nat->JO)(cr:List aV)(he fa:List aL)(d:Int)(b c:T):cK (KG qv) 45 [0,1,2,0,0,2,1,2,2,2,2,2,2,2,2,2] [2,4,6,9,16] [b,c,.own 1 n 0 n none,p0,iI (ofNat k)] (rk (.own 18 v 0 m none) g1 g2 cr he fa d::Hf (oT n vs a) (fX f k (ie (vs k) e sl)) [bW v m g]) [2,4,6,9,16] =
 (bif n==n&&true then bif dj k n then bif n==n&&true then bif k.blt n then bif vs k==vs k&&true then bif (0+a k).ble e then bif v==v&&true then bif (0+m).ble m then bif a k==0 then some (.normal,[b,c,.own 1 n 0 n none,p0,iI (ofNat k)],(DO (.own 18 v 0 m none) (.own 18 v 0 m none) g1 g2 cr he he fa d d::Hf (oT n vs a) (fX f k (ie (vs k) e sl)) [bW v m g])) else bif ((m+a k)*33).ble 70368744177664 then bif (0+m+a k).ble m then some (.normal,[b,c,.own 1 n 0 n none,p0,iI (ofNat k)],(DO (.own 18 v 0 (m+a k) none) (.own 18 v 0 m none) g1 g2 cr he he fa d d::Hf (oT n vs a) (fX f k (ie (vs k) e sl)) [bW v m (flP m (a k) g sl)])) else some (.normal,[b,c,.own 1 n 0 n none,p0,iI (ofNat k)],(DO (.own 18 (v+1) 0 (m+a k) none) (.own 18 v 0 m none) g1 g2 cr he he fa d d::Hf (oT n vs a) (fX f k (ie (vs k) e sl)) [bW (v+1) (m+a k) (Xv m g sl)])) else none else none else none else none else none else none else none else none else none ):=by
 cases qW i
 all_goals kernel_rfl
def qvs(p:JO->T->Prop)(v m:Nat)(sl:List aF)(g1 g2:Nat->JO)(cr:List aV)(h2 he fa:List aL)(d:Int)(b c:T):cK (qv.add 81 (Qa p λ_=>some (.new (aX h2)))) 45 [1,2,2,2,2,2,2,2,2,2,2] [2,4,9] [b,c,p0] [rk (bR sl none) g1 g2 cr he fa d] [2,4,9] =
 (bif qM (p [bR sl none] (.new (aX h2))) then some (.normal,[b,c,p0],[DO (bR sl none) (bR sl none) g1 g2 cr h2 he fa d d]) else none):=qh
def qvt(w:bD)(c:T)(sl:List aF)(g1 g2:Nat->JO)(cr:List aV)(he fa:List aL)(d:Int):cD 45 [1,2,2,2,2,2,2,2,2,2,2,2] [2,4,9] [bz w,c,p0] [rk (bR sl none) g1 g2 cr he fa d] [4,9] =
 some (.normal,[c,p0],[DO (bR sl none) (bR sl none) g1 g2 cr he he fa (u8.wrap (1-w.d)) d]):=qh
def qvu(sl:List aF)(g1 g2:Nat->JO)(cr:List aV)(he fa:List aL)(d:Int):cD 45 [2,2,2,2,2,2,2,2,2,2,2,2] [4,9] [.ah bL,p0] [rk (bR sl none) g1 g2 cr he fa d] [4,5] =
 some (.ret,[.ah [bR sl none,.view 5 6 g1 none,.view 1 6 g2 none,aM cr,aX he,aX fa,uI d],iI 0],[rk (bR sl none) g1 g2 cr he fa d]):=qh
def ao.sS{s:ao}(h:c9 s=true):s.nN=if s.k=3 then 0 else if s.k=4∨s.k=5 then 2 else if s.k=8 then(i64.wrap (s.a+s.b)).toNat else 1:=by
 unfold ao.nN ao.n;rw[h,wm];by_cases g:s.k=3
 .rw[g];rfl
 .rw[xk g,wp,we g];by_cases f:s.k=4
  .rw[f];rfl
  .rw[xk f,wp];by_cases e:s.k=5
   .rw[e];rfl
   .rw[xk e,wp,we (λh=>h.elim f e)];by_cases d:s.k=8
    .rw[wq d,wm,wl d]
    .rw[xk d,wp,we d];rfl
def Xw(s:ao):ze s=0∨ze s=1:=by unfold ze;split<;>simp
structure m6(s:ao)(l:List aF):Prop where
 g:P4 s l
 ne:∀x∈l,x.l≠[]
 one:s.k=6->∃x,l=[x]
 Rg:s.k=7->l≠[]
def Hn{w:bD}{A:Nat->Bool}{d:ao}{a:Nat}(fit:pQ w A d a)(s:∀j,j<w.sl.length->1<=(bl w j).l.length/\(bl w j).l.length<=3):m6 d (lz d (fJ d (w.sl.drop a))):=by
 have E:=fit.le;obtain⟨n4,_⟩:=ao.n4 fit.ok;have f:=ao.sS fit.v;have g:=KD d (w.sl.drop a) (by rw[vo];omega);have mem:∀x∈fJ d (w.sl.drop a),∃e,e<d.nN/\x=⟨ze d,(bl w (a+e)).l⟩:=λx hx=>by
  obtain⟨e,he,rfl⟩:=ua.1 hx;refine⟨e,ae,?_⟩;have:=yS w d a e E ae;rw[wh,wj he] at this;exact this
 have ok:∀x∈fJ d (w.sl.drop a),(x.b=0∨x.b=1)/\1<=x.l.length/\x.l.length<=3:=λx hx=>by
  obtain⟨e,he,rfl⟩:=mem x hx;exact⟨Xw d,s (a+e) ae⟩
 have all:∀l:List aF,(∀x∈l,x∈fJ d (w.sl.drop a))->l.length<=4->sP l/\(∀x∈l,x.l≠[])/\∀x∈l,x.l.length<=3:=λl h C =>
  ⟨⟨C,λx hx=>⟨(ok x (h x hx)).1,by have:=(ok x (h x hx)).2.2;omega⟩⟩,λx hx e=>by have:=(ok x (h x hx)).2.1;rw[e] at this;exact absurd this au,λx hx=>(ok x (h x hx)).2.2⟩
 by_cases o:d.k=4∨d.k=5
 ·have D:d.nN=2:=ao.oV fit.v o;have g0:=yS w d a 0 E ae;have g1:=yS w d a 1 E ae;have r:lz d (fJ d (w.sl.drop a))=[⟨ze d,(bl w a).l++(bl w (a+1)).l⟩]:=by
   match hT:fJ d (w.sl.drop a),g.trans D with
   |[I,H],_ =>
    rw[hT] at g0 g1;have g0:I=⟨ze d,(bl w a).l⟩:=g0;have g1:H=⟨ze d,(bl w (a+1)).l⟩:=g1;unfold lz;rw[wl o,g0,g1];simp
  rw[r];obtain⟨O,N⟩:=s a ae;obtain⟨Q,P⟩:=s (a+1) ae;have C:(bl w a).l.length+(bl w (a+1)).l.length<=4:=by
   have he:=fit.e;rw[D] at he;have M:zH (λe=>ofNat (bl w (a+e)).l.length) 2=true:=(Zg _ 2).2 λi R=>by
    rw[Zr];have:=s (a+i) ae;simp only[wu];omega
   rw[OI fit.v D.symm M,wl o] at he;split at he
   .cases he
   .rename_i q;simp only[wu] at q;have q:¬4<(((bl w (a+0)).l.length:Int)+(bl w (a+1)).l.length):=q;rw[xV] at q;omega
  refine⟨⟨⟨au,λx hx=>?_⟩,⟨λh=>ae,λ_=>by simp⟩,λh=>ae⟩,λx hx=>?_,λh=>ae,λ_=>by simp⟩
  .rw[wM.1 hx];exact⟨Xw d,by rw[wD];exact C⟩
  .rw[wM.1 hx];intro e;have e:(bl w a).l++(bl w (a+1)).l=[]:=e;have:=vD List.length e;rw[wD] at this;simp only[vE] at this;omega
 .by_cases B:d.k=8
  .have r:lz d (fJ d (w.sl.drop a))=(fJ d (w.sl.drop a)).drop d.a.toNat++(fJ d (w.sl.drop a)).take d.a.toNat:=by unfold lz;rw[we o,wl B]
   rw[r];obtain⟨z,u,_⟩:=all ((fJ d (w.sl.drop a)).drop d.a.toNat++(fJ d (w.sl.drop a)).take d.a.toNat) (λx hx=>by
    rcases wS.1 hx with h|h
    .exact xZ h
    .exact xX h) (by rw[wD,vo,vB];omega)
   exact⟨⟨z,⟨λh=>ae,λh=>ae⟩,λh=>ae⟩,u,λh=>ae,λh=>ae⟩
  .have r:lz d (fJ d (w.sl.drop a))=fJ d (w.sl.drop a):=by unfold lz;rw[we o,we B]
   rw[r];obtain⟨z,u,J⟩:=all (fJ d (w.sl.drop a)) (λx hx=>hx) ae;rw[we o,we B] at f;refine⟨⟨z,⟨λh=>?_,λh=>?_⟩,λ_=>J⟩,u,λh=>?_,λh=>?_⟩
   .rw[wl h] at f;exact vN (g.trans f)
   .rw[we ae] at f;intro e;rw[e,f] at g;cases g
   .rw[we ae] at f;rw[f] at g
    match hT:fJ d (w.sl.drop a),g with
    |[x],_=>exact⟨x,rfl⟩
   .rw[we ae] at f;intro e;rw[e,f] at g;cases g
def uq.ne{s:ao}{l l':List aF}(h:uq s l l')(u:∀x∈l,x.l≠[]):∀x∈l',x.l≠[]:=by
 intro x hx e;have d:x.l.length∈uN s l:=by rw[←h.1];exact vb.2 ⟨x,hx,rfl⟩
 rw[e] at d;revert d;have g:∀y∈l,0<y.l.length:=λy f=>ue.2 (u y f);unfold uN;by_cases o:s.k=3
 .rw[wl o];intro d;simp at d
 rw[we o];by_cases j:s.k=6
 .rw[wl j]
  match l,g with
  |[],_=>intro d;cases d
  |a::t,g =>
   intro d;rcases wK.1 d with r|r
   .simp at r
   .obtain⟨y,f,e⟩:=vb.1 r;have:=g y (by simp[f]);have e:y.l.length=0:=e;omega
 rw[we j];by_cases i:s.k=7
 .rw[wl i];intro d;obtain⟨y,f,e⟩:=vb.1 d;have:=g y f;have e:y.l.length=0:=e;omega
 .rw[we i];intro d;obtain⟨y,f,e⟩:=vb.1 d;cases e
def qvv(right:Bool)(x:Wx)(Y:Nat->b6)(ln v:Nat->Nat)(L:Nat->Nat->dO)(rest:qa)(K:Nat)(a b c d y:T):cD 45 [2,2,3,2,1,2,2,2,2,0,1,2,0,0,2,1,2,2,2,2,2,2,2] [1,2,4,6,9,10,11,12,15] [a,b,c,d,p0,iI (rI right),.ah [iI (-13),iI 179],y,yP K] (HW x Y ln v L rest) [1,2,4,6,9,10,11,12,15] =
 (bif K.blt 6&&true&&true&&true then some (.normal,[a,b,c,d,p0,iI (rI right),.ah [iI (-13),iI 179],y,yP K],sM x (yG Y K [.bool (Y K).i,iI (zr (!right)),iI (Y K).ct,.bool (Y K).w,cH (Y K).pe (Y K).np none]) (tB ln v) ln v L rest) else none):=by
 cases right
 .exact qsi x Y ln v L rest K a b c d y
 .exact qsd x Y ln v L rest K a b c d y
def qvw(right:Bool)(x:Wx)(Y:Nat->b6)(ln v:Nat->Nat)(L:Nat->Nat->dO)(rest:qa)(K:Nat)(a b c d y:T):cD 45 [1,1,2,2,2,2,2,0,1,2,0,0,2,1,2,2,2,2,2,2,2] [1,2,4,6,9,10,11,12,15] [a,b,c,d,p0,iI (rI right),.ah [iI (-13),iI 179],y,yP K] (HW x Y ln v L rest) [1,2,4,6,9,10,11,12,15,88] =
 (bif K.blt 6 then bif !decide ((Y K).pl=zr (!right)) then some (.normal,[a,b,c,d,p0,iI (rI right),.ah [iI (-13),iI 179],y,yP K,.bool true],HW x Y ln v L rest) else some (.normal,[a,b,c,d,p0,iI (rI right),.ah [iI (-13),iI 179],y,yP K,.bool false],HW x Y ln v L rest) else none):=by
 cases right
 .exact qsj x Y ln v L rest K a b c d y
 .exact qse x Y ln v L rest K a b c d y
def qvx(right:Bool)(x:Wx)(Y:Nat->b6)(ln v:Nat->Nat)(L:Nat->Nat->dO)(rest:qa)(K:Nat)(a b c d y:T):cD 45 [2,2,2,2,2,2,2,0,1,2,0,0,2,1,2,2,2,2,2,2,2] [1,2,4,6,9,10,11,12,15] [a,b,c,d,p0,iI (rI right),.ah [iI (-13),iI 179],y,yP K] (HW x Y ln v L rest) [1,2,4,6,9,10,11,12] =
 (bif K.blt 6&&true&&true&&true then some (.normal,[a,b,c,d,p0,iI (rI right),.ah [iI (-13),iI 179],y],sM x (yG Y K [.bool (Y K).i,iI (zr right),iI (Y K).ct,.bool (Y K).w,cH (Y K).pe (Y K).np none]) (tB ln v) ln v L rest) else none):=by
 cases right
 .exact qsk x Y ln v L rest K a b c d y
 .exact qsf x Y ln v L rest K a b c d y
def qvy(right:Bool)(q:JO->qa->T->qa->Prop)(H d:qa)(G:Nat->ao)(n a:Nat)(K:Nat)(b c e:T):cK (qv.cE 83 (jo q λ_ _=>some (.aK [],d))) 45 [3,2,1,2,2,2,2,2,0,1,2,0,0,2,1,2,2,2,2,2,2,2] [1,2,4,6,9,10,11,12,15] [aU G n none,b,c,oL a n,p0,iI (rI right),.ah [iI (-13),iI 179],yK K,e] H [1,2,4,6,9,10,11,12,15] =
 (bif qM (q [p0,aU G n none,oL a n,yK K,iI (rI (!right)),iI (ofNat (bI false))] H (.aK []) d) then some (.normal,[aU G n none,b,c,oL a n,p0,iI (rI right),.ah [iI (-13),iI 179],yK K,e],d) else none):=by
 cases right
 .exact qsl q H d G n a K b c e
 .exact qsg q H d G n a K b c e
def qvz(right:Bool)(q:JO->qa->T->qa->Prop)(H d:qa)(G:Nat->ao)(n a:Nat)(K:Nat)(b c e:T):cK (qv.cE 83 (jo q λ_ _=>some (.aK [],d))) 45 [1,2,2,2,2,2,2,0,1,2,0,0,2,1,2,2,2,2,2,2,2] [1,2,4,6,9,10,11,12,15] [aU G n none,b,c,oL a n,p0,iI (rI right),.ah [iI (-13),iI 179],yK K,e] H [1,2,4,6,9,10,11,12,15] =
 (bif qM (q [p0,aU G n none,oL a n,yK K,iI (rI right),iI (ofNat (bI true))] H (.aK []) d) then some (.normal,[aU G n none,b,c,oL a n,p0,iI (rI right),.ah [iI (-13),iI 179],yK K,e],d) else none):=by
 cases right
 .exact qsm q H d G n a K b c e
 .exact qsh q H d G n a K b c e
structure uQ where
 (q:Ys) (r:Rw) (v:Nat->Nat)
def uQ.h(z:uQ)(x:Wx):qa:=z.q.hw x z.v (z.r.h [])
def nW(q:Ys)(right:Bool)(K:Nat):Ys:=if (q.Y K).i=false then q.dz K ⟨true,zr (!right),(q.Y K).ct,true,(q.Y K).pe⟩ else q
def si(G:Nat->ao)(n:Nat)(right:Bool)(K:Nat)(a:Ys)(r:Rw):Ys:=if (a.Y K).pl≠zr (!right) then(fw K (!right) false G n ⟨a,r,0⟩ n).q else a
def Xx(right:Bool)(K:Nat)(v:Nat->Nat)(o:OS):uQ:=⟨o.q.dz K ⟨(o.q.Y K).i,zr right,(o.q.Y K).ct,(o.q.Y K).w,(o.q.Y K).pe⟩,o.r,aB v K (v K+o.c)⟩
def ut(G:Nat->ao)(n:Nat)(right:Bool)(K:Nat)(z:uQ):uQ :=
 if Bt ((List.range n).map G) K=false then z else Xx right K z.v (fw K right true G n ⟨si G n right K (nW z.q right K) z.r,z.r,0⟩ n)
def Xy(K:Nat)(right:Bool)(G:Nat->ao)(n:Nat)(z:OS):∀i,(fw K right false G n z i).r=z.r/\(fw K right false G n z i).c=z.c
 |0=>⟨rfl,rfl⟩
 |i+1=>by
  obtain⟨h1,a⟩:=Xy K right G n z i;show(lO K right false _ _ (fw K right false G n z i)).r=_/\(lO K right false _ _ (fw K right false G n z i)).c=_;unfold lO;rw[we au];exact⟨h1,a⟩
def Ho(q:Ys)(K B:Nat):Prop:=0<=(q.Y K).ct/\(q.Y K).ct+B<1000000/\(q.tb K).length+B<=1000000/\(q.Y K).pe.length+B<=1000000
def qoF{q:Ys}{right:Bool}{K B:Nat}(h:Ho q K B):gP (nW q right K) K B:=by
 obtain⟨h1,f,d,a⟩:=h;unfold nW;cases g:(q.Y K).i with
 |true=>rw[we au];exact⟨g,h1,f,d,a⟩
 |false =>
  rw[wl rfl];have e:(q.dz K ⟨true,zr (!right),(q.Y K).ct,true,(q.Y K).pe⟩).Y K=⟨true,zr (!right),(q.Y K).ct,true,(q.Y K).pe⟩:=Yg _ _ _;unfold gP;rw[e];exact⟨rfl,h1,f,d,a⟩
def Ma{aa:Wa}{nt k:Nat}{l:Wa}{vs:JO}(q:Ys)(x:Wx)(v:Nat->Nat)(rest:qa)(K:Nat)(z:Yn):am G17 aa nt l k vs (sM x (yG (λe=>(q.Y e).y) K z.y.c) (tB (λe=>(q.tb e).length) v) (λe=>(q.tb e).length) v (λe j=>((q.tb e).getD j eG).l) rest) vs ((q.dz K z).hw x v rest):=by
 rw[←PG];exact Zt (.refl _)
section
variable (w:bD) (G:Nat->ao) (n:Nat) (right:Bool)
def E0(K i:Nat):Bool:=(List.range i).any λj=>decide ((G j).y=ofNat K+1)
def tJ(K i:Nat):Int:=bif E0 G K i then 1 else 0
def qoG(K i:Nat):E0 G K (i+1)=(E0 G K i || decide ((G i).y=ofNat K+1)):=by
 unfold E0;rw[xj,List.any_append];simp
def Xz(K:Nat):E0 G K n=Bt ((List.range n).map G) K:=by unfold E0 Bt;rw[List.any_map];rfl
def qlr(h0:qa)(r:∀j,(G j).Ok)(D:n<=16)(K:Nat)(b c d e f g:T)(H:qa) :
 Pq 45 h0 [1,2,0,1,2,0,0,2,1,2,2,2,2,2,2,2] [1,2,4,6,9,10,11,12,13] [aU G n none,b,c,d,e,f,g,yK K,iI 0] H .normal [1,2,4,6,9,10,11,12,13] [aU G n none,b,c,d,e,f,g,yK K,iI (tJ G K n)] H:=by
 have run:=λ{p l s h B u h1 e} (k:cD 45 p l s h B=some (e,u,h1))=>cf h0 k
 let V:Nat->JO:=λi=>[aU G n none,b,c,d,e,f,g,yK K,iI (tJ G K i),iI (ofNat i)]
 have round:∀i,i<n->Pq 45 h0 [0,0,2,1,2,0,1,2,0,0,2,1,2,2,2,2,2,2,2] [1,2,4,6,9,10,11,12,13,14] (V i) H .normal [1,2,4,6,9,10,11,12,13,14] (V (i+1)) H:=λi o=>by
  have A:=run ((qvf G b c d e f g (yK K) (iI (tJ G K i)) n i H).trans (qk (CL o) rfl));have C:i64.wrap (G i).y=(G i).y:=Qp (by have:=(r i).y;omega) (by have:=(r i).y;omega);have x:Pq 45 h0 [1,2,0,0,2,1,2,0,1,2,0,0,2,1,2,2,2,2,2,2,2] [1,2,4,6,9,10,11,12,13,14] (V i) H .normal [1,2,4,6,9,10,11,12,13,14] [aU G n none,b,c,d,e,f,g,yK K,iI (tJ G K (i+1)),iI (ofNat i)] H:=by
   have q:=(qvg G b c d e f g n i (ofNat K+1) (tJ G K i) H).trans (qk (uP o) rfl);rw[C] at q;unfold tJ;rw[qoG];by_cases z:(G i).y=ofNat K+1
   .rw[wq z,Bool.or_true];exact run (q.trans (qk (wq z) rfl))
   .rw[xk z,Bool.or_false];exact run (q.trans (qF (hZ z) rfl))
  have a:=run (qvh (aU G n none) b c d e f g (yK K) (iI (tJ G K (i+1))) i H);rw[il ae] at a;exact av A (av x a)
 have last:=run ((qsb G b c d e f g (yK K) (iI (tJ G K n)) n n H).trans (qF (CM (wc _)) rfl));have lp:Pq 45 h0 [0,2,1,2,0,1,2,0,0,2,1,2,2,2,2,2,2,2] [1,2,4,6,9,10,11,12,13,14] (V 0) H (.exit 2) [1,2,4,6,9,10,11,12,13] [aU G n none,b,c,d,e,f,g,yK K,iI (tJ G K n)] H:=Pz.count qh V (λ_=>H) (n:=n) au round (lk last);exact av (run (qve (aU G n none) b c d e f g (yK K) (iI 0) H)) (fi 2 lp)
def qoH(h0:qa)(hh:h0.length<=26)(R:∀j,(G j).Ok)(Q:n<=16)(x:Wx)(hx:x.Im)(K:Nat)(C:K<6)(z:uQ)(ho:z.r.o=n)(hr:z.r.n=n)(ok:∀k,k<n->tH z.r k)(hf:∀k,k<n->(G k).y=ofNat K+1->ow (G k) z.r k)(gn:Ho z.q K 1000) :
 Pq 45 h0 [0,0,2,1,2,2,2,2,2,2,2] [1,2,4,6,9,10,11,12] [aU G n none,bz w,.ah bL,oL n n,p0,iI (rI right),.ah [iI (-13),iI 179],yK K] (z.h x) .normal [1,2,4,6,9,10,11,12] [aU G n none,bz w,.ah bL,oL n n,p0,iI (rI right),.ah [iI (-13),iI 179],yK (K+1)] ((ut G n right K z).h x):=by
 have run:=λ{p l vs h l1 v1 h1 e} (k:cD 45 p l vs h l1=some (e,v1,h1))=>cf h0 k
 let a:T:=aU G n none
 let b:T:=bz w
 let c:T:=.ah bL
 let d:T:=oL n n
 let s:T:=iI (rI right)
 let A:T:=.ah [iI (-13),iI 179]
 let H:=z.h x
 have pA:=run ((roc a b c d p0 s A (ofNat K+1) H).trans (qk (wq bH) rfl));have Mb:=run (qvd a b c d p0 s A (yK K) H);have Z:=qlr G n h0 R Q K b c d p0 s A H;have XB:=run (qvi a b c d p0 s A K ((ut G n right K z).h x));rw[show iI (i64.wrap (ofNat K+1+1))=yK (K+1) by
  rw[Qp bH bH];unfold yK;congr 1] at XB
 have XC:=qsc a b c d p0 s A (yK K) (tJ G K n) H;have DJ:∃e,(e=Ex.normal∨e = .exit 1)/\Pq 45 h0 [0,1,2,0,0,2,1,2,2,2,2,2,2,2] [1,2,4,6,9,10,11,12] [a,b,c,d,p0,s,A,yK K] H e [1,2,4,6,9,10,11,12] [a,b,c,d,p0,s,A,yK K] ((ut G n right K z).h x):=by
  cases N:Bt ((List.range n).map G) K with
  |false =>
   have e0:tJ G K n=0:=by unfold tJ;rw[Xz,N];rfl
   have S:=run (XC.trans (qk (wq e0) rfl));refine⟨.exit 1,.inr rfl,?_⟩;unfold ut;rw[wl N];exact av Mb (av Z (lk S))
  |true =>
   have e1:tJ G K n=1:=by unfold tJ;rw[Xz,N];rfl
   have S:=run (XC.trans (qF (hZ (by rw[e1];omega)) rfl));refine⟨.normal,.inl rfl,?_⟩;unfold ut;rw[we (by rw[N];simp)];obtain⟨y1,y2⟩:=PH C;have XD:=run ((qvj x (λe=>(z.q.Y e).y) (λe=>(z.q.tb e).length) z.v (λe j=>((z.q.tb e).getD j eG).l) (z.r.h []) K a b c d s A).trans (qk (by rw[y1];simp only[wu,wg,wC];omega) rfl));rw[y2] at XD;have cK:(K.blt 6&&true&&true&&true)=true:=by rw[qL C];rfl
   let f:=nW z.q right K
   have pI:Pq 45 h0 [1,2,2,2,2,0,1,2,0,0,2,1,2,2,2,2,2,2,2] [1,2,4,6,9,10,11,12,15] [a,b,c,d,p0,s,A,yK K,yP K] H .normal [1,2,4,6,9,10,11,12,15] [a,b,c,d,p0,s,A,yK K,yP K] (f.hw x z.v (z.r.h [])):=by
    have XE:=qvk x (λe=>(z.q.Y e).y) (λe=>(z.q.tb e).length) z.v (λe j=>((z.q.tb e).getD j eG).l) (z.r.h []) K a b c d (yK K) (rI right);show Pz _ _ _ _ _ _ _ _ _ _ _ _ ((nW z.q right K).hw x z.v (z.r.h []));unfold nW;cases hi:(z.q.Y K).i with
    |true =>
     rw[we au];exact av (run (XE.trans (qk (qL C) (qk hi rfl)))) (Pz.fc 66 qh rfl (run (qsn a b c d p0 s A (yK K) (yP K) (.bool false) H)))
    |false =>
     rw[wl rfl]
     let B:=z.q.Y K
     let I:Yn:=⟨true,B.pl,B.ct,B.w,B.pe⟩
     let E:Yn:=⟨true,B.pl,B.ct,true,B.pe⟩
     let z3:Yn:=⟨true,zr (!right),B.ct,true,B.pe⟩
     have pa:=run (XE.trans (qk (qL C) (qF (show ¬(z.q.Y K).i=true by rw[hi];simp) rfl)));have pb:=Pz.post (run ((qvl x (λe=>(z.q.Y e).y) (λe=>(z.q.tb e).length) z.v (λe j=>((z.q.tb e).getD j eG).l) (z.r.h []) K a b c d (yK K) (rI right)).trans (qk cK rfl))) λnt=>Ma z.q x z.v (z.r.h []) K I;have e2:(z.q.dz K I).Y K=I:=Yg _ _ _;have X:=qvm x (λe=>((z.q.dz K I).Y e).y) (λe=>(z.q.tb e).length) z.v (λe j=>((z.q.tb e).getD j eG).l) (z.r.h []) K a b c d (yK K) (rI right);simp only[e2] at X;have M:=Pz.post (run (X.trans (qk cK rfl))) λnt=>Ma (z.q.dz K I) x z.v (z.r.h []) K E;have V:∀(q:Ys) (u u':Yn),(q.dz K u).dz K u'=q.dz K u':=λq u u'=>by
      show(⟨aB (aB q.Y K u) K u',q.tb⟩:Ys)=⟨aB q.Y K u',q.tb⟩;congr 1;exact funext λe=>by
       unfold aB;by_cases g:e=K
       .rw[wl g,wl g]
       .rw[we g,we g,we g]
     rw[V] at M;have e3:(z.q.dz K E).Y K=E:=Yg _ _ _;have W:=qvv right x (λe=>((z.q.dz K E).Y e).y) (λe=>(z.q.tb e).length) z.v (λe j=>((z.q.tb e).getD j eG).l) (z.r.h []) K a b c d (yK K);simp only[e3] at W;have pd:=Pz.post (run (W.trans (qk cK rfl))) λnt=>Ma (z.q.dz K E) x z.v (z.r.h []) K z3;rw[V] at pd;exact av pa (Pz.gE 66 qh rfl (Pz.drop rfl (av pb (av M pd))))
   have U:gP f K 1000:=qoF gn;obtain⟨XF,hw⟩:=YM aw G17 83
   let J:=si G n right K f z.r
   have O:Pq 45 h0 [1,2,2,2,2,2,0,1,2,0,0,2,1,2,2,2,2,2,2,2] [1,2,4,6,9,10,11,12,15] [a,b,c,d,p0,s,A,yK K,yP K] (f.hw x z.v (z.r.h [])) .normal [1,2,4,6,9,10,11,12,15] [a,b,c,d,p0,s,A,yK K,yP K] (J.hw x z.v (z.r.h [])):=by
    have XG:=qvw right x (λe=>(f.Y e).y) (λe=>(f.tb e).length) z.v (λe j=>((f.tb e).getD j eG).l) (z.r.h []) K a b c d (yK K);show Pz _ _ _ _ _ _ _ _ _ _ _ _ ((si G n right K f z.r).hw x z.v (z.r.h []));unfold si;by_cases D:(f.Y K).pl=zr (!right)
    .rw[we (by simpa using D)];exact av (run (XG.trans (qk (qL C) (qF (by rw[show((λe=>(f.Y e).y) K).pl=(f.Y K).pl from rfl,wq D];simp) rfl)))) (Pz.fc 88 qh rfl (run (qso a b c d p0 s A (yK K) (yP K) (.bool false) (f.hw x z.v (z.r.h [])))))
    ·rw[wl D];have t:=WL x hx z.v K C G R (!right) false n f z.r hr Q ok (λ_ _ h=>(by cases h)) (U.mono ae);obtain⟨o1,o2⟩:=Xy K (!right) G n ⟨f,z.r,0⟩ n;have eh:(fw K (!right) false G n ⟨f,z.r,0⟩ n).h x z.v K=(fw K (!right) false G n ⟨f,z.r,0⟩ n).q.hw x z.v (z.r.h []):=by
      unfold OS.h;rw[o1,o2,LN]
     rw[eh,ho] at t;exact av (run (XG.trans (qk (qL C) (qk (by rw[show((λe=>(f.Y e).y) K).pl=(f.Y K).pl from rfl,xk D];rfl) rfl)))) (Pz.gE 88 qh rfl (Pz.drop rfl
      (eD (qC qp (zg hw)) h0 ((qvy right XF (f.hw x z.v (z.r.h [])) _ G n n K b c (yP K)).trans (qk (zM hw t) rfl)))))
   have Rh:gP J K 600:=by
    show gP (si G n right K f z.r) K 600;unfold si;by_cases D:(f.Y K).pl=zr (!right)
    .rw[we (by simpa using D)];exact U.mono ae
    .rw[wl D];exact P9 K (!right) false G n ⟨f,z.r,0⟩ ok 600 n (wc _) (U.mono ae)
   let o:=fw K right true G n ⟨J,z.r,0⟩ n
   have t:=WL x hx z.v K C G R right true n J z.r hr Q ok (λk hk _ h=>hf k hk h) (Rh.mono ae);rw[ho] at t;have Hd:=eD (qC qp (zg hw)) h0 ((qvz right XF (J.hw x z.v (z.r.h [])) (o.h x z.v K) G n n K b c (yP K)).trans (qk (zM hw t) rfl));have P:=Pz.post (run ((qvx right x (λe=>(o.q.Y e).y) (λe=>(o.q.tb e).length) (aB z.v K (z.v K+o.c)) (λe j=>((o.q.tb e).getD j eG).l) (o.r.h []) K a b c d (yK K)).trans (qk cK rfl)))
    λnt=>Ma o.q x (aB z.v K (z.v K+o.c)) (o.r.h []) K ⟨(o.q.Y K).i,zr right,(o.q.Y K).ct,(o.q.Y K).w,(o.q.Y K).pe⟩
   exact av Mb (av Z (av S (av XD (av pI (av O (av Hd P))))))
 obtain⟨e,he,M⟩:=DJ;refine av pA (av (Pz.ey (id:=1) (e:=e) qh ?_ M) XB);rcases he with rfl|rfl<;>rfl
end
def E1(w:bD)(G:Nat->ao)(n:Nat):Rw:=⟨n,n,λj=>bif j.blt n then 1 else 0,λj=>bif j.blt n then(cP w G j).length else 0,cP w G⟩
def xW(w:bD)(c:List aV):Wx:=⟨.undef,aM c,aX w.he,aX w.fa,w.d⟩
def qsq(w:bD)(c:List aV):(xW w c).Im:=⟨rfl,rfl,rfl,rfl⟩
def Hr:Wa:=[42,34,35,36,37,38,39,40,41]++List.range 17
def qsr:∀j,j<16->QU Hr (1+j)=some (10+j):=by decide
def qss:∀j,j<6->QU Hr (36+j)=some (3+j):=by decide
def nI(i:Nat):T->Bool
 |.own m _ _ _ _=>!(m==i)
 |.ptr m _ _ _=>!(m==i)
 |.mp m _=>!(m==i)
 |x=>zK x
def Mc{i o n:Nat}{x:T}(h:nI i x=true):mw i o n x=x:=by
 cases x with
 |own m aj d len cap =>
  show(bif m==i then _ else _)=_;have h:(!(m==i))=true:=h;rw[show(m==i)=false by simpa using h];rfl
 |ptr m aj q o =>
  show(bif m==i then _ else _)=_;have h:(!(m==i))=true:=h;rw[show(m==i)=false by simpa using h];rfl
 |mp m aj =>
  show(bif m==i then _ else _)=_;have h:(!(m==i))=true:=h;rw[show(m==i)=false by simpa using h];rfl
 |fn f a =>
  have h:a.isEmpty=true:=h;obtain rfl:a=[]:=xQ.1 h;rfl
 |_=>first|rfl|(simp[nI,zK] at h;done)
def E2(i:Nat)(b:aq):Prop:=b.flat=true∨∀j,j<b.n->∀c∈b.get j,nI i c=true
def Qv{i o n:Nat}{b:aq}(g:E2 i b){h h2:qa}(e:ak h h2):ak (iF i o n b::h) (b::h2):=by
 obtain⟨u,s,d,r,k⟩:=Xu i o n b;refine .cons ⟨u.symm,s.symm,d.symm,λh=>by rw[r];exact h,λj a=>?_⟩ e k.symm;rw[d] at a;unfold iF;cases x:b.flat with
 |true=>rfl
 |false =>
  rcases g with h|h
  .rw[x] at h;cases h
  .show b.get j=(b.get j).map _;have:(b.get j).map (mw i o n)=(b.get j).map id:=va λc f=>Mc (h j a c f);rw[this,xP]
def Hs(x:Wx)(a b:Nat):aq:=⟨0,7,1,λ_=>[x.sl,.own 1 a 0 6 none,.own 2 b 0 6 none,x.cr,x.he,x.fa,uI x.d],false,false,none⟩
def CP(w:bD)(G:Nat->ao)(n a b:Nat):qa:=Hs (xW w w.cr) a b::.mk a 5 6 (λe=>(w.q.Y e).y.c) false false none::.mk b 1 6 (λe=>[.own (3+e) 0 0 (w.q.tb e).length none]) false false none::rB (λe=>(w.q.tb e).length) (λ_=>0) (λe j=>((w.q.tb e).getD j eG).l) 0::rB (λe=>(w.q.tb e).length) (λ_=>0) (λe j=>((w.q.tb e).getD j eG).l) 1::rB (λe=>(w.q.tb e).length) (λ_=>0) (λe j=>((w.q.tb e).getD j eG).l) 2::rB (λe=>(w.q.tb e).length) (λ_=>0) (λe j=>((w.q.tb e).getD j eG).l) 3::rB (λe=>(w.q.tb e).length) (λ_=>0) (λe j=>((w.q.tb e).getD j eG).l) 4::rB (λe=>(w.q.tb e).length) (λ_=>0) (λe j=>((w.q.tb e).getD j eG).l) 5::(E1 w G n).h []
def qqy{aa:Wa}{nt:Nat}{l:Wa}(w:bD)(G:Nat->ao)(n a b:Nat)(S:n<=16){vs:JO}(Q:∀x∈vs,x = .ah bL∨low 0 x=true∨x=p0∨x=oL n n):am G17 aa nt l 0 vs (CP w G n a b) vs (CP w G n 0 0):=by
 have H:∀i o,i=1∨i=2->vs.map (rv i o 0)=vs:=λi o A=>by
  have:vs.map (rv i o 0)=vs.map id:=va λx hx=>by
   rcases Q x hx with h|h|h|h
   .rw[h];rcases A with rfl|rfl<;>rfl
   ·have J:∀c,cu 0 c=true->nI i c=true:=λc d=>by
     cases c<;>first|exact d|(simp[cu] at d)
    have I:∀l:JO,l.all (cu 0)=true->l.map (mw i o 0)=l:=λl O=>by
     have:l.map (mw i o 0)=l.map id:=va λc d=>Mc (J c (wA.1 O c d));rw[this,xP]
    have C:∀y,cu 0 y=true->mw i o 0 y=y:=λy P=>Mc (J y P);cases x with
    |agg l=>show T.agg _=_;rw[I l h];rfl
    |ah l=>show T.ah _=_;rw[I l h];rfl
    |fn f l =>
     have h:l.all (cu 0)=true:=h;show mw i o 0 (.fn f l)=_;show(bif aH (.fn f l) then T.fn f l else .undef)=_;have:aH (.fn f l)=true:=wA.2 λc d=>by
      have:=wA.1 h c d;cases c<;>first|exact this|(simp[cu] at this)
     rw[this];rfl
    |_=>(simp only[rv];exact C _ h)
   .rw[h];rcases A with rfl|rfl<;>rfl
   .rw[h];rcases A with rfl|rfl<;>rfl
  rw[this,xP]
 have B:∀i e,E2 i (rB (λe=>(w.q.tb e).length) (λ_=>0) (λe j=>((w.q.tb e).getD j eG).l) e):=λi e=>.inr λj _ c d=>by
  have d:c∈(((w.q.tb e).getD j eG).l).c:=d;simp only[dO.c,wK,xa,or_false] at d;rcases d with h|h|h|h<;>(rw[h];rfl)
 have ry:∀i a,E2 i (.mk a 5 6 (λe=>(w.q.Y e).y.c) false false none):=λi a=>.inr λj _ c d=>by
  have d:c∈(w.q.Y j).y.c:=d;simp only[b6.c,wK,xa,or_false] at d;rcases d with h|h|h|h|h<;>(rw[h];rfl)
 have M:∀i b,i<3->E2 i (.mk b 1 6 (λe=>[.own (3+e) 0 0 (w.q.tb e).length none]) false false none):=λi b A=>.inr λj _ c d=>by
  rw[wM.1 d];show(!(3+j==i))=true;simp;omega
 have ro:∀i,i<3->E2 i (E1 w G n).out:=λi A=>.inr λj _ c d=>by
  rw[wM.1 d];show(!(10+j==i))=true;simp;omega
 have g:∀i k,E2 i ((E1 w G n).row k):=λi k=>.inr λj _ c d=>by
  have d:c∈((cP w G k).getD j be).c:=d;rcases wK.1 d with q|q
  .rw[q];rfl
  .rw[wM.1 q];rfl
 have s:∀i,i<3->∀o,ak (((CP w G n 0 0).drop 3).map (iF i o 0)) ((CP w G n 0 0).drop 3):=λi A o=>by
  show ak (iF i o 0 (rB _ _ _ 0)::_) _;refine Qv (B i 0) (Qv (B i 1) (Qv (B i 2) (Qv (B i 3) (Qv (B i 4) (Qv (B i 5) (Qv (ro i A) ?_))))));exact Qv (g i 0) (Qv (g i 1) (Qv (g i 2) (Qv (g i 3) (Qv (g i 4) (Qv (g i 5) (Qv (g i 6) (Qv (g i 7) (Qv (g i 8) (Qv (g i 9) (Qv (g i 10) (Qv (g i 11) (Qv (g i 12) (Qv (g i 13) (Qv (g i 14) (Qv (g i 15) .nil)))))))))))))))
 refine .trans (h1:=CP w G n 0 b) (fA:=vs) ?_ ?_
 ·have z:=am.CO (Gl:=G17) (aa:=aa) (nt:=nt) (l:=l) (k:=0) (vs:=vs) (h:=CP w G n a b) 1 0 (ov:=a) (bi:=.mk a 5 6 (λe=>(w.q.Y e).y.c) false false none) (wR _) rfl rfl rfl;rw[H 1 a (.inl rfl)] at z;refine z.trans (.same ?_);have D:∀{h r:qa},ak h r->ak (iF 1 a 0 (Hs (xW w w.cr) a b)::h) (Hs (xW w w.cr) 0 b::r):=λu=>by
   refine .cons ⟨rfl,rfl,rfl,λh=>h,λj E=>?_⟩ u rfl;show [T.undef,.own 1 0 0 6 none,.own 2 b 0 6 none,_,_,_,_]=[T.undef,(bif a==a then T.own 1 0 0 6 none else .undef),.own 2 b 0 6 none,_,_,_,_];rw[wF];rfl
  have C:∀{h r:qa},ak h r->ak ({ iF 1 a 0 (.mk a 5 6 (λe=>(w.q.Y e).y.c) false false none) with aj:=0 }::h) (.mk 0 5 6 (λe=>(w.q.Y e).y.c) false false none::r):=λu=>by
   refine .cons ⟨rfl,rfl,rfl,λh=>h,λj E=>?_⟩ u rfl;show(w.q.Y j).y.c=((w.q.Y j).y.c).map (mw 1 a 0);rfl
  exact D (C (Qv (M 1 b ae) (s 1 ae a)))
 ·have z:=am.CO (Gl:=G17) (aa:=aa) (nt:=nt) (l:=l) (k:=0) (vs:=vs) (h:=CP w G n 0 b) 2 0 (ov:=b) (bi:=.mk b 1 6 (λe=>[.own (3+e) 0 0 (w.q.tb e).length none]) false false none) (wR _) rfl rfl rfl;rw[H 2 b (.inr rfl)] at z;refine z.trans (.same ?_);have D:∀{h r:qa},ak h r->ak (iF 2 b 0 (Hs (xW w w.cr) 0 b)::h) (Hs (xW w w.cr) 0 0::r):=λu=>by
   refine .cons ⟨rfl,rfl,rfl,λh=>h,λj E=>?_⟩ u rfl;show [T.undef,.own 1 0 0 6 none,.own 2 0 0 6 none,_,_,_,_]=[T.undef,.own 1 0 0 6 none,(bif b==b then T.own 2 0 0 6 none else .undef),_,_,_,_];rw[wF];rfl
  have C:∀{h r:qa},ak h r->ak ({ iF 2 b 0 (.mk b 1 6 (λe=>[.own (3+e) 0 0 (w.q.tb e).length none]) false false none) with aj:=0 }::h) (.mk 0 1 6 (λe=>[.own (3+e) 0 0 (w.q.tb e).length none]) false false none::r):=λu=>by
   refine .cons ⟨rfl,rfl,rfl,λh=>h,λj E=>?_⟩ u rfl;show [T.own (3+j) 0 0 _ none]=[mw 2 b 0 (.own (3+j) 0 0 _ none)];rw[Mc (show nI 2 (.own (3+j) 0 0 (w.q.tb j).length none)=true from by show(!(3+j==2))=true;simp;omega)]
  exact D (Qv (ry 2 0) (C (s 2 ae b)))
def qqz{aa:Wa}{nt:Nat}{l:Wa}(w:bD)(G:Nat->ao)(n:Nat)(g:n<=16)(c:List aV) :
 am G17 aa nt [1,2,4,6,7,9] 0 [aU G n none,bz w,.ah bL,.own 0 n 0 n none,aM c,.ptr 42 0 0 0] (Hf (di n (L9 (cP w G))) (dq (cP w G) n) (mq (zz 17 (bW w.sl.length w.sl.length (iv (λ_=>false) w))) (λk=>zz 17 (XA (λ_=>false) w w.sl.length k)) (zz 17 (Kz 6 (YF w))) (zz 17 (di 6 (mr w))) (λk=>zz 17 (RS w 6 k)) [Hm w (.own 17 w.sl.length 0 w.sl.length none) (.own 34 6 0 6 none) (.own 35 6 0 6 none)]))
  [aU G n none,bz w,.ah bL,oL n n,aM c,p0] (w.q.hw (xW w w.cr) (λ_=>0) ((E1 w G n).h [])):=by
 let f:Nat->T->qa:=λ_ a=>Hf (di n (L9 (cP w G))) (dq (cP w G) n) (mq (zz 17 (bW w.sl.length w.sl.length (iv (λ_=>false) w))) (λk=>zz 17 (XA (λ_=>false) w w.sl.length k)) (zz 17 (Kz 6 (YF w))) (zz 17 (di 6 (mr w))) (λk=>zz 17 (RS w 6 k)) [Hm w a (.own 34 6 0 6 none) (.own 35 6 0 6 none)])
 refine .trans (h1:=f 0 .undef) (fA:=[aU G n none,bz w,.ah bL,.own 0 n 0 n none,aM c,.ptr 42 0 0 0]) (am.Q2 (fZ.one (p:=(f 0 .undef).take 42) (q:=[]) (b:=Hm w (.own 17 w.sl.length 0 w.sl.length none) (.own 34 6 0 6 none) (.own 35 6 0 6 none)) (b2:=Hm w .undef (.own 34 6 0 6 none) (.own 35 6 0 6 none)) ⟨rfl,rfl,rfl,rfl⟩ rfl λj e=>⟨rfl,λo x y h1 d=>?_⟩)) ?_
 .obtain rfl:j=0:=vL.1 e
  match o,h1,d with
  |0,_,d=>exact .inr (wa d).symm
  |1,h1,d=>exact .inl ((wa h1).symm.trans (wa d))
  |2,h1,d=>exact .inl ((wa h1).symm.trans (wa d))
  |3,h1,d=>exact .inl ((wa h1).symm.trans (wa d))
  |4,h1,d=>exact .inl ((wa h1).symm.trans (wa d))
  |5,h1,d=>exact .inl ((wa h1).symm.trans (wa d))
  |6,h1,d=>exact .inl ((wa h1).symm.trans (wa d))
  |o+7,h1,_=>cases h1
 refine .trans (h1:=CP w G n 6 6) (fA:=[aU G n none,bz w,.ah bL,oL n n,aM c,p0]) ?_ (qqy w G n 6 6 g λx hx=>?_)
 .refine am.bZ Hr rfl rfl rfl (.cons ⟨rfl,rfl,rfl,λh=>h,λj e=>?_⟩ (.cons ⟨rfl,rfl,rfl,λh=>h,λ_ _=>rfl⟩ (.cons ⟨rfl,rfl,rfl,λh=>h,λj e=>?_⟩ ?_ rfl) rfl) rfl)
  .obtain rfl:j=0:=vL.1 e;rfl
  .have e:j<6:=e;show [T.own (3+j) 0 0 (w.q.tb j).length none]=[qJ Hr (f 0 .undef) (.own (17+(19+j)) 0 0 (w.q.tb j).length none)];simp only[qJ,show 17+(19+j)=36+j by omega,qss j e]
  .refine .cons ⟨rfl,rfl,rfl,λh=>h,λ_ _=>rfl⟩ (.cons ⟨rfl,rfl,rfl,λh=>h,λ_ _=>rfl⟩ (.cons ⟨rfl,rfl,rfl,λh=>h,λ_ _=>rfl⟩ (.cons ⟨rfl,rfl,rfl,λh=>h,λ_ _=>rfl⟩ (.cons ⟨rfl,rfl,rfl,λh=>h,λ_ _=>rfl⟩ (.cons ⟨rfl,rfl,rfl,λh=>h,λ_ _=>rfl⟩ (.cons ⟨rfl,rfl,rfl,λh=>h,λj e=>?_⟩ ?_ rfl) rfl) rfl) rfl) rfl) rfl) rfl
   .have e:j<n:=e;show [T.own (10+j) (bif j.blt n then 1 else 0) 0 (cP w G j).length none]=[qJ Hr (f 0 .undef) (.own (1+j) 1 0 (cP w G j).length none)];rw[qL e];simp only[qJ,qsr j ae];rfl
   .repeat (first|exact .nil|refine .cons ⟨rfl,rfl,rfl,λh=>h,λ_ _=>rfl⟩ ?_ rfl)
 .simp only[wK,xa,or_false] at hx;rcases hx with h|h|h|h|h|h
  .exact .inr (.inl (by rw[h];rfl))
  .exact .inr (.inl (by rw[h];rfl))
  .exact .inl h
  .exact .inr (.inr (.inr h))
  .exact .inr (.inl (by rw[h];rfl))
  .exact .inr (.inr (.inl h))
section
variable (K:Nat) (right ai:Bool) (G:Nat->ao) (n:Nat) (z:OS)
def XH(ok:∀k,k<n->tH z.r k)(pre:∀k,k<n->ai=true->(G k).y=ofNat K+1->m6 (G k) (z.r.sl k)):∀i,i<=n->∀k,k<n->tH (fw K right ai G n z i).r k ∧
 (¬(ai=true/\(G k).y=ofNat K+1)->(fw K right ai G n z i).r.sl k=z.r.sl k/\(fw K right ai G n z i).r.bn k=z.r.bn k)
 |0,_,k,d=>⟨ok k d,λ_=>⟨rfl,rfl⟩⟩
 |i+1,E,k,d=>by
  obtain⟨h1,e⟩:=XH ok pre i ae k d
  let j:=jx right n i
  have x:j<n:=EX ae;obtain⟨H,C,B,_,_⟩:=EY K right ai (G j) j (fw K right ai G n z i);show tH (lO K right ai (G j) j (fw K right ai G n z i)).r k/\(_->(lO K right ai (G j) j (fw K right ai G n z i)).r.sl k=_/\(lO K right ai (G j) j (fw K right ai G n z i)).r.bn k=_);by_cases c:k=j
  .subst c;obtain⟨s,I,o⟩:=EZ K right ai G n z i ae i (wc _) ae;have s:(fw K right ai G n z i).r.sl j=z.r.sl j:=s;have o:(fw K right ai G n z i).r.bn j=z.r.bn j:=o;by_cases m:ai=true/\(G j).y=ofNat K+1
   ·have p:=pre j x m.1 m.2;refine⟨?_,λh=>absurd m h⟩;have es:(lO K right ai (G j) j (fw K right ai G n z i)).r.sl j=(nZ K right (G j) (fw K right ai G n z i).q (z.r.sl j)).2:=by
     rw[C];unfold lL;rw[wl m,s]
    have f:=PV K right (G j) (fw K right ai G n z i).q p.g.1;refine⟨by rw[es];exact f.b p.g,?_,by rw[es];exact f.ne p.ne⟩;rw[es];unfold lO;rw[wl m];by_cases a:(G j).k=3
    .rw[wl a,f.len];show sQ (G j) (z.r.sl j)<=aB (fw K right ai G n z i).r.bn j 1 j;rw[Yg];unfold sQ;rw[wl a];exact wc _
    .rw[we a,WK p.g.1 a];show _<=(fw K right ai G n z i).r.bn j;rw[o];exact(ok j x).n
   .have A:(lO K right ai (G j) j (fw K right ai G n z i)).r=(fw K right ai G n z i).r:=by unfold lO;rw[we m]
    rw[A];exact⟨h1,λ_=>e m⟩
  .obtain⟨u,D,k3⟩:=B k c;exact⟨h1.uo u k3,λh=>⟨u.trans (e h).1,k3.trans (e h).2⟩⟩
end
structure Bz(w:bD)(G:Nat->ao)(n K:Nat)(z:uQ):Prop where
 o:z.r.o=n
 rn:z.r.n=n
 ok:∀k,k<n->tH z.r k
 new:∀k,k<n->(K:Int)<(G k).y->z.r.sl k=cP w G k/\z.r.bn k=(cP w G k).length
def zI(w:bD)(G:Nat->ao)(n:Nat)(right:Bool):Nat->uQ
 |0=>⟨w.q,E1 w G n,λ_=>0⟩
 |K+1=>ut G n right K (zI w G n right K)
def Md(w:bD)(G:Nat->ao)(n:Nat)(right:Bool)(pre:∀k,k<n->m6 (G k) (cP w G k)):∀K,Bz w G n K (zI w G n right K)
 |0=>⟨rfl,rfl,λk a=>⟨(pre k a).g.1,by show(cP w G k).length<=(bif k.blt n then(cP w G k).length else 0);rw[qL a];exact wc _,(pre k a).ne⟩,λk a _=>⟨rfl,by show(bif k.blt n then(cP w G k).length else 0)=_;rw[qL a];rfl⟩⟩
 |K+1=>by
  have d:=Md w G n right pre K;show Bz w G n (K+1) (ut G n right K (zI w G n right K));generalize zI w G n right K=z at d;unfold ut;split
  .exact⟨d.o,d.rn,d.ok,λk a h=>d.new k a ae⟩
  .let e:=si G n right K (nW z.q right K) z.r
   have key:=XH K right true G n ⟨e,z.r,0⟩ d.ok (λk a _ u=>by
    have:=(d.new k a (by rw[u];simp only[wu];omega)).1;show m6 (G k) (z.r.sl k);rw[this];exact pre k a) n (wc _)
   obtain⟨A,x⟩:=P6 K right true G n ⟨e,z.r,0⟩ n;refine⟨A.trans d.o,x.trans d.rn,λk a=>(key k a).1,λk a h=>?_⟩;obtain⟨i,f⟩:=(key k a).2 λm=>by have:=m.2;simp only[wu] at this;omega
   obtain⟨s,j⟩:=d.new k a ae;exact⟨i.trans s,f.trans j⟩
def Bz.fit{w:bD}{G:Nat->ao}{n K:Nat}{z:uQ}(h:Bz w G n K z)(pre:∀k,k<n->m6 (G k) (cP w G k)):∀k,k<n->(G k).y=ofNat K+1->ow (G k) z.r k:=λk a d=>by
 obtain⟨f,e⟩:=h.new k a (by rw[d];simp only[wu];omega);unfold ow;rw[f,e];refine⟨λc=>?_,(pre k a).Rg⟩;obtain⟨x,hx⟩:=(pre k a).one c;exact⟨x,hx,by rw[hx];rfl⟩
def Ri(w:bD)(G:Nat->ao)(n:Nat)(right:Bool):∀K,(zI w G n right K).q=((List.range K).foldl (lM ((List.range n).map G) right) (w.q,(List.range n).map (cP w G))).1 ∧
 (List.range n).map (zI w G n right K).r.sl=((List.range K).foldl (lM ((List.range n).map G) right) (w.q,(List.range n).map (cP w G))).2
 |0=>⟨rfl,rfl⟩
 |K+1=>by
  obtain⟨h1,e⟩:=Ri w G n right K;rw[xj,xL];show(ut G n right K (zI w G n right K)).q=(lM ((List.range n).map G) right _ K).1/\(List.range n).map (ut G n right K (zI w G n right K)).r.sl=(lM ((List.range n).map G) right _ K).2;generalize B:zI w G n right K=z at *
  generalize C:(List.range K).foldl (lM ((List.range n).map G) right) (w.q,(List.range n).map (cP w G))=p at *
  obtain⟨k,o⟩:=p;have h1:z.q=k:=h1;have e:(List.range n).map z.r.sl=o:=e;subst h1;subst e;unfold ut lM;split
  .exact⟨rfl,rfl⟩
  ·have u:(if (z.q.Y K).i=false then z.q.dz K ⟨true,zr (!right),(z.q.Y K).ct,true,(z.q.Y K).pe⟩ else z.q)=nW z.q right K:=rfl;have s:(if ((nW z.q right K).Y K).pl≠zr (!right) then(ni K (!right) false ((List.range n).map G) (nW z.q right K) ((List.range n).map z.r.sl)).1 else nW z.q right K)=si G n right K (nW z.q right K) z.r:=by
    unfold si;rw[(WO K (!right) false G n (nW z.q right K) z.r 0).1]
   simp only[u,s];obtain⟨A,x⟩:=WO K right true G n (si G n right K (nW z.q right K) z.r) z.r 0;unfold Xx;refine⟨by rw[A],?_⟩;have f:=(P3 K right true ((List.range n).map G) ((List.range n).map z.r.sl) au (si G n right K (nW z.q right K) z.r)).1;refine WC (d:=[]) (by rw[f];simp) λi a j=>?_;have g:i<n:=by have:=jX j;rw[f] at this;simpa using this
   rw[Zh _ _ g,x i g,wh,j];rfl
def As:Wa:=[0,9,10,11,12,13,14,15,16,17,18,19,20,21,22,23,24,25]
def qst:∀j,j<16->QU As (10+j)=some (2+j):=by decide
def mM(l:Nat->List aF)(i:Nat):List aF:=((List.range i).map l).flatten
def Me(l:Nat->List aF)(i:Nat):mM l (i+1)=mM l i++l i:=by unfold mM;rw[xj,vF,xN];simp
section
variable (w:bD) (G:Nat->ao) (n:Nat) (x:Wx) (z:uQ)
def Mf(z:uQ)(x:Wx):Nat->JO:=λj=>((z.q.Y (0+j)).y.c).map (resolve 3 As (z.h x))
def Mg(z:uQ)(x:Wx):Nat->JO:=λj=>[resolve 3 As (z.h x) (.own (3+(0+j)) (z.v (0+j)) 0 (z.q.tb (0+j)).length none)]
def qqA{aa:Wa}{nt:Nat}(c:List aV)(hx:x=xW w c)(f:n<=16)(e:z.r.o=n)(hr:z.r.n=n) :
 am G17 aa nt [2,4,6,9] 0 [bz w,.ah bL,oL n n,p0] (z.h x) [bz w,.ah bL,.own 1 n 0 n none,p0] (rk .undef (Mf z x) (Mg z x) c w.he w.fa w.d::Hf (oT n z.r.vs λj=>(z.r.sl j).length) z.r.row []):=by
 subst hx;refine am.bZ As rfl rfl rfl (.cons ⟨rfl,rfl,rfl,λh=>h,λj a=>?_⟩ (.cons ⟨e.symm,rfl,hr.symm,λh=>h,λj a=>?_⟩ ?_ rfl) rfl)
 .obtain rfl:j=0:=vL.1 a;rfl
 .have a:j<z.r.n:=a;show [T.own (2+j) (z.r.vs j) 0 (z.r.sl j).length none]=[qJ As (z.h (xW w c)) (.own (10+j) (z.r.vs j) 0 (z.r.sl j).length none)];simp only[qJ,qst j ae]
 .repeat (first|exact .nil|refine .cons ⟨rfl,rfl,rfl,λh=>h,λ_ _=>rfl⟩ ?_ rfl)
def XI{e g:T}{g1 g2:Nat->JO}{cr:List aV}{h2 he fa:List aL}{a d:Int}{H:qa}:ak (DO e g g1 g2 cr h2 he fa a d::H) (rk e g1 g2 cr h2 fa a::H) :=
 .cons ⟨rfl,rfl,rfl,λh=>h,λj f=>by obtain rfl:j=0:=vL.1 f;rfl⟩ (ak.pre H .nil |> λh=>by rw[vu] at h;exact h) rfl
def qne(h0:qa)(hh:h0.length=0)(c:List aV)(hn:n<=16)(r:Rw)(ok:∀k,k<n->tH r k)(aZ:∀k,k<n->r.sl k≠[])(g1 g2:Nat->JO)(hd:w.d=0∨w.d=1) :
 Pq 45 h0 [2,2,2,2,2,2,2,2] [2,4,6,9] [bz w,.ah bL,.own 1 n 0 n none,p0] (rk .undef g1 g2 c w.he w.fa w.d::Hf (oT n r.vs λj=>(r.sl j).length) r.row [])
  .ret [4,5] [.ah [bR (mM r.sl n) none,.view 5 6 g1 none,.view 1 6 g2 none,aM c,aX (bO (mM r.sl n)),aX w.fa,uI (1-w.d)],iI 0] [rk (bR (mM r.sl n) none) g1 g2 c (bO (mM r.sl n)) w.fa (1-w.d)]:=by
 have run:=λ{p l vs h l1 X h1 e} (k:cD 45 p l vs h l1=some (e,X,h1))=>cf h0 k;have Y:OO (KG qv):=qC qp (λ_ _ _ _ h=>(by cases h))
 let g:Nat->Nat:=λj=>(r.sl j).length
 let C:=Hf (oT n r.vs g) r.row
 let a:Nat->List aF:=mM r.sl
 have P:∀k,k<n->(r.sl k).length<=4:=λk J=>(ok k J).b.1;have U:∀i,i<=n->(a i).length<=4*i:=λi=>by
  induction i with
  |zero=>intro _;exact wc _
  |succ i I =>
   intro o;have:=I ae;have:=P i ae;show(mM r.sl (i+1)).length<=_;rw[Me,wD];show(a i).length+_<=_;omega
 let sB:Nat->aq:=λi=>bW i (a i).length (λj=>((a i).getD j be).c)
 have Rj:=Pz.post (run (qvn .undef rfl g1 g2 c w.he w.fa w.d (bz w) (.ah bL) (.own 1 n 0 n none) (C []))) (v2:=[bz w,.ah bL,.own 1 n 0 n none,p0]) (h2:=rk (.own 18 0 0 0 none) g1 g2 c w.he w.fa w.d::C [sB 0]) λnt=>by
  refine am.gh [sB 0] (λb M=>by rw[wM.1 M];exact⟨rfl,rfl⟩) (.Ue (.Ue (.Ue (.Ue .nil)))) (.I0 ⟨rfl,rfl,rfl,rfl⟩ rfl (λj u=>?_) (cT.refl _));obtain rfl:j=0:=vL.1 u;exact .cons (.own (k:=18) (b:=sB 0) (by show 18<=18;omega) rfl rfl) (.refl _)
 let V:Nat->JO:=λi=>[bz w,.ah bL,.own 1 n 0 n none,p0,iI (ofNat i)]
 let H:Nat->qa:=λi=>rk (.own 18 i 0 (a i).length none) g1 g2 c w.he w.fa w.d::C [sB i]
 have round:∀i,i<n->Pq 45 h0 [0,0,2,1,2,2,2,2,2,2,2,2,2] [2,4,6,9,16] (V i) (H i) .normal [2,4,6,9,16] (V (i+1)) (H (i+1)):=λi o=>by
  have pA:=run ((qvq (rk (.own 18 i 0 (a i).length none) g1 g2 c w.he w.fa w.d) n r.vs g (bz w) (.ah bL) p0 i (r.row 0::r.row 1::r.row 2::r.row 3::r.row 4::r.row 5::r.row 6::r.row 7::r.row 8::r.row 9::r.row 10::r.row 11::r.row 12::r.row 13::r.row 14::r.row 15::[sB i])).trans (qk au (qk (CL o) rfl)));have B:=qvr i ae i (a i).length (r.bn i) n r.vs g (λj=>((a i).getD j be).c) (r.sl i) r.row g1 g2 c w.he w.fa w.d (bz w) (.ah bL);rw[LL] at B;have f1:=U i ae;have f2:=P i o;have f3:0<g i:=ue.2 (aZ i o);have B:=B.trans (qk au (qk (uP o) (qk au (qk (qL o) (qk au (qk (qO (by have:=(ok i o).n;show 0+(r.sl i).length<=_;omega)) (qk au (qk (qO (show 0+(a i).length<=(a i).length by omega)) (qF (by simp;omega) (qk (qO (show((a i).length+g i)*33<=70368744177664 by show((a i).length+(r.sl i).length)*33<=_;omega)) (qF (by rw[ZG (show(a i).length<0+(a i).length+g i by omega)];simp) rfl)))))))))));have Z:=Pz.post (eD Y h0 B) (v2:=V i) (h2:=H (i+1)) λnt=>by
   refine .same ?_;have R:(a (i+1)).length=(a i).length+g i:=by show(mM r.sl (i+1)).length=_;rw[Me,wD]
   show ak _ (rk (.own 18 (i+1) 0 (a (i+1)).length none) g1 g2 c w.he w.fa w.d::C [sB (i+1)]);rw[R];refine .cons ⟨rfl,rfl,rfl,λh=>h,λj u=>by obtain rfl:j=0:=vL.1 u;rfl⟩ ?_ rfl;have kk:ak [bW (i+1) ((a i).length+g i) (Xv (a i).length (λj=>((a i).getD j be).c) (r.sl i))] [sB (i+1)]:=by
    refine .cons ⟨rfl,rfl,R,λh=>h,λj u=>?_⟩ .nil rfl;show((mM r.sl (i+1)).getD j be).c=bif j.blt (a i).length then((a i).getD (0+j) be).c else((r.sl i).getD (0+(j-(a i).length)) be).c;rw[Me,Lu];by_cases q:j<(a i).length
    .rw[wl q,qL q,wn];rfl
    .rw[we q,QP ae,wp,wn (j-(a i).length)]
   exact ak.pre (Hf (oT n r.vs g) r.row []) kk
  have O:=run (qvp (bz w) (.ah bL) (.own 1 n 0 n none) p0 i (H (i+1)));rw[il ae] at O;exact av pA (av (fi 5 Z) O)
 let f:=a n
 have last:=Pz.post (run ((qsp (rk (.own 18 n 0 (a n).length none) g1 g2 c w.he w.fa w.d) n r.vs g (bz w) (.ah bL) p0 n (r.row 0::r.row 1::r.row 2::r.row 3::r.row 4::r.row 5::r.row 6::r.row 7::r.row 8::r.row 9::r.row 10::r.row 11::r.row 12::r.row 13::r.row 14::r.row 15::[sB n])).trans (qk au (qF (CM (wc _)) rfl))))
  (v2:=[bz w,.ah bL,p0]) (h2:=[rk (bR f none) g1 g2 c w.he w.fa w.d]) λnt=>by
  rw[hh];refine .trans (h1:=[rk (.view 2 f.length (λj=>((f.getD (0+j) be).c).map (resolve 3 [0] (H n))) none) g1 g2 c w.he w.fa w.d]) (fA:=[bz w,.ah bL,p0]) (am.bZ [0] rfl rfl rfl (.cons ⟨rfl,rfl,rfl,λh=>h,λj u=>?_⟩ .nil rfl)) (.sl (.refl _) (.cons ⟨rfl,rfl,rfl⟩ (λh=>by cases h) (λj u=>?_) (.refl _)))
  .show [T.view 2 f.length _ none,_,_,_,_,_,_]=[bif n==n&&Nat.ble (0+f.length) f.length then T.view 2 f.length (λj=>((f.getD (0+j) be).c).map (resolve 3 [0] (H n))) none else .undef,_,_,_,_,_,_];rw[wF,qO ae];rfl
  .refine .cons ?_ (.refl _);refine .view (.inr rfl) λe he=>?_;rw[wn];exact .refl _
 have lp:Pq 45 h0 [0,2,1,2,2,2,2,2,2,2,2,2] [2,4,6,9,16] (V 0) (H 0) (.exit 4) [2,4,9] [bz w,.ah bL,p0] [rk (bR f none) g1 g2 c w.he w.fa w.d]:=Pz.count qh V H (n:=n) au round (lk last);have Ht:=run (qvo (bz w) (.ah bL) (.own 1 n 0 n none) p0 (H 0));obtain⟨Rk,W⟩:=qE aw G17 81;have Q:=U n (wc _);have Rl:(bO f).length<=1000000:=by
  have M:∀x∈f,x.l.length<=4:=λx hx=>by
   obtain⟨l',h1,A⟩:=List.mem_flatten.1 hx;obtain⟨k,J,rfl⟩:=vb.1 h1;exact((ok k (vQ.1 J)).b.2 x A).2
  have:∀l:List aF,(∀x∈l,x.l.length<=4)->(bO l).length<=4*l.length:=λl=>by
   induction l with
   |nil=>intro _;exact wc _
   |cons s l I =>
    intro h;have h1:=I λx hx=>h x (wT _ hx);have A:=h s au;rw[yc,wD,vc];omega
  have:=this f M;have:f.length<=4*n:=Q;omega
 have D:=Vo f none (by have:f.length<=4*n:=Q;omega) Rl;have E:=Pz.post (eD (qr qp (qq W)) h0 ((qvs Rk 0 0 f g1 g2 c (bO f) w.he w.fa w.d (bz w) (.ah bL)).trans (qk (qu W D) rfl))) λnt=>.same (XI (H:=[]));have S:=qvt w (.ah bL) f g1 g2 c (bO f) w.fa w.d;rw[show u8.wrap (1-w.d)=1-w.d from s9 ae ae] at S;have Rb:=Pz.post (run S) λnt=>.same (XI (H:=[]));have Rc:=run (qvu f g1 g2 c (bO f) w.fa (1-w.d));exact av Rj (av (av Ht (fi 4 lp)) (av E (av Rb Rc)))
end
def Rm:T:=.ah [iI (-13),iI 179]
def DQ(w:bD)(G:Nat->ao)(n:Nat)(right:Bool):bD:=⟨mM (zI w G n right 6).r.sl n,(zI w G n right 6).q,ia w G n,bO (mM (zI w G n right 6).r.sl n),w.fa,1-w.d⟩
def qqC(w:bD)(G:Nat->ao)(n:Nat)(right:Bool)(hw:Ar w)(fit:mL w G n)(z:w.d=rI right)(gn:∀K,K<6->Ho (zI w G n right K).q K 1000)(aZ:∀k,k<n->(zI w G n right 6).r.sl k≠[]) :
 TO 45 [.agg (w.cc none),aU G n none] (.aK [.agg ((DQ w G n right).cc none),iI 0]):=by
 have run:=λ{p l I h U J h1 e} (k:cD 45 p l I h U=some (e,J,h1))=>cf [] k;have g:=fit.GY;have X:=hw.N
 let N:=w.sl.length
 let c:=ia w G n
 let x:=xW w c
 have pre:∀k,k<n->m6 (G k) (cP w G k):=λk W=>Hn (fit.at W) hw.l;obtain⟨Rj,E⟩:=YM aw G17 82;obtain⟨Rn,D⟩:=YM aw G17 20;have s:=qsa w G n hw fit;have t22:=Pw (λ_=>false) w X (λj f=>⟨(hw.l j f).1,by have:=(hw.l j f).2;omega⟩) (λe=>by have:=hw.pe e;omega) (λe=>by have:=hw.tb e;omega) (by have:=hw.cr;omega) hw.he hw.fa;have Ro:=t22.push (by show([T.agg (w.cc none)]:JO).all aH=true;rfl) rfl (λb u=>by
  have h1:EO (bW N N (iv (λ_=>false) w)):=⟨rfl,λj _=>rfl⟩;have C:∀k,EO (XA (λ_=>false) w N k):=λk=>⟨rfl,λj _=>rfl⟩;have h3:EO (Kz 6 (YF w)):=⟨rfl,λj _=>rfl⟩;have h4:EO (di 6 (mr w)):=⟨rfl,λj _=>rfl⟩;have Z:∀k,EO (RS w 6 k):=λk=>⟨rfl,λj _=>rfl⟩;revert b;refine vI.2 ⟨h1,?_⟩
  repeat (first|exact List.forall_mem_nil _|refine vI.2 ⟨C _,?_⟩|refine vI.2 ⟨h3,?_⟩|refine vI.2 ⟨h4,?_⟩|refine vI.2 ⟨Z _,?_⟩)) (DN w G n)
 have S:=run (ro0 w (aU G n none));have R:=eD (qC qp (zg E)) [] ((ro1 Rj w G n c (DN w G n)).trans (qk (zM E s) rfl));have Q:=run (qvb (aU G n none) (bz w) (.ah bL) (.own 0 n 0 n none) (aM c) (DN w G n));have P:=Pz.post (eD (qC qp (zg D)) [] ((ro4 Rn w (.ah bL) (.own 0 n 0 n none) (aM c) G n N (di n (L9 (cP w G))) (dq (cP w G) n) (zz 17 (bW N N (iv (λ_=>false) w))) (λk=>zz 17 (XA (λ_=>false) w N k)) (zz 17 (Kz 6 (YF w))) (zz 17 (di 6 (mr w))) (λk=>zz 17 (RS w 6 k))).trans (qk (zM D Ro) rfl)))
  λnt=>qqz (l:=[]) w G n g c
 have O:=Pz.post (run (ro5 [] w.cr c w.he w.fa w.d (λe=>(w.q.Y e).y) (λe=>(w.q.tb e).length) (λ_=>0) (λe j=>((w.q.tb e).getD j eG).l) ((E1 w G n).h []) (aU G n none) (bz w) (.ah bL) (oL n n))) (v2:=[aU G n none,bz w,.ah bL,oL n n,p0]) (h2:=(zI w G n right 0).h x) λnt=>.same (.cons ⟨rfl,rfl,rfl,λh=>h,λj f=>by obtain rfl:j=0:=vL.1 f;rfl⟩ (by
  have:=ak.pre (((zI w G n right 0).h x).drop 1) .nil;rw[vu] at this;exact this) rfl)
 have q6:=run (ro6 w (aU G n none) (.ah bL) (oL n n) p0 ((zI w G n right 0).h x));rw[z,show i64.wrap (rI right)=rI right by cases right<;>exact Qp (by decide) (by decide)] at q6;have q7:=run (ro7 (aU G n none) (bz w) (.ah bL) (oL n n) p0 (iI (rI right)) ((zI w G n right 0).h x));have q8:=run (ro8 (aU G n none) (bz w) (.ah bL) (oL n n) p0 (iI (rI right)) Rm ((zI w G n right 0).h x))
 let V:Nat->JO:=λK=>[aU G n none,bz w,.ah bL,oL n n,p0,iI (rI right),Rm,yK K]
 let H:Nat->qa:=λK=>(zI w G n right K).h x
 have round:∀K,K<6->Pq 45 [] [0,0,2,1,2,2,2,2,2,2,2] [1,2,4,6,9,10,11,12] (V K) (H K) .normal [1,2,4,6,9,10,11,12] (V (K+1)) (H (K+1)):=λK B=>by
  have inv:=Md w G n right pre K;exact qoH w G n right [] (wR _) fit.ok g x (qsq w c) K B (zI w G n right K) inv.o inv.rn inv.ok (inv.fit pre) (gn K B)
 have inv:=Md w G n right pre 6;have last:=Pz.post (run ((qvc (aU G n none) (bz w) (.ah bL) (oL n n) p0 (iI (rI right)) Rm (ofNat 6+1) (H 6)).trans (qF (hZ bH) rfl)))
  λnt=>qqA w n x (zI w G n right 6) c rfl g inv.o inv.rn
 have lp:Pq 45 [] [0,2,1,2,2,2,2,2,2,2] [1,2,4,6,9,10,11,12] (V 0) (H 0) (.exit 0) [2,4,6,9] _ _:=Pz.count qh V H (n:=6) au round (lk last);have M:=qne w n [] rfl c g (zI w G n right 6).r inv.ok aZ (Mf (zI w G n right 6) x) (Mg (zI w G n right 6) x) (by rw[z];cases right<;>simp[rI]);have t:=Pz.told (A:=az) Qn Tryz.func45 qh qh (l:=[0,1]) rfl
  (av S (av R (av Q (av P (av O (av q6 (av q7
   (av (av q8 (fi 0 lp)) M))))))))
  (r:=.aK [.agg [bR (mM (zI w G n right 6).r.sl n) none,.view 5 6 (Mf (zI w G n right 6) x) none,.view 1 6 (Mg (zI w G n right 6) x) none,aM c,aX (bO (mM (zI w G n right 6).r.sl n)),aX w.fa,uI (1-w.d)],iI 0]) rfl
 let a:=zI w G n right 6
 refine t.DD (.Ue (.cons (.view (.view (.inr rfl) λj f=>?_)) (.cons (.view (.view (.inr rfl) λj f=>?_)) (.Ue (.Ue (.Ue (.Ue .nil)))))))
 .rw[show Mf a x j=((a.q.Y (0+j)).y.c).map (resolve 3 As (a.h x)) from rfl,wn];exact .refl _
 ·rw[show Mg a x j=[resolve 3 As (a.h x) (.own (3+(0+j)) (a.v (0+j)) 0 (a.q.tb (0+j)).length none)] from rfl,wn];show eO [resolve 3 As (a.h x) (.own (3+j) (a.v j) 0 (a.q.tb j).length none)] [OW (λi=>((a.q.tb j).getD i eG).l) (a.q.tb j).length none];have u:(a.h x)[3+j]?=some (rB (λe=>(a.q.tb e).length) a.v (λe j=>((a.q.tb e).getD j eG).l) j)/\As.contains (3+j)=false:=by
   cases zy f
   all_goals exact⟨rfl,rfl⟩
  have e1:resolve 3 As (a.h x) (.own (3+j) (a.v j) 0 (a.q.tb j).length none)=(bif (true&&(a.v j==a.v j&&Nat.ble (0+(a.q.tb j).length) (a.q.tb j).length)) then T.view 4 (a.q.tb j).length (λi=>(((a.q.tb j).getD (0+i) eG).l.c).map (resolve 2 As (a.h x))) none else .undef):=by
   simp only[resolve,u.1,u.2];rfl
  rw[e1,wF,qO (show 0+(a.q.tb j).length<=(a.q.tb j).length by omega)];refine .cons (.view (.inr rfl) λi hi=>?_) .nil;rw[wn];exact .refl _
structure im(w:bD)(ord:List aL)(P C:Nat):Prop where
 i:Bv w ord
 yj:∀y,y<6->EV P (w.q.Y y) (w.q.tb y) ord
 cp:w.cr.Pairwise tG
 cb:∀x∈w.cr,-(C:Int)<=x.n/\x.n<=(C:Int)
 cl:w.cr.length<=C
def qqD{w:bD}{A:Nat->Bool}{d:ao}{a:Nat}(fit:pQ w A d a)(o:d.k≠3):lz d (fJ d (w.sl.drop a))≠[]:=by
 have r:=fit.le;have i:=ao.sS fit.v;have j:=KD d (w.sl.drop a) (by rw[vo];omega);unfold lz;by_cases g:d.k=4∨d.k=5
 .rw[wl g];simp
 .rw[we g];rw[we o,we g] at i;by_cases f:d.k=8
  .rw[wl f];obtain⟨u,s,_,_,_,_,_,e⟩:=ao.Aq fit.v fit.ok f;intro q;have:=vD List.length q;rw[wD,vo,vB] at this;simp only[vE] at this;omega
  .rw[we f];rw[we f] at i;intro q;rw[q,i] at j;cases j
def qqE{w:bD}{A:Nat->Bool}{d:ao}{a:Nat}(fit:pQ w A d a):1<=sQ d (lz d (fJ d (w.sl.drop a))):=by
 unfold sQ;by_cases e:d.k=3
 .rw[wl e];exact wc _
 .rw[we e];exact ue.2 (qqD fit e)
def qqF(a:ao)(l:List aF):(bO (lz a l)).Perm (bO l):=by
 unfold lz;split
 .show((l.map aF.l).flatten++[]).Perm _;rw[vu];exact .refl _
 .split
  .rw[yR];refine xU.trans ?_;rw[←yR,xw]
  .exact .refl _
def XL(a:ao)(S:List aF):bO (fJ a S)=bO (S.take a.nN):=by
 unfold fJ bO;rw[List.map_map];rfl
def XM(w:bD)(G:Nat->ao):∀i,(bO ((List.range i).map (cP w G)).flatten).Perm (bO (w.sl.take (dA G i)))
 |0=>.refl _
 |i+1=>by
  have a:=XM w G i;rw[xj,vF,xN,yR];show(_++bO ([cP w G i]:List (List aF)).flatten).Perm (bO (w.sl.take (dA G i+(G i).nN)));rw[List.take_add,yR,show([cP w G i]:List (List aF)).flatten=cP w G i by simp];refine(vy _ a).trans (xf _ ?_);refine(qqF _ _).trans ?_;rw[XL]
def Mi{α:Type}(f:α->Nat)(N:Nat):∀l:List α,(∀x∈l,f x<=N)->(l.map f).sum<=N*l.length
 |[],_=>by simp
 |x::l,h=>by
  have:=Mi f N l λy a=>h y (wT _ a);have d:=h x au;rw[xA,List.sum_cons,vc,Nat.mul_succ];omega
section
variable {w:bD} {G:Nat->ao} {n:Nat} {ord:List aL} {P C:Nat}
def Rp{G:Nat->ao}{i:Nat}{s:ao}(h:((List.range n).map G)[i]?=some s):i<n/\s=G i:=by
 have a:i<n:=by have:=jX h;simpa using this
 rw[wE,vW a] at h;exact⟨a,(wa h).symm⟩
def XN{l:Nat->List aF}{i:Nat}{s:List aF}(h:((List.range n).map l)[i]?=some s):i<n/\s=l i:=by
 have a:i<n:=by have:=jX h;simpa using this
 rw[wE,vW a] at h;exact⟨a,(wa h).symm⟩
def im.DR(h:im w ord P C)(g:P<=4096)(hC:C<=500000):Ar w where
 N:=h.i.sn.2
 l:=λj f=>by
  have:=h.i.sb _ (ya (d:=be) f);exact⟨this.2.1,this.2.2⟩
 pe:=λe=>by
  by_cases c:e<6
  .cases a:(w.q.Y e).i with
   |true=>have:=((h.yj e c).py a).2.1;omega
   |false=>rw[((h.yj e c).out a).2.2.1];simp
  .rw[h.i.yo e ae];simp[yz]
 tb:=λe=>by have:=h.i.oD.len e;have:=h.i.len;omega
 cr:=by have:=h.cl;omega
 he:=by
  have:=h.i.part.length_eq;simp only[wD] at this;have:=h.i.len;omega
 fa:=by
  have:=h.i.part.length_eq;simp only[wD] at this;have:=h.i.len;omega
def im.pR(h:im w ord P C)(fit:mL w G n)(right:Bool)(ed:dA G n=w.sl.length)(u:∀k,k<n->1<=(G k).y/\(G k).y<=6)(D:P+32*n<=4096):∀K,K<=6->∃e,b8 (λy=>if y<K then P+32*n else P) (zI w G n right K).q (bO (mM (zI w G n right K).r.sl n)) w.fa e ∧
 e.length<=ord.length+((List.range K).map λK=>((((List.range n).map G).zip ((List.range n).map (cP w G))).map (kV true K)).sum).sum ∧
 ∀k,k<n->((G k).y<=(K:Int)->uq (G k) (cP w G k) ((zI w G n right K).r.sl k)):=by
 intro K E;have z:∀j,j<w.sl.length->1<=(bl w j).l.length/\(bl w j).l.length<=3:=λj B=>by
  have:=h.i.sb _ (ya (d:=be) B);exact⟨this.2.1,this.2.2⟩
 have pre:∀k,k<n->m6 (G k) (cP w G k):=λk a=>Hn (fit.at a) z;have I:(bO ((List.range n).map (cP w G)).flatten).Perm w.he:=by
  refine(XM w G n).trans ?_;rw[ed,xm,h.i.held]
 have A:b8 (λ_=>P) w.q (bO ((List.range n).map (cP w G)).flatten) w.fa ord:=by
  refine b8.perm (H:=w.he) ⟨h.i.oD,h.i.part,h.i.yo,h.yj⟩ I.symm
 obtain⟨e,m,l,ln,o⟩:=WH ((List.range n).map G) right (w.q,(List.range n).map (cP w G)) au A (λi s l h1 J=>by
  obtain⟨f,rfl⟩:=Rp h1;obtain⟨_,rfl⟩:=XN J;exact(pre i f).g) (λi s h1=>by
  obtain⟨f,rfl⟩:=Rp h1;exact(u i f).1) (λy _=>by simpa using D) K E
 obtain⟨M,x⟩:=Ri w G n right K;rw[←M,←x] at m;rw[←x] at o;refine⟨e,?_,l,λk a Q=>?_⟩
 .simp only[wQ,xt] at m;exact m
 .have O:((List.range n).map G)[k]?=some (G k):=by rw[wE,vW a];rfl
  have N:((List.range n).map (cP w G))[k]?=some (cP w G k):=by rw[wE,vW a];rfl
  have:=(o k _ _ O N).1 ⟨(u k a).1,Q⟩;rw[Zh _ _ a] at this;exact this
def XO(f:n<=16)(pre:∀k,k<n->sP (cP w G k))(K:Nat):((((List.range n).map G).zip ((List.range n).map (cP w G))).map (kV true K)).sum<=4*n:=by
 have:=Mi (kV true K) 4 (((List.range n).map G).zip ((List.range n).map (cP w G))) λx hx=>by
  obtain⟨i,h1,d⟩:=WE hx;obtain⟨a,_⟩:=Rp h1;obtain⟨_,e⟩:=XN d;have:=(pre i a).1;rw[←e] at this;unfold kV sQ;split
  .split<;>omega
  .omega
 simpa using this
def im.gn(h:im w ord P C)(fit:mL w G n)(right:Bool)(ed:dA G n=w.sl.length)(o:∀k,k<n->1<=(G k).y/\(G k).y<=6)(z:P+32*n<=4096):∀K,K<6->Ho (zI w G n right K).q K 1000:=λK A=>by
 have f:∀j,j<w.sl.length->1<=(bl w j).l.length/\(bl w j).l.length<=3:=λj u=>by
  have:=h.i.sb _ (ya (d:=be) u);exact⟨this.2.1,this.2.2⟩
 obtain⟨H,m,l,_⟩:=h.pR fit right ed o z K ae;have r:=fit.GY;have c:=Mi (λK=>((((List.range n).map G).zip ((List.range n).map (cP w G))).map (kV true K)).sum) (4*n) (List.range K) λx _=>XO r (λk s=>(Hn (fit.at s) f).g.1) x;rw[xt] at c;have E:4*n*K<=4*16*6:=Nat.mul_le_mul ae ae;have D:=h.i.len;have B:=m.oD.len K;have a:=m.yr K A;unfold Ho;rw[a.ct];refine⟨ae,ae,ae,?_⟩;cases e:((zI w G n right K).q.Y K).i with
 |true =>
  have:=(a.py e).2.1;rw[we ae] at this;omega
 |false=>rw[(a.out e).2.2.1];simp
def im.ne(h:im w ord P C)(fit:mL w G n)(right:Bool)(ed:dA G n=w.sl.length)(f:∀k,k<n->1<=(G k).y/\(G k).y<=6)(i:P+32*n<=4096):∀k,k<n->(zI w G n right 6).r.sl k≠[]:=λk d e=>by
 obtain⟨_,_,_,g⟩:=h.pR fit right ed f i 6 (wc _);have a:=(g k d (f k d).2).len;rw[e] at a;have:=qqE (fit.at d);have a:0=sQ (G k) (cP w G k):=a;have:1<=sQ (G k) (cP w G k):=this;omega
end
structure uv(c:List aV)(ord:List aL)(B:Nat):Prop where
 m:∀x∈c,x.p∈ord/\x.q∈ord/\Cw x.p x.q<0
 n:∀x∈c,x.n≠0/\-(B:Int)<=x.n/\x.n<=(B:Int)
 p:c.Pairwise tG
 l:c.length<=B
def XQ(a b:aL):Cw a b<0↔a.y<b.y∨a.y=b.y/\a.n<b.n:=O0 a.y a.n b.y b.n
def qqG{a b:aL}(h:Bq a b=false)(d:a≠b):Cw a b<0:=by
 rw[XQ];unfold Bq at h;simp only[wY,Bool.and_eq_false_iff,decide_eq_false_iff_not] at h;by_cases c:a.y=b.y
 .refine .inr ⟨c,?_⟩;have:a.n≠b.n:=λe=>d (by cases a;cases b;simp_all);rcases h.2 with q|q
  .exact absurd c q
  .omega
 .exact .inl ae
def qqH{a b:aL}(h:Bq a b=true):Cw b a<0:=by
 rw[XQ];unfold Bq at h;simp only[vY,wg,wC] at h;rcases h with h|h
 .exact .inl h
 .exact .inr ⟨h.1.symm,h.2⟩
def uv.Hx{c:List aV}{ord:List aL}{B:Nat}(h:uv c ord B){a b:aL}(e:a∈ord)(d:b∈ord)(r:a≠b){s:Int}(f:s=1∨s = -1)(hB:B+1<=1000000):uv (Z9 c a b s) ord (B+1):=by
 have key:∀a b:aL,a∈ord->b∈ord->Cw a b<0->uv (YQ a b s c) ord (B+1):=λa b e d g=>by
  refine⟨λx hx=>?_,λx hx=>?_,We a b s c h.p,wN (Wf a b s c) (Nat.add_le_add_right h.l 1)⟩
  .rcases PP a b s c x hx with⟨o,k,j,i⟩|q
   .have p:x.p=a:=by unfold aV.p;rw[o,k]
    have q:x.q=b:=by unfold aV.q;rw[j,i]
    rw[p,q];exact⟨e,d,g⟩
   .exact h.m x q
  .have:=Wg a b s (B:Int) f ⟨ae,ae⟩ c h.n x hx;exact⟨this.1,ae,ae⟩
 rw[qjA h.p (λx hx=>(h.n x hx).1)];cases hw:Bq a b with
 |true=>exact key b a d e (qqH hw)
 |false=>exact key a b e d (qqG hw r)
def uv.aJ{ord:List aL}{s:Int}(e:s=1∨s = -1):∀(l:List (aL×aL)) (c:List aV) (B:Nat),uv c ord B->(∀p∈l,p.1∈ord/\p.2∈ord/\p.1≠p.2)->B+l.length<=1000000->uv (l.foldl (λc p=>Z9 c p.1 p.2 s) c) ord (B+l.length)
 |[],c,B,h,_,_=>h
 |p::l,c,B,h,f,hB=>by
  have hB:B+(l.length+1)<=1000000:=hB;obtain⟨a,b,d⟩:=f p au;have:=uv.aJ e l (Z9 c p.1 p.2 s) (B+1) (h.Hx a b d e ae) (λq g=>f q (wT _ g)) ae;rw[show B+1+l.length=B+(l.length+1) by omega] at this;exact this
def Mj{α β:Type}(f:α->List β)(N:Nat):∀l:List α,(∀x∈l,(f x).length<=N)->(l.flatMap f).length<=N*l.length
 |[],_=>by simp
 |x::l,h=>by
  have:=Mj f N l λy a=>h y (wT _ a);have d:=h x au;rw[List.flatMap_cons,wD,vc,Nat.mul_succ];omega
def qls(L R:List aF)(i:L.length<=4)(hR:R.length<=4)(e:∀x∈L,x.l.length<=4)(d:∀x∈R,x.l.length<=4):(KA L R).length<=256:=by
 have:(KA L R).length<=64*L.length:=Mj _ 64 L λa g=>by
  have:(R.flatMap λb=>a.l.flatMap λx=>b.l.map λy=>(x,y)).length<=16*R.length:=Mj _ 16 R λb f=>by
   have:(a.l.flatMap λx=>b.l.map λy=>(x,y)).length<=4*a.l.length:=Mj _ 4 a.l λx _=>by rw[wQ];exact d b f
   have:=e a g;omega
  omega
 omega
def qlt{L R:List aF}{p:aL×aL}(h:p∈KA L R):p.1∈bO L/\p.2∈bO R:=by
 unfold KA at h;simp only[xG,vb] at h;obtain⟨a,f,b,e,x,hx,y,d,rfl⟩:=h;exact⟨G1 f hx,G1 e d⟩
def qoI{l m:List aF}(h:l.Sublist m):(bO l).Sublist (bO m):=by
 induction h with
 |slnil=>exact .refl _
 |cons a _ d=>rw[yc];exact d.trans (List.sublist_append_right _ _)
 |cons_cons a _ d=>rw[yc,yc];exact(List.append_sublist_append_left _).2 d
section
variable {w:bD} {G:Nat->ao} {n:Nat} {ord:List aL} {P C:Nat}
def im.EU(h:im w ord P C)(fit:mL w G n)(hC:C+256*n<=1000000):∀i,i<=n->uv (ia w G i) ord (C+256*i)
 |0,_=>⟨λx hx=>by have:=h.i.EU x hx;exact⟨this.1,this.2.1,this.2.2.1⟩,λx hx=>⟨(h.i.EU x hx).2.2.2.1,h.cb x hx⟩,h.cp,h.cl⟩
 |i+1,J=>by
  have k:=h.EU fit hC i ae;have f:=fit.at (i:=i) ae;obtain⟨n4,_⟩:=ao.n4 f.ok;have H:=f.le
  let T:=fJ (G i) (w.sl.drop (dA G i))
  have hT:T.length=(G i).nN:=KD _ _ (by rw[vo];omega);show uv (tF (G i) T (ia w G i)) ord (C+256*(i+1));have mono:∀{c:List aV} {B r:Nat},uv c ord B->B<=r->uv c ord r:=λh D=>⟨h.m,λx hx=>⟨(h.n x hx).1,by have:=(h.n x hx).2.1;omega,by have:=(h.n x hx).2.2;omega⟩,h.p,wN h.l D⟩;unfold tF;split
  .let L:=T.take (G i).a.toNat
   let R:=T.drop (G i).a.toNat
   have e:bO L++bO R=bO T:=by rw[←yR,xw]
   have sub:(bO T).Sublist (bO w.sl):=by
    rw[XL];have s1:((w.sl.drop (dA G i)).take (G i).nN).Sublist w.sl:=(List.take_sublist _ _).trans (List.drop_sublist _ _);exact qoI s1
   have u:(bO w.sl).Nodup:=by
    have p:=h.i.part.nodup_iff.2 h.i.oD.nodup;rw[xB] at p;have p:=p.1;rw[xB] at p;rw[h.i.held];exact p.2.1
   have nd:(bO L++bO R).Nodup:=by rw[e];exact sub.nodup u
   have o:∀a,a∈bO T->a∈ord:=λa E=>h.i.part.mem_iff.1 (by
    have:a∈w.he:=by rw[←h.i.held];exact sub.subset E
    simp only[wS];exact .inl (.inr this))
   have d:∀x∈T,x.l.length<=4:=λx hx=>by
    obtain⟨e,he,rfl⟩:=ua.1 hx;have:=yS w (G i) (dA G i) e H ae;rw[wh,wj he] at this;rw[show T[e]=_ from this];show(bl w (dA G i+e)).l.length<=4;have A:bl w (dA G i+e)∈w.sl:=ya ae;have:=(h.i.sb _ A).2.2;omega
   have I:=qls L R (by rw[vB];omega) (by rw[vo];omega) (λx hx=>d x (xX hx)) (λx hx=>d x (xZ hx));have:=uv.aJ (s:=DH (G i).f) (by unfold DH;split<;>simp) (KA L R) (ia w G i) _ k (λp z=>by
    obtain⟨j,g⟩:=qlt z;refine⟨o _ (by rw[←e];exact wS.2 (.inl j)),o _ (by rw[←e];exact wS.2 (.inr g)),λq=>?_⟩;rw[xB] at nd;exact nd.2.2 _ j _ g q) ae
   exact mono this ae
  .exact mono k ae
def ga(q a:Ys):Prop:=∀y,(q.tb y).length<=(a.tb y).length
def ga.refl(q:Ys):ga q q:=λ_=>wc _
def ga.trans{a b c:Ys}(h:ga a b)(k:ga b c):ga a c:=λy=>wN (h y) (k y)
def ga.loop(q:Ys)(K:Nat)(b:Int)(th:List aL):ga q (q.loop K b th):=λy=>by
 show _<=(aB q.tb K (q.tb K++[_]) y).length;unfold aB;split
 .rename_i e;rw[e,wD];exact xH _ _
 .exact wc _
def XS(K:Nat):∀(l:List aF) (q:Ys),ga q (lA K q l).1
 |[],q=>.refl q
 |s::l,q=>(ga.loop q K s.b s.l).trans (XS K l _)
def qnh(K:Nat)(right:Bool)(q:Ys)(l:List aF):ga q (AS K right q l).1:=by
 cases right<;>exact XS K _ q
def XT(K:Nat)(right:Bool):∀(l:List aF) (q:Ys),ga q (l.foldl (λq s=>q.fK K (Zv s right)) q)
 |[],q=>.refl q
 |s::l,q=>ga.trans (λ_=>wc _) (XT K right l (q.fK K (Zv s right)))
def qni(K:Nat)(right a:Bool)(s:ao)(q:Ys)(l:List aF):ga q (lL K right a s q l).1:=by
 unfold lL;split
 .unfold nZ;split
  .exact ga.loop _ _ _ _
  .split
   .exact ga.loop _ _ _ _
   .split
    .exact λ_=>wc _
    .exact qnh K right q l
 .exact XT K right _ q
def XU(K:Nat)(right a:Bool):∀(t:List (ao×List aF)) (q:Ys),ga q (ms K right a q t).1
 |[],q=>.refl q
 |(s,l)::t,q=>(qni K right a s q l).trans (XU K right a t _)
def XV(K:Nat)(right a:Bool)(row:List ao)(q:Ys)(d:List (List aF)):ga q (ni K right a row q d).1:=by
 unfold ni;cases right<;>exact XU K _ a _ q
def qnj(row:List ao)(right:Bool)(p:Ys×List (List aF))(K:Nat):ga p.1 (lM row right p K).1:=by
 unfold lM;split
 .exact .refl _
 ·simp only[];have m1:ga p.1 (if (p.1.Y K).i=false then p.1.dz K ⟨true,zr (!right),(p.1.Y K).ct,true,(p.1.Y K).pe⟩ else p.1):=by
   split<;>exact λ_=>wc _
  refine m1.trans ?_;generalize (if (p.1.Y K).i=false then p.1.dz K ⟨true,zr (!right),(p.1.Y K).ct,true,(p.1.Y K).pe⟩ else p.1)=a;have d:ga a (if (a.Y K).pl≠zr (!right) then(ni K (!right) false row a p.2).1 else a):=by
   split
   .exact XV _ _ _ _ _ _
   .exact .refl _
  refine d.trans ?_;exact ga.trans (XV K right true row _ p.2) λ_=>wc _
def XW(row:List ao)(right:Bool)(p:Ys×List (List aF)):∀k,ga p.1 ((List.range k).foldl (lM row right) p).1
 |0=>.refl _
 |k+1=>by
  rw[xj,xL];exact(XW row right p k).trans (qnj row right _ k)
def qqI{x y:aV}(h:tG x y):PL x y=true:=by
 unfold PL;rw[wC];show Cv (EE x.ay x.an y.ay y.an) (EE x.cy x.cn y.cy y.cn)<0;rw[UY,O0,O0,qma];unfold tG at h;omega
def im.row(h:im w ord P C)(fit:mL w G n)(right:Bool)(ed:dA G n=w.sl.length)(E:∀k,k<n->1<=(G k).y/\(G k).y<=6)(I:P+32*n<=4096)(hC:C+256*n<=500000)(hO:ord.length+24*n<=2048)
 (hd:w.d=0∨w.d=1) (Q:1<=(mM (zI w G n right 6).r.sl n).length/\(mM (zI w G n right 6).r.sl n).length<=16) (S:∀s∈mM (zI w G n right 6).r.sl n,1<=s.l.length/\s.l.length<=3) :
 ∃z,im (DQ w G n right) z (P+32*n) (C+256*n)/\z.length<=ord.length+24*n:=by
 have M:∀j,j<w.sl.length->1<=(bl w j).l.length/\(bl w j).l.length<=3:=λj R=>by
  have:=h.i.sb _ (ya (d:=be) R);exact⟨this.2.1,this.2.2⟩
 have O:=fit.GY;obtain⟨z,m,l,J⟩:=h.pR fit right ed E I 6 (wc _);have c:=Mi (λK=>((((List.range n).map G).zip ((List.range n).map (cP w G))).map (kV true K)).sum) (4*n) (List.range 6) λx _=>XO O (λk f=>(Hn (fit.at f) M).g.1) x;rw[xt] at c;have cr:=h.EU fit ae n (wc _);have mono:∀a,a∈ord->a∈z:=λa U=>by
  obtain⟨y,k,u,f,rfl⟩:=h.i.oD.mem a U;have D:=XW ((List.range n).map G) right (w.q,(List.range n).map (cP w G)) 6;rw[←(Ri w G n right 6).1] at D;obtain⟨pre,post,e,_⟩:=m.oD.row y u k (vd f (D y));exact Wh e
 refine⟨z,⟨⟨m.oD,ae,m.part,h.i.V8,λx hx=>?_,λi o=>?_,?_,m.yo,λy u=>?_,Q,λs H=>?_,rfl,?_⟩,λy u=>?_,cr.p,λx hx=>(cr.n x hx).2,cr.l⟩,ae⟩
 .obtain⟨a1,Z,Y⟩:=cr.m x hx;obtain⟨W,b2,b3⟩:=cr.n x hx;exact⟨mono _ a1,mono _ Z,Y,W,ae,ae⟩
 .have o:i+1<(ia w G n).length:=o;refine qqI ?_;have:=List.pairwise_iff_getElem.1 cr.p i (i+1) ae o ae;show tG ((ia w G n).getD i pN) ((ia w G n).getD (i+1) pN);rw[wh,wh,wj ae,wj o];exact this
 .have:=cr.l;show(ia w G n).length<=_;omega
 .have j:=m.yr y u;refine⟨j.ct,λo=>?_,λo=>?_⟩
  .obtain⟨B,A,k3,N⟩:=j.py o;rw[wl u] at A;exact⟨B,wN A I,k3,N⟩
  .obtain⟨B,A,k3,_⟩:=j.out o;exact⟨B,A,k3⟩
 .obtain⟨l',h1,V⟩:=List.mem_flatten.1 H;obtain⟨k,f,rfl⟩:=vb.1 h1;have f:=vQ.1 f;have X:=J k f (E k f).2;exact⟨X.2 s V,S s H⟩
 .show 1-w.d=0∨1-w.d=1;omega
 .have j:=m.yr y u;rw[wl u] at j;exact j
end
def XX{B a:Nat->Int}:∀n,(∀e,e<n->B e=a e)->zH B n=zH a n
 |0,_=>rfl
 |n+1,h=>by
  unfold zH;rw[XX n λe he=>h e ae];unfold yk;rw[h n ae]
def XY{s:ao}{B g:Nat->Int}(h:∀e,e<s.nN->B e=g e):iY s B s.nN=iY s g s.nN:=by
 unfold iY;by_cases v:c9 s=false
 .rw[wl v,wl v]
 .have d:=ao.sS (s:=s) (by simpa using v);rw[we v,we v,we (λq:s.nN≠s.nN=>q rfl),we (λq:s.nN≠s.nN=>q rfl),XX _ h];by_cases a:s.k=4∨s.k=5
  .rw[we (by omega:¬s.k=3),wl a] at d;rw[h 0 ae,h 1 ae]
  .rw[we a,we a];by_cases f:s.k=6
   .rw[we (by omega:¬s.k=3),we a,we (by omega:¬s.k=8)] at d;rw[h 0 ae]
   .rw[we f,we f]
def ao.DT{s:ao}(h:c9 s=true):s.mN=if s.k=8 then s.nN else 1:=by
 have d:=ao.sS h;unfold ao.mN ao.m;rw[h,wm];by_cases a:s.k=8
 .rw[we ae,we ae,wl a] at d;rw[wq a,wm,wl a,d]
 .rw[xk a,wp,we a];rfl
def XZ{w:bD}{A:Nat->Bool}{s:ao}{a:Nat}(fit:pQ w A s a):(uN s (lz s (fJ s (w.sl.drop a)))).map ofNat=(List.range s.mN).map (fe s λe=>ofNat (bl w (a+e)).l.length):=by
 have E:=fit.le;have o:=ao.sS fit.v;have r:=ao.DT fit.v;have u:=KD s (w.sl.drop a) (by rw[vo];omega);unfold uN;by_cases B:s.k=3
 .rw[wl B,r,we ae];simp[fe,B]
 .rw[we B];rw[we B] at o;by_cases C:s.k=4∨s.k=5
  .rw[we (by omega:¬s.k=6),we (by omega:¬s.k=7),r,we ae];unfold lz;rw[wl C];have f:¬s.k=6:=by omega
   have d:¬s.k=7:=by omega
   simp[fe,f,d]
  .rw[we C] at o;by_cases i:s.k=8
   ·rw[we (by omega:¬s.k=6),we (by omega:¬s.k=7),r,wl i];have z:(lz s (fJ s (w.sl.drop a))).length=s.nN:=by
     unfold lz;rw[we C,wl i,wD,vo,vB,u];omega
    have D:fe s (λe=>ofNat (bl w (a+e)).l.length)=λ_=>(1:Int):=by
     funext j;unfold fe;rw[we ae,we ae]
    rw[D,List.map_map];generalize lz s (fJ s (w.sl.drop a))=l at z;rw[←z,List.map_const',xt];exact List.map_const' ..
   .rw[we i] at o;have z:lz s (fJ s (w.sl.drop a))=fJ s (w.sl.drop a):=by unfold lz;rw[we C,we i]
    have g:=yS w s a 0 E ae;rw[z,r,we i];generalize fJ s (w.sl.drop a)=T at u g;rw[o] at u
    match T,u with
    |[x],_ =>
     have g:x=⟨ze s,(bl w (a+0)).l⟩:=g;subst g;by_cases f:s.k=6
     .rw[wl f];simp[fe,f]
     .rw[we f];by_cases d:s.k=7
      .rw[wl d];simp[fe,d]
      .rw[we d];simp[fe,f,d]
structure Hz(w:bD)(L:Nat×(Nat->Int)):Prop where
 n:w.sl.length=L.1
 l:∀j,j<L.1->ofNat (bl w j).l.length=L.2 j
def Ml{G:Nat->ao}(ok:∀j,(G j).Ok):∀k,(dA G k:Int)=zd (λj=>(G j).n) k
 |0=>rfl
 |k+1=>by
  obtain⟨_,e⟩:=ao.n4 (ok k);show((dA G k+(G k).nN:Nat):Int)=zd (λj=>(G j).n) k+(G k).n;rw[←Ml ok k,e];simp
def Cp.pT(c:Cp)(i:Nat):∀j,(c.rw i j).Ok:=(c.fB i).1.g
def Cp.DU(c:Cp)(i k:Nat)(e:k<=c.rn i):dA (c.rw i) k=(qS (c.ld i).2 (c.ld i).1 (c.C i) (c.mi i) k).i:=by
 obtain⟨g,d,a⟩:=c.iu i;obtain⟨_,_,f⟩:=Kx (c.C i) (c.mi i) d a;obtain⟨s1,_⟩:=LB a f k e;have:=Ml (c.pT i) k;have s1:zd (λj=>(c.rw i j).n) k=_:=s1;rw[s1] at this;exact Int.ofNat.inj this
def Cp.BA(c:Cp)(i:Nat){w:bD}(h:Hz w (c.ld i)):mL w (c.rw i) (c.rn i):=by
 obtain⟨o,e,x,u⟩:=c.fB i;obtain⟨g,f,_⟩:=c.lJ i;have key:∀k,k<c.rn i->dA (c.rw i) k+(c.rw i k).nN<=w.sl.length/\iY (c.rw i k) (λe=>ofNat (bl w (dA (c.rw i) k+e)).l.length) (c.rw i k).nN=0:=λk a=>by
  obtain⟨p,s,r,A,z,j,_⟩:=c.Am i k a;have d:dA (c.rw i) k=p:=by
   have:=Ml (c.pT i) k;rw[←s] at this;exact Int.ofNat.inj this
  refine⟨by rw[d,h.n];exact r,?_⟩;rw[←j];exact XY λe he=>by rw[d];exact h.l (p+e) ae
 exact⟨c.pT i,ae,λk a=>o.v k a,λk a=>(key k a).1,λk a=>(key k a).2,g,by rw[f,h.n];rfl⟩
def Cp.ed(c:Cp)(i:Nat){w:bD}(h:Hz w (c.ld i)):dA (c.rw i) (c.rn i)=w.sl.length:=by
 rw[c.DU i _ (wc _),h.n];exact(c.fB i).2.1
def Cp.yb(c:Cp)(i k:Nat):1<=(c.rw i k).y/\(c.rw i k).y<=6:=by
 have:=(c.fB i).1.y k;have h:1<=(c.rw i k).y/\(c.rw i k).y<=3:=this;omega
def qqJ{α β:Type}(l:List α)(f:α->β)(d:α)(e:β){j:Nat}(h:j<l.length):f (l.getD j d)=(l.map f).getD j e:=by
 rw[wh,wh,wE,wj h];rfl
def Cp.BB(c:Cp)(i:Nat){w:bD}{s:List aL}{P C:Nat}(h:Hz w (c.ld i))(d:im w s P C)(right:Bool)(J:P+32*c.rn i<=4096):Hz (DQ w (c.rw i) (c.rn i) right) (c.ld (i+1)):=by
 have fit:=c.BA i h;obtain⟨_,_,_,D⟩:=d.pR fit right (c.ed i h) (λk _=>c.yb i k) J 6 (wc _);have key:∀k,k<=c.rn i->(mM (zI w (c.rw i) (c.rn i) right 6).r.sl k).map (λx=>ofNat x.l.length)=(List.range (qS (c.ld i).2 (c.ld i).1 (c.C i) (c.mi i) k).m).map (qS (c.ld i).2 (c.ld i).1 (c.C i) (c.mi i) k).x:=by
  intro k
  induction k with
  |zero=>intro _;rfl
  |succ k E =>
   intro R;have a:=(D k ae (c.yb i k).2).1;have f:=fit.at (i:=k) ae;have O:=XZ f;have M:=c.DU i k ae;have A:c.rw i k=tE (c.ld i).2 (c.ld i).1 (c.C i) (c.mi i) k:=DG k (c.rn i) ae;rw[Me,vF,E ae];have N:((zI w (c.rw i) (c.rn i) right 6).r.sl k).map (λx=>ofNat x.l.length)=(List.range (c.rw i k).mN).map (fe (c.rw i k) λe=>ofNat (bl w (dA (c.rw i) k+e)).l.length):=by
    rw[←O];show _=(uN (c.rw i k) (cP w (c.rw i) k)).map ofNat;rw[←a,List.map_map];rfl
   rw[N];show _=(List.range ((qS (c.ld i).2 (c.ld i).1 (c.C i) (c.mi i) k).m+(tE (c.ld i).2 (c.ld i).1 (c.C i) (c.mi i) k).mN)).map _;rw[List.range_add,vF,List.map_map,←A];refine congr (vD _ ?_) ?_
   .refine va λj d=>?_;show _=if j<_ then _ else _;rw[wl (vQ.1 d)]
   ·refine va λj d=>?_;show _=if _+j<_ then _ else fe (tE (c.ld i).2 (c.ld i).1 (c.C i) (c.mi i) k) _ (_+j-_);rw[we ae,←A,Nat.add_sub_cancel_left,←M];have U:=f.le;have S:=h.n;have Q:=ao.DT f.v;have I:=ao.sS f.v;have d:=vQ.1 d;unfold fe;have B:(c.rw i k).k=6∨(c.rw i k).k=7->ofNat (bl w (dA (c.rw i) k+0)).l.length=(c.ld i).2 (dA (c.rw i) k+0):=λq=>by
     rw[we ae,we ae,we ae] at I;exact h.l _ ae
    by_cases o:(c.rw i k).k=6/\j=0
    .rw[wl o,wl o];exact vD (·+1) (B (.inl o.1))
    .rw[we o,we o];by_cases g:(c.rw i k).k=7/\j=0
     .rw[wl g,wl g];exact B (.inr g.1)
     .rw[we g,we g]
 have z:=key (c.rn i) (wc _);have u:=vD List.length z;rw[wQ,wQ,xt] at u;refine⟨u,λj d=>?_⟩;have H:j<(mM (zI w (c.rw i) (c.rn i) right 6).r.sl (c.rn i)).length:=by rw[u];exact d
 show ofNat ((mM (zI w (c.rw i) (c.rn i) right 6).r.sl (c.rn i)).getD j be).l.length=_;rw[qqJ (mM (zI w (c.rw i) (c.rn i) right 6).r.sl (c.rn i)) (λx=>ofNat x.l.length) be 0 H,z];exact Zh _ _ d
def im.mono{w:bD}{a:List aL}{P P' C d:Nat}(h:im w a P C)(hp:P<=P')(f:C<=d):im w a P' d :=
 ⟨h.i,λy e=>(h.yj y e).mono hp λ_ h=>h,h.cp,λx hx=>⟨by have:=(h.cb x hx).1;omega,by have:=(h.cb x hx).2;omega⟩,wN h.cl f⟩
def qqK{K n:Nat}(f:K<6)(h1:1<=n)(a:n<=16):im (KM K n) (zE K n) 0 0 where
 i:=qmT f h1 a
 yj:=λy g=>by
  rw[PM,yZ];by_cases c:y=K
  .rw[wl c,wl c];refine⟨by show(n:Int)=_;rw[yC],λ_=>⟨.inr rfl,wR _,(λi e=>absurd e au),(λp d=>(by cases d))⟩,λh=>(by cases h),λ_ h=>?_⟩;have:=vD List.length h;rw[yC] at this;simp only[vE] at this;omega
  .rw[we c,we c];exact⟨rfl,λh=>(by cases h),λ_=>⟨rfl,rfl,rfl,rfl⟩,λh=>(by cases h)⟩
 cp:=.nil
 cb:=λx hx=>(by cases hx)
 cl:=wc _
def Rq{G:Nat->ao}(h:∀j,1<=(G j).y/\(G j).y<=3):∀k,1<=iO G k/\iO G k<=3
 |0=>h 0
 |k+1=>by
  unfold iO;split
  .exact h _
  .exact Rq h k
def Cp.K(c:Cp):Nat:=(iO (c.rw 0) (c.rn 0-1)-1).toNat
def Cp.At(c:Cp):c.K<6/\iO (c.rw 0) (c.rn 0-1)=ofNat c.K+1:=by
 have:=Rq (G:=c.rw 0) (c.fB 0).1.y (c.rn 0-1);unfold Cp.K;simp only[wu];omega
def Cp.wk(c:Cp):Nat->bD
 |0=>KM c.K (c.w%8+1)
 |i+1=>DQ (c.wk i) (c.rw i) (c.rn i) (decide (i%2=1))
structure Cp.WkI(c:Cp)(i:Nat)(ord:List aL):Prop where
 j:im (c.wk i) ord (256*i) (2048*i)
 len:ord.length<=8+192*i
 ld:Hz (c.wk i) (c.ld i)
 d:(c.wk i).d=((i%2:Nat):Int)
def Cp.rV(c:Cp):∀i,i<=9->∃f,c.WkI i f
 |0,_=>by
  refine⟨_,(qqK c.At.1 (n:=c.w%8+1) ae ae),?_,⟨kU _ _,λj g=>?_⟩,rfl⟩
  .rw[jU];omega
  .have g:j<c.w%8+1:=g;show ofNat (((yX c.K (c.w%8+1)).getD j be).l.length)=1;unfold yX;rw[Zh _ _ g];rfl
 |i+1,I=>by
  obtain⟨f,h⟩:=Cp.rV c i ae;obtain⟨o,e,C,B⟩:=c.fB i;have fit:=c.BA i h.ld;have u:=c.BB i h.ld h.j (decide (i%2=1)) ae;obtain⟨E,D,k3⟩:=c.iu (i+1);have J:=h.d;have H:=h.len;obtain⟨A,m,l⟩:=h.j.row fit (decide (i%2=1)) (c.ed i h.ld) (λk _=>c.yb i k) ae ae ae ae (by have:(mM (zI (c.wk i) (c.rw i) (c.rn i) (decide (i%2=1)) 6).r.sl (c.rn i)).length=_:=u.n;omega) (λs x=>by
   obtain⟨j,g,rfl⟩:=ua.1 x;have M:(mM (zI (c.wk i) (c.rw i) (c.rn i) (decide (i%2=1)) 6).r.sl (c.rn i)).length=_:=u.n;have a:=u.l j ae;have b:=k3 j ae;rw[←a] at b;have z:bl (DQ (c.wk i) (c.rw i) (c.rn i) (decide (i%2=1))) j=(mM (zI (c.wk i) (c.rw i) (c.rn i) (decide (i%2=1)) 6).r.sl (c.rn i))[j]:=by
    show(mM (zI (c.wk i) (c.rw i) (c.rn i) (decide (i%2=1)) 6).r.sl (c.rn i)).getD j be=_;rw[wh,wj g];rfl
   rw[z] at b;simp only[wu] at b;omega)
  refine⟨A,m.mono ae ae,ae,u,?_⟩;show 1-(c.wk i).d=_;omega
def Cp.Au(c:Cp)(i:Nat)(r:i<9):TO 45 [.agg ((c.wk i).cc none),aU (c.rw i) (c.rn i) none] (.aK [.agg ((c.wk (i+1)).cc none),iI 0]):=by
 obtain⟨a,h⟩:=c.rV i ae;obtain⟨o,e,g,f⟩:=c.fB i;have fit:=c.BA i h.ld;have ed:=c.ed i h.ld;have yb:∀k,k<c.rn i->1<=(c.rw i k).y/\(c.rw i k).y<=6:=λk _=>c.yb i k;refine qqC (c.wk i) (c.rw i) (c.rn i) (decide (i%2=1)) (h.j.DR ae ae) fit ?_ (h.j.gn fit _ ed yb ae) (h.j.ne fit _ ed yb ae);rw[h.d];unfold rI;by_cases q:i%2=1
 .rw[wq q,q];rfl
 .rw[xk q,(by omega:i%2=0)];rfl
def ua1(n:Nat)(G:Nat->Nat->ao)(l:Nat->Nat)(m:Int):cD 19 [1] [0,1] [.agg [bG G l n],iI m] [] [1,2,4] =
( zN [iI m,.ah [bG G l n],.ah [.ag,.ag,.ag,.ag,.ag,.ag,uI 0]] []):=qh
def ua2(p q r:JO->T->Prop)(n:Nat)(G:Nat->Nat->ao)(l:Nat->Nat)(k y m:Int)(w:bD)(z:T):cK (((qv.add 28 (Qa p λ_=>some (uI y))).add 29 (Qa q λ_=>some (iI m))).add 44 (Qa r λ_=>some (.agg (w.cc none)))) 19 [1,2] [1,2,4] [iI k,.ah [bG G l n],z] [] [1,2,4,5] =
( gD (decide (0<ofNat n))<|gD (qM (p [aU (G (0:Nat)) (l (0:Nat))
 none] (uI y)))<|gD (decide (0<ofNat n))<|gD (qM (q [aU (G (0:Nat)) (l (0:Nat))
 none] (iI m)))<|gD (qM (r [uI y,iI m] (.agg (w.cc
 none))))<|zN [iI k,.ah [bG G l n],z,bz w] []):=qh
def ua3(a b c d:T):cD 19 [1,1,2,2] [1,2,4,5] [a,b,c,d] [] [1,2,4,5,6] =
( zN [a,b,c,d,iI 0] []):=qh
def ua4(m i:Nat)(b c d:T):cD 19 [1,0,0,2,1,2,2] [1,2,4,5,6] [iI (ofNat m),b,c,d,iI (ofNat i)] [] [1,2,4,5,6] =
( bif decide (ofNat i<ofNat m) then zN [iI (.ofNat m),b,c,d,iI (.ofNat i)] [] else
 zX 0 [iI (.ofNat m),b,c,d,iI (.ofNat i)] []):=qh
def qvA(m i:Nat)(b c d:T):cD 19 [1,0,0,2,1,2,2] [1,2,4,5,6] [iI (ofNat m),b,c,d,iI (ofNat i)] [] [4,5] =
( bif decide (ofNat i<ofNat m) then zN [c,d] [] else
 zX 0 [c,d] []):=qh
def ua5(p:JO->T->Prop)(n i:Nat)(G:Nat->Nat->ao)(l:Nat->Nat)(a c:T)(w w':bD):cK (qv.add 45 (Qa p λ_=>some (.aK [.agg (w'.cc none),iI 0]))) 19 [0,1,2,0,0,2,1,2,2] [1,2,4,5,6] [a,.ah [bG G l n],c,.ah (w.cc none),iI (ofNat i)] [] [1,2,4,5,6] =
( gD (decide (0<=ofNat i)&&decide (ofNat i<ofNat n))<|gD (qM (p [.agg (w.cc
 none),aU (G i) (l i)
 none] (.aK [.agg (w'.cc
 none),iI 0])))<|zN [a,.ah [bG G l n],c,bz w',iI (.ofNat i)] []):=qh
def ua6(a b c d:T)(i:Nat):cD 19 [2,2,0,0,2,1,2,2] [1,2,4,5,6] [a,b,c,d,iI (ofNat i)] [] [1,2,4,5,6] =
( zN [a,b,c,d,iI (i64.wrap (ofNat i+1))] []):=qh
def ua7(w:bD)(z:JO):cD 19 [2,2,2] [4,5] [.ah bL,.ah (w.cc none)] [] [4] =
( zR [bz w] []):=qh
def ua8(w:bD):ZE aw G17 (az 19).aa Tryz.f19 (qB [4] [.ah (w.cc none)] []) (λv=>some (ye [] v)) =
( some (.agg (w.cc
 none))):=qh
def ub1(r:Nat->ao)(n:Nat):cD 31 [1] [0] [aU r n none] [] [0] =
( zN [aU r n
 none] []):=qh
def ub2(r:Nat->ao)(n:Nat):cD 31 [1,2] [0] [aU r n none] [] [0] =
( bif decide (ofNat n=0) then zR [aU r n
 none] [] else
 zN [aU r n
 none] []):=qh
def ub3(r:Nat->ao)(n:Nat):cD 31 [1,2,2] [0] [aU r n none] [] [0,3] =
( gD (decide (0<ofNat n))<|zN [aU r n
 none,uI (r (0:Nat)).y] []):=qh
def ub4(r:Nat->ao)(n:Nat)(y:T):cD 31 [1,1,2,2,2] [0,3] [aU r n none,y] [] [3,13,14,15] =
( zN (y::sK r n
 none (ofNat n) (nat_lit 0)) []):=qh
def ub5(r:Nat->ao)(n i:Nat)(y:Int):cD 31 [0,0,2,1,2,2,2] [3,13,14,15] [uI y,aU r n none,iI (ofNat n),iI (ofNat i)] [] [3,13,14,15] =
( bif decide (ofNat i<ofNat n) then gD (decide (0<=ofNat i)&&decide (ofNat i<ofNat n))<|zN [uI (bif decide ((r i).y<y) then(r i).y
 else y),aU r n
 none,iI (.ofNat n),iI (i64.wrap (ofNat i+1))] [] else
 zX 0 (uI y::sK r n
 none (ofNat n) i) []):=qh
def qvB(r:Nat->ao)(n i:Nat)(y:Int):cD 31 [0,0,2,1,2,2,2] [3,13,14,15] [uI y,aU r n none,iI (ofNat n),iI (ofNat i)] [] [3] =
( bif decide (ofNat i<ofNat n) then gD (decide (0<=ofNat i)&&decide (ofNat i<ofNat n))<|zN [uI (bif decide ((r i).y<y) then(r i).y
 else y)] [] else
 zX 0 [uI y] []):=qh
def ub6(y:Int):cD 31 [2,2,2,2] [3] [uI y] [] [2] =
( zR [uI y] []):=qh
def qvC(c:Cp):TO 19 [c.ch,iI (ofNat c.aJ)] (.agg ((c.wk c.aJ).cc none)):=by
 have run:=λ{p l x h C z h1 e} (q:cD 19 p l x h C=some (e,z,h1))=>cf [] q;obtain⟨E,u⟩:=qE aw G17 28;obtain⟨D,s⟩:=qE aw G17 29;obtain⟨j,o⟩:=qE aw G17 44;obtain⟨g,k⟩:=qE aw G17 45;have aJ:=c.iR;obtain⟨H,_,n1,I⟩:=c.fB 0;have d:=Vh (c.rw 0) (c.rn 0) n1 ae;rw[c.At.2] at d;have a:=Kw (r:=c.rw 0) (n:=c.rn 0) (c:=none) ae (c.pT 0);rw[(c.lJ 0).2.1] at a;have f:=qqe (K:=c.K) (n:=c.w%8+1) c.At.1 ae ae;have B:=eD (qr (qr (qr qp (qq u)) (qq s)) (qq o)) []
  ((ua2 E D j c.aJ c.rw c.rn (ofNat c.aJ) (ofNat c.K+1) ((c.ld 0).1:Int) (c.wk 0) (.ah bL)).trans (qk (wq bH) (qk (qu u d) (qk (wq bH) (qk (qu s a) (qk (qu o f) rfl))))))
 let V:Nat->JO:=λi=>[iI (ofNat c.aJ),.ah [bG c.rw c.rn c.aJ],.ah bL,.ah ((c.wk i).cc none),iI (ofNat i)]
 have lp:Pq 19 [] [0,2,1,2,2] [1,2,4,5,6] (V 0) [] (.exit 0) [4,5] [.ah bL,.ah ((c.wk c.aJ).cc none)] [] :=
  Pz.count qh V (λ_=>[]) (n:=c.aJ) au (λi J=>by
   have q6:=ua6 (iI (ofNat c.aJ)) (.ah [bG c.rw c.rn c.aJ]) (.ah bL) (.ah ((c.wk (i+1)).cc none)) i;rw[il ae] at q6;exact av (run ((ua4 c.aJ i _ _ _).trans (qk (wq bH) rfl)))
    (av (fi 1 (eD (qr qp (qq k)) []
     ((ua5 g c.aJ i c.rw c.rn (iI (ofNat c.aJ)) (.ah bL) (c.wk i) (c.wk (i+1))).trans (qk (by simp;omega) (qk (qu k (c.Au i ae)) rfl))))) (run q6)))
   (lk (run ((qvA c.aJ c.aJ _ _ _).trans (qF au rfl))))
 exact Pz.told (A:=az) Qn Tryz.func19 qh qh (l:=[0,1]) rfl
  (av (run (ua1 c.aJ c.rw c.rn (ofNat c.aJ))) (av B (av (av (run (ua3 _ _ _ _)) (fi 0 lp)) (run (ua7 (c.wk c.aJ) []))))) (ua8 (c.wk c.aJ))
def X4(r:Nat->ao)(n:Nat)(h1:1<=n)(g:n<=1000):TO 31 [aU r n none] (uI (iO r (n-1))):=by
 have run:=λ{p l a h f d h1 e} (q:cD 31 p l a h f=some (e,d,h1))=>cf [] q;have lp:Pq 31 [] [0,2,1,2,2,2] [3,13,14,15] [uI (iO r (0-1)),aU r n none,iI (ofNat n),iI (ofNat 0)] [] (.exit 0) [3] [uI (iO r (n-1))] [] :=
  Pz.count qh (λi=>[uI (iO r (i-1)),aU r n none,iI (ofNat n),iI (ofNat i)]) (λ_=>[]) (n:=n) au (λi k=>by
   have q:=ub5 r n i (iO r (i-1));rw[il ae] at q;have e:(bif decide ((r i).y<iO r (i-1)) then(r i).y else iO r (i-1))=iO r (i+1-1):=by
    cases i with
    |zero=>show(bif decide ((r 0).y<(r 0).y) then(r 0).y else(r 0).y)=(r 0).y;cases decide ((r 0).y<(r 0).y)<;>rfl
    |succ j =>
     show(bif decide ((r (j+1)).y<iO r j) then(r (j+1)).y else iO r j)=if (r (j+1)).y<iO r j then(r (j+1)).y else iO r j;by_cases c:(r (j+1)).y<iO r j
     .rw[wl c,wq c];rfl
     .rw[we c,xk c];rfl
   rw[e] at q;exact run (q.trans (qk (wq bH) (qk (by simp;omega) rfl)))) (run ((qvB r n n (iO r (n-1))).trans (qF au rfl)))
 exact Pz.told (A:=az) Qn Tryz.func31 qh qh (l:=[0]) rfl
  (av (run (ub1 r n)) (av (run ((ub2 r n).trans (qF (hZ bH) rfl))) (av (run ((ub3 r n).trans (qk (wq bH) rfl)))
   (av (av (run (ub4 r n (uI (r 0).y))) (fi 0 lp)) (run (ub6 (iO r (n-1)))))))) rfl
def Mm(C:Nat->Nat->ao)(ln:Nat->Nat)(h:Nat):Int:=if tq C ln h≠0 then tq C ln h else AK C ln h
noncomputable def Mn(p:JO->T->Prop)(r:T):bA:=qv.add 70 (Qa p λ_=>some r)
def qis(C:Nat->Nat->ao)(ln:Nat->Nat)(h:Nat)(o:h<=1000)(k:∀i,i<h->ln i<=1000)(hC:∀i j,(C i j).Ok):TO 39 [.agg [bG C ln h]] (iI (Mm C ln h)):=by
 obtain⟨p,f⟩:=qE aw G17 70;have d:∀e,TO 70 [.agg [bG C ln h]] (.aK [.ag,iI e])->TO 39 [.agg [bG C ln h]] (iI e):=λe a=>by
  refine QA qY Qn (qr qp (qq f)) (K:=Mn p (.aK [.ag,iI e])) (A:=az) (m:=0) ?_;rw[(show Yw aw G17 az (Mn p (.aK [.ag,iI e])) 0 39 [.agg [bG C ln h]] =
( gD (qM (p [.agg [bG C ln h]] (.aK [.ag,iI e])))<|some (iI e)) from qh)]
  exact qk (qu f a) rfl
 unfold Mm;by_cases h1:tq C ln h=0
 .rw[we ae];have a:=qpE C ln h hC h1;by_cases g:AK C ln h=0
  .rw[wl g] at a;rw[g];unfold OL at a;generalize LD C ln=L at *
   generalize WD C ln=W at *
   refine QA qY Qn (qr qp (qq f)) (K:=Mn p (.aK [.fresh false 1 (1+h) (λe=>[br (L e) (W e) (some (W e))]) (1+h) (some (1+h)),iI 0])) (A:=az) (m:=0) ?_;rw[(show Yw aw G17 az (Mn p (.aK [.fresh false 1 (1+h) (λe=>[br (L e) (W e) (some (W e))]) (1+h) (some (1+h)),iI 0])) 0 39 [.agg [bG C ln h]] =
( gD (qM (p [.agg [bG C ln h]] (.aK [.fresh false (1:Nat) (1+h) (λe=>[br (L e) (W e) (some (W e))]) (1+h) (some (1+h)),iI 0])))<|some (iI 0)) from qh)]
   exact qk (qu f a) rfl
  ·rw[we g] at a;exact d _ a
 .rw[wl h1];exact d _ (qjp C ln h o k hC h1)
def KE(C:Nat->Int):T:=.ah [iI (C 0),iI (C 1),iI (C 2),iI (C 3),iI (C 4),iI (C 5)]
def uc1(n:Nat)(G:Nat->Nat->ao)(l:Nat->Nat):cD 24 [1] [0] [.agg [bG G l n]] [] [1] =
( zN [.ah [bG G l n]] []):=qh
def uc2(p:JO->T->Prop)(n:Nat)(G:Nat->Nat->ao)(l:Nat->Nat):cK (qv.add 39 (Qa p λ_=>some (iI 0))) 24 [1,2] [1] [.ah [bG G l n]] [] [1] =
( gD (qM (p [.agg [bG G l n]] (iI 0)))<|zN [.ah [bG G l n]] []):=qh
def uc3(a:T):cD 24 [1,2,2] [1] [a] [] [1,5] =
( zN [a,.ah [iI 0,iI 0,iI 0,iI 0,iI 0,iI 0]] []):=qh
def uc4(n:Nat)(G:Nat->Nat->ao)(l:Nat->Nat)(a:T):cD 24 [1,2,2,2] [1,5] [.ah [bG G l n],a] [] [1,5,6] =
( gD (decide (0<=i64.wrap (ofNat n-1))&&decide (i64.wrap (ofNat n-1)<ofNat n))<|zN [.ah [bG G l n],a,cF (G (i64.wrap (ofNat n-(1:Int))).toNat) (l (i64.wrap (ofNat n-(1:Int))).toNat)
 none] []):=qh
def uc8(n:Nat)(G:Nat->Nat->ao)(l:Nat->Nat)(a:T):cD 24 [1,1,2,2,2,2,2,2] [1,5] [.ah [bG G l n],a] [] [5,51,52,53] =
( zN [a,bG G l n,iI (.ofNat n),iI 0] []):=qh
def uc9(n i:Nat)(G:Nat->Nat->ao)(l:Nat->Nat)(a:T):cD 24 [1,0,0,2,1,2,2,2,2,2,2] [5,51,52,53] [a,bG G l n,iI (ofNat n),iI (ofNat i)] [] [5,51,52,53,54] =
( bif decide (ofNat i<ofNat n) then zN [a,bG G l n,iI (.ofNat n),iI (.ofNat i),.bool true] [] else
 zN [a,bG G l n,iI (.ofNat n),iI (.ofNat i),.bool false] []):=qh
def uca(b:Bool)(a c d e:T):cD 24 [1,2,0,0,2,1,2,2,2,2,2,2] [5,51,52,53,54] [a,c,d,e,.bool b] [] [5,51,52,53] =
( bif b then zN [a,c,d,e] [] else
 zX 0 [a,c,d,e] []):=qh
def qvD(b:Bool)(a c d e:T):cD 24 [1,2,0,0,2,1,2,2,2,2,2,2] [5,51,52,53,54] [a,c,d,e,.bool b] [] [5] =
( bif b then zN [a] [] else
 zX 0 [a] []):=qh
def ucb(n i:Nat)(G:Nat->Nat->ao)(l:Nat->Nat)(a d:T):cD 24 [1,0,1,2,2,0,0,2,1,2,2,2,2,2,2] [5,51,52,53] [a,bG G l n,d,iI (ofNat i)] [] [5,8,51,52,53] =
( gD (decide (0<=ofNat i)&&decide (ofNat i<ofNat n))<|zN [a,cF (G i) (l i)
 none,bG G l n,d,iI (.ofNat i)] []):=qh
def ucc(r:Nat->ao)(n:Nat)(a c d e:T):cD 24 [1,2,0,1,2,2,0,0,2,1,2,2,2,2,2,2] [5,8,51,52,53] [a,cF r n none,c,d,e] [] [5,51,52,53,57,58,59] =
( zN (a::c::d::e::sK r n
 none (ofNat n) (nat_lit 0)) []):=qh
def ucd(n i:Nat)(a c d e f:T):cD 24 [1,0,0,2,2,0,1,2,2,0,0,2,1,2,2,2,2,2,2] [5,51,52,53,57,58,59] [a,c,d,e,f,iI (ofNat n),iI (ofNat i)] [] [5,51,52,53,57,58,59,60] =
( bif decide (ofNat i<ofNat n) then zN [a,c,d,e,f,iI (.ofNat n),iI (.ofNat i),.bool true] [] else
 zN [a,c,d,e,f,iI (.ofNat n),iI (.ofNat i),.bool false] []):=qh
def uce(b:Bool)(a c d e f g h:T):cD 24 [1,2,0,0,2,2,0,1,2,2,0,0,2,1,2,2,2,2,2,2] [5,51,52,53,57,58,59,60] [a,c,d,e,f,g,h,.bool b] [] [5,51,52,53,57,58,59] =
( bif b then zN [a,c,d,e,f,g,h] [] else
 zX 2 [a,c,d,e,f,g,h] []):=qh
def qvE(b:Bool)(a c d e f g h:T):cD 24 [1,2,0,0,2,2,0,1,2,2,0,0,2,1,2,2,2,2,2,2] [5,51,52,53,57,58,59,60] [a,c,d,e,f,g,h,.bool b] [] [5,51,52,53] =
( bif b then zN [a,c,d,e] [] else
 zX 2 [a,c,d,e] []):=qh
def ucf(r:Nat->ao)(n i:Nat)(a c d e g:T):cD 24 [1,0,1,2,2,0,0,2,2,0,1,2,2,0,0,2,1,2,2,2,2,2,2] [5,51,52,53,57,58,59] [a,c,d,e,cF r n none,g,iI (ofNat i)] [] [5,10,51,52,53,57,58,59] =
( gD (decide (0<=ofNat i)&&decide (ofNat i<ofNat n))<|zN [a,.ah (r i).c,c,d,e,cF r n
 none,g,iI (.ofNat i)] []):=qh
def ucg(s:ao)(a c d e f g h:T):cD 24 [1,2,0,1,2,2,0,0,2,2,0,1,2,2,0,0,2,1,2,2,2,2,2,2] [5,10,51,52,53,57,58,59] [a,.ah s.c,c,d,e,f,g,h] [] [5,10,51,52,53,57,58,59,65] =
( bif !decide (s.k=7) then zN [a,.ah s.c,c,d,e,f,g,h,.bool true] [] else
 zN [a,.ah s.c,c,d,e,f,g,h,.bool false] []):=qh
def ucs(a c d e f g h i:T):cD 24 [4,2,2,0,1,2,2,0,0,2,2,0,1,2,2,0,0,2,1,2,2,2,2,2,2] [5,10,51,52,53,57,58,59] [a,c,d,e,f,g,h,i] [] [5,51,52,53,57,58,59] =
( zN [a,d,e,f,g,h,i] []):=qh
def uci(i:Nat)(a c d e f g:T):cD 24 [2,2,2,0,0,2,2,0,1,2,2,0,0,2,1,2,2,2,2,2,2] [5,51,52,53,57,58,59] [a,c,d,e,f,g,iI (ofNat i)] [] [5,51,52,53,57,58,59] =
( zN [a,c,d,e,f,g,iI (i64.wrap (ofNat i+1))] []):=qh
def ucj(i:Nat)(a c d:T):cD 24 [2,2,2,0,0,2,1,2,2,2,2,2,2] [5,51,52,53] [a,c,d,iI (ofNat i)] [] [5,51,52,53] =
( zN [a,c,d,iI (i64.wrap (ofNat i+1))] []):=qh
def uck(C:Nat->Int):y9 aw G17 az qv 20 24 [] (iX [2,2,2,2,2,2,2]) [5] [KE C] [] [2,3] =
( zR [.own 0 0 0 6 (some 6),iI 0] (QX (λj=>bif j==(5:Nat) then C (5:Nat)
 else
 bif j==(4:Nat) then C (4:Nat)
 else
 bif j==(3:Nat) then C (3:Nat)
 else
 bif j==(2:Nat) then C (2:Nat)
 else
 bif j==(1:Nat) then C (1:Nat)
 else
 bif j==(0:Nat) then C (0:Nat)
 else(0:Int)) (6:Nat))):=qh
def ucl(C:Nat->Int):ZE aw G17 (az 24).aa Tryz.f24 (qB [2,3] [.own 0 0 0 6 (some 6),iI 0] (QX (λj=>bif j==5 then C 5 else bif j==4 then C 4 else bif j==3 then C 3 else bif j==2 then C 2 else bif j==1 then C 1 else bif j==0 then C 0 else 0) 6)) (λv=>some (ye (QX (λj=>bif j==5 then C 5 else bif j==4 then C 4 else bif j==3 then C 3 else bif j==2 then C 2 else bif j==1 then C 1 else bif j==0 then C 0 else 0) 6) v)) =
( some (.aK [.fresh true (1:Nat) (6:Nat) (λj=>[iI (bif 0+j==(5:Nat) then C (5:Nat)
 else
 bif 0+j==(4:Nat) then C (4:Nat)
 else
 bif 0+j==(3:Nat) then C (3:Nat)
 else
 bif 0+j==(2:Nat) then C (2:Nat)
 else
 bif 0+j==(1:Nat) then C (1:Nat)
 else
 bif 0+j==(0:Nat) then C (0:Nat)
 else(0:Int))]) (6:Nat) (some 6),iI 0])):=qh
def qlu{s:ao}(f:c9 s=true){B d:Nat->Int}(h:∀e,e<s.nN->B e=d e)(j:Nat):fe s B j=fe s d j:=by
 have a:=ao.sS f;unfold fe;by_cases i:s.k=6
 .rw[h 0 (by rw[we ae,we ae,we ae] at a;omega)]
 .by_cases g:s.k=7
  .rw[h 0 (by rw[we ae,we ae,we ae] at a;omega)]
  .simp only[i,g,false_and,ve]
def Rr{B:Nat->Int}{N:Nat}{C:Nat->Nat}{M R:Nat}:∀k,k<=R->Qo (qS B N C M R).g k=(qS B N C M k).i/\Qq (qS B N C M R).g k=(qS B N C M k).m
 |0,_=>⟨rfl,rfl⟩
 |k+1,h=>by
  obtain⟨h1,a⟩:=Rr (B:=B) (N:=N) (C:=C) (M:=M) (R:=R) k ae;have e:=DG (B:=B) (N:=N) (C:=C) (M:=M) k R ae;refine⟨?_,?_⟩
  .show Qo _ k+((qS B N C M R).g k).nN=(qS B N C M k).i+(tE B N C M k).nN;rw[h1,e]
  .show Qq _ k+((qS B N C M R).g k).mN=(qS B N C M k).m+(tE B N C M k).mN;rw[a,e]
def qit{B L:Nat->Int}{N:Nat}{C:Nat->Nat}{M R:Nat}(hB:∀j,j<N->1<=B j/\B j<=3)(d:∀j,j<R->(qS B N C M j).i<N)(f:∀j,j<N->L j=B j):∀k,k<=R->∀j,j<(qS B N C M k).m->YS (qS B N C M R).g L k j=(qS B N C M k).x j
 |0,_,j,a=>absurd a (vm j)
 |k+1,h,j,a=>by
  obtain⟨h1,o⟩:=Rr (B:=B) (N:=N) (C:=C) (M:=M) (R:=R) k ae;have e:=DG (B:=B) (N:=N) (C:=C) (M:=M) k R ae;have p:=EK hB (oS C M k) (qS B N C M k) (d k ae);have a:j<(qS B N C M k).m+(tE B N C M k).mN:=a;show(bif Nat.ble (Qq (qS B N C M R).g k) j&&Nat.blt j (Qq (qS B N C M R).g k+((qS B N C M R).g k).mN) then fe ((qS B N C M R).g k) (λt=>L (Qo (qS B N C M R).g k+t)) (j-Qq (qS B N C M R).g k) else YS (qS B N C M R).g L k j)=if j<(qS B N C M k).m then(qS B N C M k).x j else fe (tE B N C M k) (λe=>B ((qS B N C M k).i+e)) (j-(qS B N C M k).m);rw[h1,o,e];by_cases c:j<(qS B N C M k).m
  .rw[wl c,ZG c,xT,wp];exact qit hB d f k ae j c
  .rw[we c,qO ae,qL a,xO,wm];exact qlu p.v (λe he=>f _ (by have:=p.n;have he:e<(pO B N (oS C M k) (qS B N C M k)).nN:=he;have:=d k ae;omega)) _
def Cp.LD(c:Cp):∀i,∀j,j<(c.ld i).1->Go.Ab.LD c.rw c.rn i j=(c.ld i).2 j
 |0,_,_=>rfl
 |i+1,j,a=>by
  obtain⟨g,e,d⟩:=c.iu i;obtain⟨_,_,f⟩:=Kx (c.C i) (c.mi i) e d;exact qit d f (λj a=>Cp.LD c i j a) (c.rn i) (wc _) j a
def Cp.chk(c:Cp):Mm c.rw c.rn c.aJ=0:=by
 obtain⟨m1,x,u⟩:=c.iR;have H:tq c.rw c.rn c.aJ=0:=by
  have a:∀n,YN c.rw c.rn n=0:=λn=>by
   induction n with
   |zero=>rfl
   |succ n E=>unfold YN;rw[we ae];exact(c.lJ n).1
  unfold tq;rw[we ae,we ae,we (by rw[a];omega),wl];refine(YO _ _ _).2 λi _=>wq ?_;rw[(c.lJ (i+1)).2.1,(c.lJ i).2.2]
 unfold Mm;rw[we ae];refine jQ _ _ _ λi _=>Kv _ _ _ λk g=>?_;obtain⟨p,f,s,r,o,d,_⟩:=c.Am i k g;obtain⟨D,A,z⟩:=c.iu i;have j:Qo (c.rw i) k=p:=by
  have h1:=(Rr (B:=(c.ld i).2) (N:=(c.ld i).1) (C:=c.C i) (M:=c.mi i) (R:=c.rn i) k ae).1;have h1:Qo (c.rw i) k=_:=h1;rw[h1,←c.DU i k ae];have:=Ml (c.pT i) k;rw[←f] at this;exact Int.ofNat.inj this
 unfold nA;rw[j,←d];exact XY λe he=>c.LD i _ ae
def AU(C:Nat->Int)(K:Nat)(x:Int):Nat->Int:=λe=>if e=K then i64.wrap (C e+x) else C e
def ud5(p q:JO->T->Prop)(n:Nat)(G:Nat->Nat->ao)(l:Nat->Nat)(C:Nat->Int)(x:Int)(z:T)(K:Nat)(a:K<6):cK ((qv.add 31 (Qa p λ_=>some (uI (ofNat K+1)))).add 41 (Qa q λ_=>some (iI x))) 24 [1,2,2,2,2] [1,5,6] [.ah [bG G l n],KE C,z] [] [1,5,6] =
 (bif decide ((0:Int)<ofNat n) then bif qM (p [cF (G 0) (l 0) none] (uI (ofNat K+1))) then bif decide ((0:Int)<ofNat n) then bif qM (q [cF (G 0) (l 0) none] (iI x)) then
 some (.normal,[.ah [bG G l n],KE (AU C K x),z],[]) else none else none else none else none):=by
 cases zy a
 all_goals kernel_rfl
def ud6(p q:JO->T->Prop)(C:Nat->Int)(r:Nat->ao)(n:Nat)(x:Int)(z:T)(K:Nat)(a:K<6):cK ((qv.add 31 (Qa p λ_=>some (uI (ofNat K+1)))).add 60 (Qa q λ_=>some (iI x))) 24 [1,2,2,2,2,2] [1,5,6] [z,KE C,cF r n none] [] [1,5] =
 (bif qM (p [cF r n none] (uI (ofNat K+1))) then bif qM (q [cF r n none] (iI x)) then some (.normal,[z,KE (AU C K x)],[]) else none else none):=by
 cases zy a
 all_goals kernel_rfl
def udh(p:JO->T->Prop)(x:Int)(C:Nat->Int)(s:ao)(c d e f g h:T)(K:Nat)(i:K<6)(a:s.y=ofNat K+1):cK (qv.add 61 (Qa p λ_=>some (iI x))) 24 [3,2,2,0,1,2,2,0,0,2,2,0,1,2,2,0,0,2,1,2,2,2,2,2,2] [5,10,51,52,53,57,58,59] [KE C,.ah s.c,c,d,e,f,g,h] [] [5,51,52,53,57,58,59] =
 (bif qM (p [s.t] (iI x)) then some (.normal,[KE (AU C K x),c,d,e,f,g,h],[]) else none):=by
 obtain⟨k,y,A,b,w⟩:=s;obtain rfl:y=ofNat K+1:=a;cases zy i
 all_goals kernel_rfl
def HD(C:Nat->Int)(s:ao):Nat->Int:=if s.k=7 then C else AU C (s.y-1).toNat s.m
def Av(C:Nat->Int)(r:Nat->ao):Nat->Nat->Int
 |0=>C
 |i+1=>HD (Av C r i) (r i)
def CQ(C:Nat->Int)(G:Nat->Nat->ao)(l:Nat->Nat):Nat->Nat->Int
 |0=>C
 |i+1=>Av (CQ C G l i) (G i) (l i)
section
variable (C:Nat->Int) (r:Nat->ao) (n:Nat)
def qsu(J:n<=1000)(y:∀j,1<=(r j).y/\(r j).y<=6)(a c d:T):Pq 24 [] [0,2,2,0,1,2,2,0,0,2,1,2,2,2,2,2,2] [5,51,52,53,57,58,59] [KE C,a,c,d,cF r n none,iI (ofNat n),iI 0] [] (.exit 2) [5,51,52,53] [KE (Av C r n),a,c,d] []:=by
 have run:=λ{p l B h H D h1 e} (q:cD 24 p l B h H=some (e,D,h1))=>cf [] q;obtain⟨o,A⟩:=qE aw G17 61;refine Pz.count qh (λi=>[KE (Av C r i),a,c,d,cF r n none,iI (ofNat n),iI (ofNat i)]) (λ_=>[]) (n:=n) au (λi M=>?_)
  (av (run ((ucd n n _ _ _ _ _).trans (qF au rfl))) (lk (run (qvE false _ _ _ _ _ _ _))))
 have q:=uci i (KE (Av C r (i+1))) a c d (cF r n none) (iI (ofNat n));rw[il ae] at q;have f:Pq 24 [] [2,0,1,2,2,0,0,2,2,0,1,2,2,0,0,2,1,2,2,2,2,2,2] [5,10,51,52,53,57,58,59] [KE (Av C r i),.ah (r i).c,a,c,d,cF r n none,iI (ofNat n),iI (ofNat i)] [] .normal [5,51,52,53,57,58,59] [KE (HD (Av C r i) (r i)),a,c,d,cF r n none,iI (ofNat n),iI (ofNat i)] []:=by
  unfold HD;by_cases g:(r i).k=7
  .have s:¬(!decide ((r i).k=7))=true:=by simp[g]
   rw[wl g];exact av (run ((ucg (r i) _ _ _ _ _ _ _).trans (qF s rfl))) (Pz.fc 65 qh rfl (Pz.drop rfl (run (ucs _ _ _ _ _ _ _ _))))
  .have s:(!decide ((r i).k=7))=true:=by simp[g]
   rw[we g];have I:=y i;have x:((r i).y-1).toNat<6:=by omega
   have u:(r i).y=ofNat ((r i).y-1).toNat+1:=by simp only[wu];omega
   generalize ((r i).y-1).toNat=K at x u ⊢;have z:=(udh o (r i).m (Av C r i) (r i) a c d (cF r n none) (iI (ofNat n)) (iI (ofNat i)) K x u).trans (qk (qu A (OC (r i))) rfl);have E:=eD (qr qp (qq A)) [] z;exact av (run ((ucg (r i) _ _ _ _ _ _ _).trans (qk s rfl))) (Pz.gE 65 qh rfl (Pz.drop rfl E))
 exact av (run ((ucd n i _ _ _ _ _).trans (qk (wq bH) rfl))) (av (run (uce true _ _ _ _ _ _ _)) (Pz.seq qh
  (fi 3 (av (run ((ucf r n i _ _ _ _ _).trans (qk (by simp;omega) rfl))) f)) (run q)))
def qqL(G:Nat->Nat->ao)(l:Nat->Nat)(s:n<=1000)(k:∀i,l i<=1000)(y:∀i j,1<=(G i j).y/\(G i j).y<=6):Pq 24 [] [0,2,1,2,2,2,2,2,2] [5,51,52,53] [KE C,bG G l n,iI (ofNat n),iI 0] [] (.exit 0) [5] [KE (CQ C G l n)] []:=by
 have run:=λ{p l a h g d h1 e} (q:cD 24 p l a h g=some (e,d,h1))=>cf [] q;refine Pz.count qh (λi=>[KE (CQ C G l i),bG G l n,iI (ofNat n),iI (ofNat i)]) (λ_=>[]) (n:=n) au (λi o=>?_)
  (av (run ((uc9 n n _ _ _).trans (qF au rfl))) (lk (run (qvD false _ _ _ _))))
 have q:=ucj i (KE (CQ C G l (i+1))) (bG G l n) (iI (ofNat n));rw[il ae] at q;have f:=qsu (CQ C G l i) (G i) (l i) (k i) (y i) (bG G l n) (iI (ofNat n)) (iI (ofNat i));exact av (run ((uc9 n i _ _ _).trans (qk (wq bH) rfl))) (av (run (uca true _ _ _ _)) (Pz.seq qh
  (fi 1 (av (run ((ucb n i _ _ _ _).trans (qk (by simp;omega) rfl))) (av (run (ucc (G i) (l i) _ _ _ _)) (fi 2 f)))) (run q)))
end
def HE:Nat->Int:=λ_=>0
def Cp.L(c:Cp):Nat:=(iO (c.rw (c.aJ-1)) (c.rn (c.aJ-1)-1)-1).toNat
def Cp.DV(c:Cp):c.L<6/\iO (c.rw (c.aJ-1)) (c.rn (c.aJ-1)-1)=ofNat c.L+1:=by
 have:=Rq (G:=c.rw (c.aJ-1)) (c.fB (c.aJ-1)).1.y (c.rn (c.aJ-1)-1);unfold Cp.L;simp only[wu];omega
def Cp.rf(c:Cp):Nat->Int:=CQ (AU (AU HE c.K ((c.ld 0).1:Int)) c.L ((c.ld c.aJ).1:Int)) c.rw c.rn c.aJ
def cG(C:Nat->Int)(j:Nat):Int:=bif 0+j==5 then C 5 else bif 0+j==4 then C 4 else bif 0+j==3 then C 3 else bif 0+j==2 then C 2 else bif 0+j==1 then C 1 else bif 0+j==0 then C 0 else 0
def qqM(c:Cp):TO 24 [c.ch] (.aK [.view 1 6 (λj=>[iI (cG c.rf j)]) (some 6),iI 0]):=by
 have run:=λ{p l P h U Q h1 e} (q:cD 24 p l P h U=some (e,Q,h1))=>cf [] q;obtain⟨V,x⟩:=qE aw G17 39;obtain⟨o,Ah⟩:=qE aw G17 31;obtain⟨B,u⟩:=qE aw G17 41;obtain⟨z,s⟩:=qE aw G17 60;have aJ:=c.iR;obtain⟨M,E⟩:∃M,c.aJ=M+1:=⟨c.aJ-1,ae⟩;have rn:∀i,1<=c.rn i/\c.rn i<=8:=λi=>(c.fB i).2.2;have g:=qis c.rw c.rn c.aJ ae (λi _=>by have:=rn i;omega) (λi=>c.pT i);rw[c.chk] at g;have k:=X4 (c.rw 0) (c.rn 0) (rn 0).1 (by have:=rn 0;omega);rw[c.At.2] at k;have d:=jP (c.rw 0) (c.rn 0) none (by have:=rn 0;omega) (c.pT 0);rw[(c.lJ 0).2.1] at d;have I:=X4 (c.rw M) (c.rn M) (rn M).1 (by have:=rn M;omega);have H:=c.DV;have O:=H.2;rw[E,Nat.add_sub_cancel] at O;rw[O] at I;have a:=kS (c.rw M) (c.rn M) none (by have:=rn M;omega) (c.pT M);rw[(c.lJ M).2.2,←E] at a
 let N:=AU HE c.K ((c.ld 0).1:Int)
 let J:=AU N c.L ((c.ld c.aJ).1:Int)
 have D:=run ((uc4 c.aJ c.rw c.rn (KE HE)).trans (qk (by
  rw[Qp bH bH];simp;omega) rfl))
 rw[Qp bH bH,show(ofNat c.aJ-1).toNat=M by simp only[wu];omega] at D;have S:=eD (qr (qr qp (qq Ah)) (qq u)) []
  ((ud5 o B c.aJ c.rw c.rn HE ((c.ld 0).1:Int) (cF (c.rw M) (c.rn M) none) c.K c.At.1).trans (qk (wq bH) (qk (qu Ah k) (qk (wq bH) (qk (qu u d) rfl)))))
 have R:=eD (qr (qr qp (qq Ah)) (qq s)) []
  ((ud6 o z N (c.rw M) (c.rn M) ((c.ld c.aJ).1:Int) (.ah [bG c.rw c.rn c.aJ]) c.L H.1).trans (qk (qu Ah I) (qk (qu s a) rfl)))
 have lp:=qqL J c.aJ c.rw c.rn ae (λi=>by have:=rn i;omega) c.yb;have t:=Pz.told (A:=az) Qn Tryz.func24 qh qh (l:=[0]) rfl
  (av (run (uc1 c.aJ c.rw c.rn)) (av (eD (qr qp (qq x)) [] ((uc2 V c.aJ c.rw c.rn).trans (qk (qu x g) rfl)))
   (av (run (uc3 (.ah [bG c.rw c.rn c.aJ]))) (av D (av S (av R
    (av (av (run (uc8 c.aJ c.rw c.rn (KE J))) (fi 0 lp))
     (Pz.run qY qp (m:=20) (p:=[2,2,2,2,2,2,2]) (A:=az) (f:=24) (h0:=[]) qh qP (uck c.rf))))))))) (ucl c.rf)
 exact(aI.fh t).oO (.cons (.px _) (.Ue .nil))
def CR(ln v:Nat->Nat):aq:=⟨6,1,6,λe=>[.own (1+e) (v e) 0 (ln e) none],false,false,none⟩
def m7(ln v:Nat->Nat)(L:Nat->Nat->JO)(e:Nat):aq:=⟨v e,4,ln e,L e,false,false,none⟩
def HB(ln v:Nat->Nat)(L:Nat->Nat->JO)(E:qa):qa:=CR ln v::m7 ln v L 0::m7 ln v L 1::m7 ln v L 2::m7 ln v L 3::m7 ln v L 4::m7 ln v L 5::E
def qb0(w:bD)(y:Int):cD 22 [1] [0,1] [.agg (w.cc none),uI y] [] [1,2,4] =
( zN [uI y,bz w,.ah [.ag,.ag,.ag,.ag]] []):=qh
def qb1(p:JO->qa->T->qa->Prop)(w:bD)(y z:T)(a k t:Nat)(S Y e:aq)(X R:Nat->aq):cK (qv.cE 20 (jo p λ_ _=>some (.agg [.own 0 a 0 a none,.own 17 k 0 k none,.own 18 t 0 t none,aM w.cr,aX w.he,aX w.fa,uI w.d],mq S X Y e R []))) 22 [1,2] [1,2,4] [y,bz w,z] [] [1,2,4] =
( gD (qM (p [.agg (w.cc
 none)] [] (.agg [.own 0 a 0 a
 none,.own 17 k 0 k
 none,.own 18 t 0 t
 none,aM w.cr,aX w.he,aX w.fa,uI w.d]) [S,X (0:Nat),X (1:Nat),X (2:Nat),X (3:Nat),X (4:Nat),X (5:Nat),X (6:Nat),X (7:Nat),X (8:Nat),X (9:Nat),X (10:Nat),X (11:Nat),X (12:Nat),X (13:Nat),X (14:Nat),X (15:Nat),Y,e,R (0:Nat),R (1:Nat),R (2:Nat),R (3:Nat),R (4:Nat),R (5:Nat)]))<|zN [y,.ah [.own 0 a 0 a
 none,.own 17 k 0 k
 none,.own 18 t 0 t
 none,aM w.cr,aX w.he,aX w.fa,uI w.d],z] [S,X (0:Nat),X (1:Nat),X (2:Nat),X (3:Nat),X (4:Nat),X (5:Nat),X (6:Nat),X (7:Nat),X (8:Nat),X (9:Nat),X (10:Nat),X (11:Nat),X (12:Nat),X (13:Nat),X (14:Nat),X (15:Nat),Y,e,R (0:Nat),R (1:Nat),R (2:Nat),R (3:Nat),R (4:Nat),R (5:Nat)]):=qh
def qb2(w:bD)(y z:T)(a k t:Nat)(S Y e:aq)(X R:Nat->aq):cD 22 [1,2,2] [1,2,4] [y,nC a k t (aM w.cr) (aX w.he) (aX w.fa) w.d,z] (mq S X Y e R []) [1,2,4,5] =
( zN [y,.ah [.own 0 a 0 a
 none,.own 17 k 0 k
 none,.own 18 t 0 t
 none,aM w.cr,aX w.he,aX w.fa,uI w.d],z,.ah [.own 18 t 0 t
 none,aM w.cr,aX w.he,aX w.fa]] [S,X (0:Nat),X (1:Nat),X (2:Nat),X (3:Nat),X (4:Nat),X (5:Nat),X (6:Nat),X (7:Nat),X (8:Nat),X (9:Nat),X (10:Nat),X (11:Nat),X (12:Nat),X (13:Nat),X (14:Nat),X (15:Nat),Y,e,R (0:Nat),R (1:Nat),R (2:Nat),R (3:Nat),R (4:Nat),R (5:Nat)]):=qh
def qb4(a b c d e:T)(H:qa):cD 22 [1,1,2,2,2,2] [1,2,4,5,6] [a,b,c,d,e] H [1,2,4,5,6,7] =
( zN [a,b,c,d,e,iI 0] H):=qh
def qb5(n i:Nat)(g:Nat->JO)(a b c d e f q y:T)(k m l:T)(H:qa):cD 22 [1,0,0,2,1,2,2,2,2] [1,2,4,5,6,7] [a,.ah [.view 2 n g none,b,c,d,e,f,q],k,l,m,iI (ofNat i)] H [1,2,4,5,6,7] =
( bif decide (ofNat i<ofNat n) then zN [a,.ah [.view 2 n g
 none,b,c,d,e,f,q],k,l,m,iI (.ofNat i)] H else
 zX 0 [a,.ah [.view 2 n g
 none,b,c,d,e,f,q],k,l,m,iI (.ofNat i)] H):=qh
def qvF(n i:Nat)(g:Nat->JO)(a b c d e f q y:T)(k m l:T)(H:qa):cD 22 [1,0,0,2,1,2,2,2,2] [1,2,4,5,6,7] [a,.ah [.view 2 n g none,b,c,d,e,f,q],k,l,m,iI (ofNat i)] H [1,4,5] =
( bif decide (ofNat i<ofNat n) then zN [a,k,l] H else
 zX 0 [a,k,l] H):=qh
def qb8(n i:Nat)(sl:Nat->aF)(a b c d e f q:T)(k l h r o g:T)(w:Bool)(pe:Nat->bw)(np:Nat)(H:qa):cD 22 [1,2,0,1,2,0,0,2,1,2,2,2,2] [1,2,4,5,6,7,8] [a,.ah [.view 2 n (λj=>(sl j).c) none,b,c,d,e,f,q],k,l,.ah [r,o,g,.bool w,cH pe np none],iI (ofNat i),h] H [1,2,4,5,6,7,8,9] =
( bif w then gD (decide (0<=ofNat i)&&decide (ofNat i<ofNat n))<|zN [a,.ah [.view 2 n (λj=>(sl j).c)
 none,b,c,d,e,f,q],k,l,.ah [r,o,g,.bool w,cH pe np
 none],iI (.ofNat i),h,.ah [uI 0,.bool true,aX (sl i).l,cH pe np
 none]] H else
 gD (decide (0<=ofNat i)&&decide (ofNat i<ofNat n))<|zN [a,.ah [.view 2 n (λj=>(sl j).c)
 none,b,c,d,e,f,q],k,l,.ah [r,o,g,.bool w,cH pe np
 none],iI (.ofNat i),h,.ah [uI 0,.bool false,aX (sl i).l,cH pe np
 none]] H):=qh
def qb9(i:Nat)(a b c d e f h:T)(H:qa):cD 22 [1,1,2,2,0,1,2,0,0,2,1,2,2,2,2] [1,2,4,5,6,7,8,9] [a,b,c,d,e,iI (ofNat i),f,h] H [1,2,4,5,6,7,8,9,51] =
( bif decide (0<ofNat i) then zN [a,b,c,d,e,iI (.ofNat i),f,h,.bool true] H else
 zN [a,b,c,d,e,iI (.ofNat i),f,h,.bool false] H):=qh
def qba(n i N:Nat)(sl:Nat->aF)(y:Int)(b c d e f q:T)(k l m th ps:T)(w:Bool)(ln v:Nat->Nat)(L:Nat->Nat->JO):cD 22 [3,2,1,2,2,0,1,2,0,0,2,1,2,2,2,2] [1,2,4,5,6,7,8,9] [uI y,.ah [.view 2 n (λj=>(sl j).c) none,b,c,d,e,f,q],k,l,m,iI (ofNat i),iI (ofNat N),  .ah [uI 0,.bool w,th,ps]] (HB ln v L []) [1,2,4,5,6,7,9] =
( gD (decide (0<=ofNat i)&&decide (ofNat i<ofNat n))<|bif (sl i).l.length==(0:Nat) then zN [uI y,.ah [.view 2 n (λj=>(sl j).c)
 none,b,c,d,e,f,q],k,l,m,iI (.ofNat i),.ah [uI 0,.bool false,.own 8 0 0 1 (some 1),.own 7 0 0 1 (some 1)]] [CR ln v,m7 ln v L (0:Nat),m7 ln v L (1:Nat),m7 ln v L (2:Nat),m7 ln v L (3:Nat),m7 ln v L (4:Nat),m7 ln v L (5:Nat),.mk 0 4 1 (λj=>[[uI y,iI (i64.wrap (ofNat N-(1:Int))),T.bool true,uI (0:Int)]].getD j []) true true
 none,.mk 0 2 1 (λj=>[[uI y,iI (i64.wrap (ofNat N-(1:Int)))]].getD j []) true true
 none] else
 gD ((((1:Nat)+(sl i).l.length)*(17:Nat)).ble 70368744177664)<|bif ((1:Nat)+(sl i).l.length).ble 1 then gD (((1:Nat)+(sl i).l.length).ble 1)<|zN [uI y,.ah [.view 2 n (λj=>(sl j).c)
 none,b,c,d,e,f,q],k,l,m,iI (.ofNat i),.ah [uI 0,.bool false,.own 8 0 0 ((1:Nat)+(sl i).l.length) (some 1),.own 7 0 0 1 (some 1)]] [CR ln v,m7 ln v L (0:Nat),m7 ln v L (1:Nat),m7 ln v L (2:Nat),m7 ln v L (3:Nat),m7 ln v L (4:Nat),m7 ln v L (5:Nat),.mk 0 4 1 (λj=>[[uI y,iI (i64.wrap (ofNat N-(1:Int))),T.bool true,uI (0:Int)]].getD j []) true true
 none,.mk 0 2 1 (λj=>bif Nat.ble 1 j&&j.blt ((1:Nat)+(sl i).l.length) then((sl i).l.getD (j-(1:Nat)) (aL.mk (0:Int) (0:Int))).c
 else [[uI y,iI (i64.wrap (ofNat N-(1:Int)))]].getD j []) true true
 none] else
 zN [uI y,.ah [.view 2 n (λj=>(sl j).c)
 none,b,c,d,e,f,q],k,l,m,iI (.ofNat i),.ah [uI 0,.bool false,oL (0:Nat) ((1:Nat)+(sl i).l.length),.own 7 0 0 1 (some 1)]] [CR ln v,m7 ln v L (0:Nat),m7 ln v L (1:Nat),m7 ln v L (2:Nat),m7 ln v L (3:Nat),m7 ln v L (4:Nat),m7 ln v L (5:Nat),.mk 0 4 1 (λj=>[[uI y,iI (i64.wrap (ofNat N-(1:Int))),T.bool true,uI (0:Int)]].getD j []) true true
 none,.mk 0 2 1 (λj=>[[uI y,iI (i64.wrap (ofNat N-(1:Int)))]].getD j []) true true
 none,.mk 0 2 ((1:Nat)+(sl i).l.length) (λj=>bif j.blt 1 then [[uI y,iI (i64.wrap (ofNat N-(1:Int)))]].getD (0+j) []
 else((sl i).l.getD (j-(1:Nat)) (aL.mk (0:Int) (0:Int))).c) true false
 none]):=qh
def qbb(a b c d e f g h:T)(H:qa):cD 22 [4,2,1,2,2,0,1,2,0,0,2,1,2,2,2,2] [1,2,4,5,6,7,8,9] [a,b,c,d,e,f,g,h] H [1,2,4,5,6,7,9] =
( zN [a,b,c,d,e,f,h] H):=qh
def qbd(a b c d e:T)(i:Nat)(H:qa):cD 22 [2,2,0,0,2,1,2,2,2,2] [1,2,4,5,6,7] [a,b,c,d,e,iI (ofNat i)] H [1,2,4,5,6,7] =
( zN [a,b,c,d,e,iI (i64.wrap (ofNat i+1))] H):=qh
def Z4:JO:=[.ag,.ag,.ag,.ag]
structure pU where
 (ln v:Nat->Nat) (L:Nat->Nat->JO)
def pU.h(s:pU)(E:qa):qa:=HB s.ln s.v s.L E
def E3(s:pU)(K:Nat)(b:aq)(e:Nat):aq:=bif e==K then b else m7 s.ln s.v s.L e
def Mo(s:pU)(t:aq)(K:Nat)(b:aq)(E:qa):qa:=t::E3 s K b 0::E3 s K b 1::E3 s K b 2::E3 s K b 3::E3 s K b 4::E3 s K b 5::E
def HG(s:pU)(K m:Nat):aq:=⟨6,1,6,λe=>[bif e==K then .own (1+K) m 0 (s.ln K+1) none else .own (1+e) (s.v e) 0 (s.ln e) none],false,false,none⟩
def qc3(w:bD)(z g:T)(a t:Nat)(S e:aq)(Y:Nat->b6)(X R:Nat->aq)(K:Nat)(f:K<6):cD 22 [1,2,2,2] [1,2,4,5] [yI K,nC a 6 t (aM w.cr) (aX w.he) (aX w.fa) w.d,z,g] (mq S X (Kz 6 Y) e R []) [1,2,4,5,6] =
 some (.normal,[yI K,nC a 6 t (aM w.cr) (aX w.he) (aX w.fa) w.d,z,g,.ah (Y K).c],mq S X (Kz 6 Y) e R []):=by
 cases zy f
 all_goals kernel_rfl
section
variable (s:pU) (K:Nat)
def qc7(a b c d e f g:T)(i:K<6):cD 22 [1,0,1,2,0,0,2,1,2,2,2,2] [1,2,4,5,6,7] [yI K,a,b,.ah [.own 0 6 0 6 none,c,d,e],f,g] (s.h []) [1,2,4,5,6,7,8] =
 (bif s.v K==s.v K&&true then some (.normal,[yI K,a,b,.ah [.own 0 6 0 6 none,c,d,e],f,g,iI (ofNat (s.ln K))],s.h []) else none):=by
 cases zy i
 all_goals kernel_rfl
def BC(x:Bool)(nt np:Nat)(a d:Nat->JO)(c:Option Nat):JO:=[uI 0,.bool x,.view 2 nt a none,.view 4 np d c]
def qcc(a b c d e f g:T)(x:Bool)(nt np:Nat)(i k:Nat->JO)(cp:Option Nat)(o:K<6):cD 22 [2,2,2,0,1,2,0,0,2,1,2,2,2,2] [1,2,4,5,6,7,9] [yI K,a,b,.ah [.own 0 6 0 6 none,c,d,e],f,g,.ah (BC x nt np i k cp)] (s.h []) [1,2,4,5,6,7] =
 (bif s.v K==s.v K&&true then bif (0+s.ln K).ble (s.ln K) then bif ((s.ln K+1)*57).ble 70368744177664 then bif (0+s.ln K+1).ble (s.ln K) then
  some (.normal,[yI K,a,b,.ah [.own 0 6 0 6 none,c,d,e],f,g],Mo s (HG s K (s.v K)) K ⟨s.v K,4,s.ln K,λj=>bif (0+s.ln K).ble j&&j.blt (0+s.ln K+1) then [BC x nt np i k cp].getD (0+(j-(0+s.ln K))) [] else s.L K j,false,false,none⟩ [.mk 0 4 1 (λj=>[BC x nt np i k cp].getD j []) false true none])
  else some (.normal,[yI K,a,b,.ah [.own 0 6 0 6 none,c,d,e],f,g],Mo s (HG s K (s.v K+1)) K ⟨s.v K+1,4,s.ln K+1,λj=>bif j.blt (s.ln K) then s.L K (0+j) else [BC x nt np i k cp].getD (0+(j-s.ln K)) [],false,false,none⟩ [.mk 0 4 1 (λj=>[BC x nt np i k cp].getD j []) false true none])
  else none else none else none):=by
 cases x
 all_goals
  cases zy o
  all_goals kernel_rfl
def E4(y N:Int):JO:=[uI y,iI (i64.wrap (N-1))]
def qce(c d:T)(a:K<6):y9 aw G17 az qv 2 22 [] (iX [2,2,2,2,2]) [1,4,5] [yI K,.ah Z4,.ah [.own 0 6 0 6 none,c,d,aX []]] (s.h []) [4] =
 (bif s.v K==s.v K&&true then some (.ret,[.ah [.own 0 6 0 6 none,c,.ag,.own 8 0 0 1 none]],
  s.h [.mk 0 2 1 (λj=>[E4 (ofNat K+1) (ofNat (s.ln K))].getD j []) true true none,.mk 0 2 1 (λj=>[E4 (ofNat K+1) (ofNat (s.ln K))].getD (0+j) []) true false none]) else none):=by
 cases zy a
 all_goals kernel_rfl
def BD:Wa:=List.range 7
def qnl{σ:Wa}{h:qa}{l:JO}(a:l.all aH=true):l.map (qJ σ h)=l:=by
 have:l.map (qJ σ h)=l.map id:=va λc d=>Zu (wA.1 a c d);rw[this,xP]
def pU.push(s:pU)(K:Nat)(C:JO):pU:=⟨aB s.ln K (s.ln K+1),aB s.v K (s.v K+1),λe j=>if e=K/\j=s.ln K then C else s.L e j⟩
def pU.Im(s:pU):Prop:=∀e j,(s.L e j).all aH=true
def pU.Im.push{s:pU}(h:s.Im)(K:Nat){C:JO}(hC:C.all aH=true):(s.push K C).Im:=λe j=>by
 show(if e=K/\j=s.ln K then C else s.L e j).all aH=true;split
 .exact hC
 .exact h e j
def Rs(a:s.Im){h:qa}(e j:Nat):s.L e j=(s.L e j).map (qJ BD h):=(qnl (a e j)).symm
def qoL(f:s.Im)(g:K<6)(C:JO)(hC:C.all aH=true)(fl:Bool){aa:Wa}{nt:Nat}{l:Wa}{vs:JO}
 (i:vs.map (mV BD (Mo s (HG s K (s.v K+1)) K ⟨s.v K+1,4,s.ln K+1,λj=>bif j.blt (s.ln K) then s.L K (0+j) else [C].getD (0+(j-s.ln K)) [],false,false,none⟩ [.mk 0 4 1 (λj=>[C].getD j []) false true none]))=vs) :
 am G17 aa nt l 0 vs (Mo s (HG s K (s.v K+1)) K ⟨s.v K+1,4,s.ln K+1,λj=>bif j.blt (s.ln K) then s.L K (0+j) else [C].getD (0+(j-s.ln K)) [],false,false,none⟩ [.mk 0 4 1 (λj=>[C].getD j []) false true none]) vs ((s.push K C).h []):=by
 have o:∀h e,e<6->(CR (s.push K C).ln (s.push K C).v).get e=((HG s K (s.v K+1)).get e).map (qJ BD h):=λh e he=>by
  cases zy g
  all_goals
   cases zy he
   all_goals rfl
 have k:∀h j,j<s.ln K+1->(s.push K C).L K j=(bif j.blt (s.ln K) then s.L K (0+j) else [C].getD (0+(j-s.ln K)) []).map (qJ BD h):=λh j d=>by
  show(if K=K/\j=s.ln K then C else s.L K j)=_;by_cases c:j<s.ln K
  .rw[qL c,wm,we ae,wn];exact Rs s f K j
  .obtain rfl:j=s.ln K:=by omega
   rw[QP (wc _),wp,wl ⟨rfl,rfl⟩,wW];exact(qnl hC).symm
 have a:∀h e j,e≠K->(s.push K C).L e j=(s.L e j).map (qJ BD h):=λh e j he=>by
  show(if e=K/\j=s.ln K then C else s.L e j)=_;rw[we (λq=>he q.1)];exact Rs s f e j
 cases zy g
 all_goals
  refine am.bZ BD rfl i rfl (.cons ⟨rfl,rfl,rfl,λh=>h,λj d=>o _ j d⟩ ?_ rfl)
  repeat (first|exact .nil|refine .cons ⟨rfl,rfl,rfl,λh=>h,λj d=>k _ j d⟩ ?_ rfl|refine .cons ⟨rfl,rfl,rfl,λh=>h,λj _=>a _ 0 j (by decide)⟩ ?_ rfl|refine .cons ⟨rfl,rfl,rfl,λh=>h,λj _=>a _ 1 j (by decide)⟩ ?_ rfl|refine .cons ⟨rfl,rfl,rfl,λh=>h,λj _=>a _ 2 j (by decide)⟩ ?_ rfl|refine .cons ⟨rfl,rfl,rfl,λh=>h,λj _=>a _ 3 j (by decide)⟩ ?_ rfl|refine .cons ⟨rfl,rfl,rfl,λh=>h,λj _=>a _ 4 j (by decide)⟩ ?_ rfl|refine .cons ⟨rfl,rfl,rfl,λh=>h,λj _=>a _ 5 j (by decide)⟩ ?_ rfl)
end
def bE(y N:Int):qa:=[.mk 0 2 1 (λj=>[E4 y N].getD j []) true true none,.mk 0 2 1 (λj=>[E4 y N].getD (0+j) []) true false none]
def gT(s:pU)(y N:Int)(j:Nat):JO:=[resolve 3 [0,8] (s.h (bE y N)) (.own (1+(0+j)) (s.v (0+j)) 0 (s.ln (0+j)) none)]
def qcr(s:pU)(c:List aV)(y N:Int):ZE aw G17 (az 22).aa Tryz.f22 (qB [4] [.ah [.own 0 6 0 6 none,aM c,.ag,.own 8 0 0 1 none]] (s.h (bE y N))) (λv=>some (ye (s.h (bE y N)) v)) =
 some (.agg [.fresh false 1 6 (gT s y N) 6 none,aM c,.ag,.fresh true 2 1 (λj=>[E4 y N].getD (0+(0+j)) []) 1 none]):=qh
def slW(w:bD):T:=.view 2 w.sl.length (λj=>(bl w j).c) none
def A2(w:bD)(g:Nat->JO):T:=.ah [slW w,.view 5 6 g none,.own 0 6 0 6 none,aM w.cr,aX w.he,aX w.fa,uI w.d]
def F5(w:bD):T:=.ah [.own 0 6 0 6 none,aM w.cr,aX w.he,aX w.fa]
def HI(w:bD):pU:=⟨λe=>(w.q.tb e).length,λ_=>0,λe j=>(((w.q.tb e).getD j eG).l).c⟩
def qsv(w:bD):(HI w).Im:=λ_ _=>rfl
def E5:Wa:=[18,19,20,21,22,23,24]
def qqN(w:bD)(K:Nat):∃g,∀(aa:Wa) (nt:Nat) (l:Wa),am G17 aa nt l 0 [yI K,nC w.sl.length 6 6 (aM w.cr) (aX w.he) (aX w.fa) w.d,.ah Z4,.ah [.own 18 6 0 6 none,aM w.cr,aX w.he,aX w.fa],.ah (YF w K).c] (hT (λ_=>false) w 6)
 [yI K,A2 w g,.ah Z4,F5 w,.ah (YF w K).c] ((HI w).h []):=by
 refine⟨λj=>((YF w (0+j)).c).map (resolve 3 E5 (hT (λ_=>false) w 6)),λaa nt l=>?_⟩;have f:qJ E5 (hT (λ_=>false) w 6) (.own 0 w.sl.length 0 w.sl.length none)=slW w:=by
  show(bif true&&(w.sl.length==w.sl.length&&Nat.ble (0+w.sl.length) w.sl.length) then T.view 2 w.sl.length (λj=>(iv (λ_=>false) w (0+j)).map (resolve 3 E5 (hT (λ_=>false) w 6))) none else T.undef)=_;rw[wF,qO ae];show T.view 2 w.sl.length _ none=T.view 2 w.sl.length _ none;congr 1;funext j;rw[wn];rfl
 have i:∀e,e<6->(CR (HI w).ln (HI w).v).get e=(mr w e).map (qJ E5 (hT (λ_=>false) w 6)):=λe he=>by
  cases zy he
  all_goals rfl
 refine am.bZ E5 rfl (by
  show [yI K,.ah [qJ E5 (hT (λ_=>false) w 6) (.own 0 w.sl.length 0 w.sl.length none),.view 5 6 _ none,.own 0 6 0 6 none,aM w.cr,aX w.he,aX w.fa,uI w.d],.ah Z4,F5 w,.ah (YF w K).c]=_;rw[f];rfl) rfl (.cons ⟨rfl,rfl,rfl,λh=>h,λj a=>i j a⟩ ?_ rfl)
 repeat (first|exact .nil|refine .cons ⟨rfl,rfl,rfl,λh=>h,λ_ _=>rfl⟩ ?_ rfl)
def Rt(w:bD)(K i N:Nat)(j:Nat):JO:=bif (0+j).blt 1 then [E4 (ofNat K+1) (ofNat N)].getD (0+(0+j)) [] else((bl w i).l.getD (0+j-1) ⟨0,0⟩).c
def Ru(K N:Nat)(j:Nat):JO:=[[uI (ofNat K+1),iI (i64.wrap (ofNat N-1)),.bool true,uI 0]].getD (0+j) []
def BE(w:bD)(K N i:Nat):JO:=if i=0 then BC (w.q.Y K).w (bl w i).l.length (w.q.Y K).pe.length (λj=>((bl w i).l.getD j bU).c) (λj=>((w.q.Y K).pe.getD j fv).c) none else BC false (1+(bl w i).l.length) 1 (Rt w K i N) (Ru K N) (some 1)
def qnm(w:bD)(K N i:Nat):(BE w K N i).all aH=true:=by
 unfold BE;split<;>rfl
def oB(w:bD)(K:Nat):Nat->pU
 |0=>HI w
 |i+1=>(oB w K i).push K (BE w K ((oB w K i).ln K) i)
def Rv(w:bD)(K:Nat):∀i,(oB w K i).Im
 |0=>qsv w
 |i+1=>(Rv w K i).push K (qnm w K _ i)
def Mp(w:bD)(K e:Nat):∀i,(oB w K i).ln e=(w.q.tb e).length+if e=K then i else 0
 |0=>by show(w.q.tb e).length=_;split<;>rfl
 |i+1=>by
  show aB (oB w K i).ln K ((oB w K i).ln K+1) e=_;unfold aB;by_cases c:e=K
  .rw[wl c,wl c,Mp w K K i,wl rfl,c];omega
  .rw[we c,we c,Mp w K e i,we c]
def qsw(s:pU)(o:s.Im)(f b2 d:aq){aa:Wa}{nt:Nat}{l:Wa}{vs aS:JO}(i:vs.map (mV BD (s.h [f,b2,d]))=aS):am G17 aa nt l 0 vs (s.h [f,b2,d]) aS (s.h []):=by
 have r:∀h e,e<6->(CR s.ln s.v).get e=((CR s.ln s.v).get e).map (qJ BD h):=λh e he=>by
  cases zy he
  all_goals rfl
 refine am.bZ BD rfl i rfl (.cons ⟨rfl,rfl,rfl,λh=>h,λj k=>r _ j k⟩ ?_ rfl);have a:=Rs s o (h:=s.h [f,b2,d]);exact .cons ⟨rfl,rfl,rfl,λh=>h,λj _=>a 0 j⟩ (.cons ⟨rfl,rfl,rfl,λh=>h,λj _=>a 1 j⟩ (.cons ⟨rfl,rfl,rfl,λh=>h,λj _=>a 2 j⟩ (.cons ⟨rfl,rfl,rfl,λh=>h,λj _=>a 3 j⟩ (.cons ⟨rfl,rfl,rfl,λh=>h,λj _=>a 4 j⟩ (.cons ⟨rfl,rfl,rfl,λh=>h,λj _=>a 5 j⟩ .nil rfl) rfl) rfl) rfl) rfl) rfl
section
variable (w:bD) (g:Nat->JO) (K:Nat)
def bV(w:bD)(g:Nat->JO)(K i:Nat):JO:=[yI K,A2 w g,.ah Z4,F5 w,.ah (YF w K).c,iI (ofNat i)]
def qsx(s:pU)(o:s.Im)(x:K<6)(r:s.ln K<=1000000)(i:Nat)(u:i<w.sl.length)(z:1<=(bl w i).l.length/\(bl w i).l.length<=1000) :
 Pq 22 [] [1,2,2,0,1,2,0,0,2,1,2,2,2,2] [1,2,4,5,6,7,8,9] (bV w g K i++[iI (ofNat (s.ln K)),.ah [uI 0,.bool (w.q.Y K).w,aX (bl w i).l,cH (YF w K).pe (YF w K).np none]]) (s.h []) .normal
  [1,2,4,5,6,7,9] (bV w g K i++[.ah (BE w K (s.ln K) i)]) (s.h []):=by
 have run:=λ{p l a h k f h1 e} (q:cD 22 p l a h k=some (e,f,h1))=>cf [] q;by_cases c:i=0
 .subst c;unfold BE;rw[wl rfl];exact av (run ((qb9 0 _ _ _ _ _ _ _ (s.h [])).trans (qF au rfl))) (Pz.fc 51 qh rfl (Pz.drop rfl (run (qbb _ _ _ _ _ _ _ _ (s.h [])))))
 ·unfold BE;rw[we c];have q:=(qba w.sl.length i (s.ln K) (bl w) (ofNat K+1) (.view 5 6 g none) (.own 0 6 0 6 none) (aM w.cr) (aX w.he) (aX w.fa) (uI w.d) (.ah Z4) (F5 w) (.ah (YF w K).c) (aX (bl w i).l) (cH (YF w K).pe (YF w K).np none) (w.q.Y K).w s.ln s.v s.L).trans
   (qk (by simp;omega) (qF (by rw[T3];omega) (qk (qO ae) (qF (by rw[ZG ae];simp) rfl))))
  have j:Pq 22 [] [3,2,1,2,2,0,1,2,0,0,2,1,2,2,2,2] [1,2,4,5,6,7,8,9] (bV w g K i++[iI (ofNat (s.ln K)),.ah [uI 0,.bool (w.q.Y K).w,aX (bl w i).l,cH (YF w K).pe (YF w K).np none]]) (s.h []) .normal [1,2,4,5,6,7,9] (bV w g K i++[.ah (BC false (1+(bl w i).l.length) 1 (Rt w K i (s.ln K)) (Ru K (s.ln K)) (some 1))]) (s.h []):=Pz.post (run q) λnt=>qsw s o _ _ _ (by
   show [yI K,A2 w g,.ah Z4,F5 w,.ah (YF w K).c,iI (ofNat i),.ah [uI 0,.bool false,bif true&&(0==0&&Nat.ble (0+(1+(bl w i).l.length)) (1+(bl w i).l.length)) then T.view 2 (1+(bl w i).l.length) (Rt w K i (s.ln K)) none else .undef,.view 4 1 (Ru K (s.ln K)) (some 1)]]=_;rw[qO ae];rfl)
  exact av (run ((qb9 i _ _ _ _ _ _ _ (s.h [])).trans (qk (wq bH) rfl))) (Pz.gE 51 qh rfl (Pz.drop rfl j))
end
section
variable (w:bD) (g:Nat->JO) (K:Nat)
def qlv(k:K<6)(Q:w.sl.length<=16)(O:∀e,(w.q.tb e).length<=100000)(M:∀j,j<w.sl.length->1<=(bl w j).l.length/\(bl w j).l.length<=1000)(i:Nat)(A:i<w.sl.length) :
 Pq 22 [] [0,0,2,1,2,2,2,2] [1,2,4,5,6,7] (bV w g K i) ((oB w K i).h []) .normal [1,2,4,5,6,7] (bV w g K (i+1)) ((oB w K (i+1)).h []):=by
 have run:=λ{p l B h J C h1 e} (q:cD 22 p l B h J=some (e,C,h1))=>cf [] q;have z:(oB w K i).ln K<=1000000:=by
  rw[Mp];have:=O K;split<;>omega
 let s:=oB w K i
 have I:=run ((qb5 w.sl.length i (λj=>(bl w j).c) (yI K) (.view 5 6 g none) (.own 0 6 0 6 none) (aM w.cr) (aX w.he) (aX w.fa) (uI w.d) .ag (.ah Z4) (.ah (YF w K).c) (F5 w) (s.h [])).trans (qk (wq bH) rfl));have H:=run ((qc7 s K (A2 w g) (.ah Z4) (aM w.cr) (aX w.he) (aX w.fa) (.ah (YF w K).c) (iI (ofNat i)) k).trans (qk au rfl));have E:Pq 22 [] [1,2,0,1,2,0,0,2,1,2,2,2,2] [1,2,4,5,6,7,8] (bV w g K i++[iI (ofNat (s.ln K))]) (s.h []) .normal [1,2,4,5,6,7,8,9] (bV w g K i++[iI (ofNat (s.ln K)),.ah [uI 0,.bool (w.q.Y K).w,aX (bl w i).l,cH (YF w K).pe (YF w K).np none]]) (s.h []):=by
  have q:=qb8 w.sl.length i (bl w) (yI K) (.view 5 6 g none) (.own 0 6 0 6 none) (aM w.cr) (aX w.he) (aX w.fa) (uI w.d) (.ah Z4) (F5 w) (iI (ofNat (s.ln K))) (.bool (YF w K).i) (iI (YF w K).pl) (iI (YF w K).ct) (w.q.Y K).w (YF w K).pe (YF w K).np (s.h []);have f:(decide ((0:Int)<=ofNat i)&&decide (ofNat i<ofNat w.sl.length))=true:=by simp;omega
  have a:=λ(b:Bool) (f:b=(w.q.Y K).w)=>vD (λb=>some (Ex.normal,bV w g K i++[iI (ofNat (s.ln K)),.ah [uI 0,.bool b,aX (bl w i).l,cH (YF w K).pe (YF w K).np none]],s.h [])) f;refine run (q.trans ?_);by_cases hw:(w.q.Y K).w=true
  .exact qk hw (qk f (a true hw.symm))
  .exact qF hw (qk f (a false (by cases h:(w.q.Y K).w;rfl;exact absurd h hw)))
 have D:=qsx w g K s (Rv w K i) k z i A (M i A);have N:Pq 22 [] [2,2,2,0,1,2,0,0,2,1,2,2,2,2] [1,2,4,5,6,7,9] (bV w g K i++[.ah (BE w K (s.ln K) i)]) (s.h []) .normal [1,2,4,5,6,7] (bV w g K i) ((oB w K (i+1)).h []):=by
  have a:∀x nt np o r cp,BE w K (s.ln K) i=BC x nt np o r cp->_:=λx nt np o r cp e=>by
   have q:=(qcc s K (A2 w g) (.ah Z4) (aM w.cr) (aX w.he) (aX w.fa) (.ah (YF w K).c) (iI (ofNat i)) x nt np o r cp k).trans
    (qk au (qk (qO ae) (qk (qO (by show(s.ln K+1)*57<=_;have:s.ln K<=1000000:=z;omega)) (qF (by rw[ZG ae];simp) rfl))))
   rw[←e] at q;exact Pz.post (run q) (v2:=bV w g K i) (h2:=(oB w K (i+1)).h []) λnt=>qoL s K (Rv w K i) k (BE w K (s.ln K) i) (qnm w K _ i) true rfl
  by_cases c:i=0
  .exact a _ _ _ _ _ _ (wl c)
  .exact a _ _ _ _ _ _ (we c)
 have u:=qbd (yI K) (A2 w g) (.ah Z4) (F5 w) (.ah (YF w K).c) i ((oB w K (i+1)).h []);rw[il ae] at u;exact av I (av (fi 1 (av H (av E (av D N)))) (run u))
end
def qsy(w:bD)(K:Nat)(x:K<6)(C:w.sl.length<=16)(a:w.fa=[])(H:∀e,(w.q.tb e).length<=100000)(Z:∀e,(w.q.Y e).pe.length<=1000000)(u:w.cr.length<=1000000)(r:w.he.length<=1000000)
 (D:∀j,j<w.sl.length->1<=(bl w j).l.length/\(bl w j).l.length<=1000) :
 ∃(X:Nat->Nat->JO) (U:Nat->JO),TO 22 [.agg (w.cc none),yI K] (.agg [.view 1 6 (λj=>[.view 4 ((w.q.tb j).length+if j=K then w.sl.length else 0) (X j) none]) none,aM w.cr,.ag,.view 2 1 U none]):=by
 have run:=λ{p l I h Q J h1 e} (q:cD 22 p l I h Q=some (e,J,h1))=>cf [] q;obtain⟨W,k⟩:=YM aw G17 20;have o:=Pw (λ_=>false) w C D Z (λe=>by have:=H e;omega) u r (by rw[a];exact wR _);obtain⟨g,wk⟩:=qqN w K
 let N:=w.sl.length
 have P:=eD (qC qp (zg k)) []
  ((qb1 W w (yI K) (.ah Z4) N 6 6 (bW N N (iv (λ_=>false) w)) (Kz 6 (YF w)) (di 6 (mr w)) (XA (λ_=>false) w N) (RS w 6)).trans (qk (zM k o) rfl))
 have O:=run (qb2 w (yI K) (.ah Z4) N 6 6 (bW N N (iv (λ_=>false) w)) (Kz 6 (YF w)) (di 6 (mr w)) (XA (λ_=>false) w N) (RS w 6));have M:=Pz.post (run (qc3 w (.ah Z4) (.ah [.own 18 6 0 6 none,aM w.cr,aX w.he,aX w.fa]) N 6 (bW N N (iv (λ_=>false) w)) (di 6 (mr w)) (YF w) (XA (λ_=>false) w N) (RS w 6) K x)) λnt=>wk _ nt _;have lp:Pq 22 [] [0,2,1,2,2,2,2] [1,2,4,5,6,7] (bV w g K 0) ((oB w K 0).h []) (.exit 0) [1,4,5] [yI K,.ah Z4,F5 w] ((oB w K N).h []) :=
  Pz.count qh (bV w g K) (λi=>(oB w K i).h []) (n:=N) au (λi S=>qlv w g K x C H D i S)
   (lk (run ((qvF N N (λj=>(bl w j).c) (yI K) (.view 5 6 g none) (.own 0 6 0 6 none) (aM w.cr) (aX w.he) (aX w.fa) (uI w.d) .ag (.ah Z4) (.ah (YF w K).c) (F5 w) ((oB w K N).h [])).trans (qF au rfl))))
 have z:=Pz.run qY qp (m:=2) (p:=[2,2,2,2,2]) (A:=az) (f:=22) (h0:=[]) qh qP ((qce (oB w K N) K (aM w.cr) (aX w.he) x).trans (qk au rfl));rw[show([]:List aL)=w.fa from a.symm] at z;have t:=Pz.told (A:=az) Qn Tryz.func22 qh qh (l:=[0,1]) rfl
  (av (run (qb0 w (ofNat K+1))) (av P (av O (av M
   (av (av (run (qb4 _ _ _ _ _ _)) (fi 0 lp)) z)))))
  (qcr (oB w K N) w.cr (ofNat K+1) (ofNat ((oB w K N).ln K)))
 let s:=oB w K N
 let E:=bE (ofNat K+1) (ofNat (s.ln K))
 refine⟨λe i=>((s.L e) (0+i)).map (resolve 2 [0,8] (s.h E)),_,(aI.fh t).tj (.cons (.view (.view (.inl rfl) λj R=>?_)) (.Ue (.Ue (.cons (.px _) .nil))))⟩;rw[show gT s (ofNat K+1) (ofNat (s.ln K)) j=[resolve 3 [0,8] (s.h E) (.own (1+(0+j)) (s.v (0+j)) 0 (s.ln (0+j)) none)] from rfl,wn];have B:(s.h E)[1+j]?=some (m7 s.ln s.v s.L j)/\[0,8].contains (1+j)=false:=by
  cases zy R
  all_goals exact⟨rfl,rfl⟩
 have V:resolve 3 [0,8] (s.h E) (.own (1+j) (s.v j) 0 (s.ln j) none)=(bif (true&&(s.v j==s.v j&&Nat.ble (0+s.ln j) (s.ln j))) then T.view 4 (s.ln j) (λi=>((s.L j) (0+i)).map (resolve 2 [0,8] (s.h E))) none else .undef):=by
  simp only[resolve,B.1,B.2];rfl
 rw[V,wF,qO (show 0+s.ln j<=s.ln j by omega)];rw[show s.ln j=(w.q.tb j).length+if j=K then w.sl.length else 0 from Mp w K j N];exact .refl _
def qf0(n:Nat)(G:Nat->Nat->ao)(l:Nat->Nat):cD 14 [1] [0] [.agg [bG G l n]] [] [1,2] =
( zN [.ah [bG G l n],.ah [.ag,.ag,.ag,.ag]] []):=qh
def qf1(p q r:JO->T->Prop)(n:Nat)(G:Nat->Nat->ao)(l:Nat->Nat)(w:bD)(y:Int)(g a:Nat->JO)(cr:List aV):cK (((qv.add 19 (Qa p λ_=>some (.agg (w.cc none)))).add 28 (Qa q λ_=>some (uI y))).add 22 (Qa r λ_=>some (.agg [.view 1 6 g none,aM cr,.ag,.view 2 1 a none]))) 14 [1,2] [1,2] [.ah [bG G l n],.ah Z4] [] [2] =
( gD (qM (p [.agg [bG G l n],iI (.ofNat n)] (.agg (w.cc
 none))))<|gD (decide (0<=i64.wrap (ofNat n-1))&&decide (i64.wrap (ofNat n-1)<ofNat n))<|gD (qM (q [aU (G (i64.wrap (ofNat n-(1:Int))).toNat) (l (i64.wrap (ofNat n-(1:Int))).toNat)
 none] (uI y)))<|gD (qM (r [.agg (w.cc
 none),uI y] (.agg [.view 1 6 g
 none,aM cr,.ag,.view 2 1 a
 none])))<|zN [.ah [.view 1 6 g
 none,aM cr,.ag,.view 2 1 a
 none]] []):=qh
def qf3(a:T):cD 14 [2,2] [2] [a] [] [2] =
( zR [a] []):=qh
def qg1(w:Int)(C:Nat->Nat->Int)(M:Nat->Nat)(h:Nat):cD 6 [1] [0] [.agg (cw w C M h)] [] [1] =
( zN [.ah (cw w C M h)] []):=qh
def qg2(p:JO->T->Prop)(w:Int)(C:Nat->Nat->Int)(M:Nat->Nat)(h n:Nat)(G:Nat->Nat->ao)(l:Nat->Nat):cK (qv.add 11 (Qa p λ_=>some (.agg [bG G l n]))) 6 [1,2] [1] [.ah (cw w C M h)] [] [3] =
( gD (qM (p [.agg (cw w C M h)] (.agg [bG G l n])))<|zN [.ah [bG G l n]] []):=qh
def qg3(p:JO->T->Prop)(n:Nat)(G:Nat->Nat->ao)(l:Nat->Nat)(g:Nat->JO):cK (qv.add 24 (Qa p λ_=>some (.aK [.view 1 6 g (some 6),iI 0]))) 6 [1,2,2] [3] [.ah [bG G l n]] [] [3,4,5] =
( gD (qM (p [.agg [bG G l n]] (.aK [.view 1 6 g (some 6),iI 0])))<|zN [.ah [bG G l n],.view 1 6 g (some 6),iI 0] []):=qh
def qg4(p:JO->T->Prop)(n:Nat)(G:Nat->Nat->ao)(l:Nat->Nat)(g a:Nat->JO)(cr:List aV)(e f:T):cK (qv.add 14 (Qa p λ_=>some (.agg [.view 1 6 g none,aM cr,.ag,.view 2 1 a none]))) 6 [1,2,2,2] [3,4,5] [.ah [bG G l n],e,f] [] [4,5,6] =
( gD (qM (p [.agg [bG G l n]] (.agg [.view 1 6 g
 none,aM cr,.ag,.view 2 1 a
 none])))<|zN [e,f,.ah [.view 1 6 g
 none,aM cr,.ag,.view 2 1 a
 none]] []):=qh
def qg5(p:JO->T->Prop)(a:Nat->Int)(b:Nat->Nat)(f:Nat->Nat->JO)(d:Nat->JO)(cr:List aV):y9 aw G17 az (qv.add 16 (Qa p λ_=>some (.bool true))) 8 6 [] (iX [2,2,2,2]) [4,5,6] [.view 1 6 (λj=>[iI (a j)]) (some 6),iI 0,.ah [.view 1 6 (λj=>[.view 4 (b j) (f j) none]) none,aM cr,.ag,.view 2 1 d none]] [] [2] =
( bif !decide (a 0=ofNat (b (0:Nat))) then zR [.bool false] [] else
 bif !decide (a 1=ofNat (b (1:Nat))) then zR [.bool false] [] else
 bif !decide (a 2=ofNat (b (2:Nat))) then zR [.bool false] [] else
 bif !decide (a 3=ofNat (b (3:Nat))) then zR [.bool false] [] else
 bif !decide (a 4=ofNat (b (4:Nat))) then zR [.bool false] [] else
 bif !decide (a 5=ofNat (b (5:Nat))) then zR [.bool false] [] else
 gD (qM (p [] (.bool true)))<|zR [.bool true] []):=qh
def qf2(g a:Nat->JO)(cr:List aV):ZE aw G17 (az 14).aa Tryz.f14 (qB [2] [.ah [.view 1 6 g none,aM cr,.ag,.view 2 1 a none]] []) (λv=>some (ye [] v)) =
( some (.agg [.view 1 6 g
 none,aM cr,.ag,.view 2 1 a
 none])):=qh
def my(f:Nat->Nat):Nat->Nat
 |0=>0
 |i+1=>my f i+f i
def Rx{f g:Nat->Nat}:∀n,(∀i,i<n->f i=g i)->my f n=my g n
 |0,_=>rfl
 |n+1,h=>by
  show my f n+f n=my g n+g n;rw[Rx n λi a=>h i ae,h n ae]
def qiv{f:Nat->Nat}:∀n,(∀i,i<n->f i=0)->my f n=0
 |0,_=>rfl
 |n+1,h=>by
  show my f n+f n=0;rw[qiv n λi a=>h i ae,h n ae]
def qkG(f:Nat->Nat)(n:Nat):∀k,k<=n->my (λt=>f (n-1-t)) k+my f (n-k)=my f n
 |0,_=>by show 0+my f n=_;omega
 |k+1,h=>by
  have a:=qkG f n k ae;show my (λt=>f (n-1-t)) k+f (n-1-k)+my f (n-(k+1))=_;obtain⟨m,d⟩:∃m,n-k=m+1:=⟨n-k-1,ae⟩;rw[d] at a;have a:my (λt=>f (n-1-t)) k+(my f m+f m)=my f n:=a;rw[show n-(k+1)=m by omega,show n-1-k=m by omega];omega
def qqO(f:Nat->Nat)(n:Nat)(right:Bool):my (λt=>f (jx right n t)) n=my f n:=by
 cases right with
 |true=>rfl
 |false =>
  have:=qkG f n n (wc _);rw[wW] at this;exact this
def Ry(q:Ys)(K:Nat)(b:Int)(th:List aL)(e:Nat):((q.loop K b th).tb e).length=(q.tb e).length+if e=K then 1 else 0:=by
 show(aB q.tb K (q.tb K++[(q.Y K).lp b th]) e).length=_;unfold aB;by_cases c:e=K
 .rw[wl c,wl c,wD,c];rfl
 .rw[we c,we c];rfl
def Rz(K e:Nat):∀(l:List aF) (q:Ys),((lA K q l).1.tb e).length=(q.tb e).length+if e=K then l.length else 0
 |[],q=>by show(q.tb e).length=_;split<;>rfl
 |s::l,q=>by
  show((lA K (q.loop K s.b s.l) l).1.tb e).length=_;rw[Rz K e l,Ry];split
  .rw[vc];omega
  .rfl
def qqP(K:Nat)(right:Bool)(s:ao)(q:Ys)(l:List aF)(e:Nat):((nZ K right s q l).1.tb e).length=(q.tb e).length+if e=K then sR s l else 0:=by
 unfold nZ sR;by_cases f:s.k=3
 .rw[wl f,wl (show s.k=3∨s.k=6 from .inl f)];exact Ry q K 0 [] e
 .rw[we f];by_cases d:s.k=6
  .rw[wl d,wl (show s.k=3∨s.k=6 from .inr d)];exact Ry q K 0 [] e
  .rw[we d,we (show ¬(s.k=3∨s.k=6) by omega)];by_cases a:s.k=7
   .rw[wl a,wl a];show(q.tb e).length=_;split<;>rfl
   .rw[we a,we a];unfold AS;cases right with
    |true=>exact Rz K e l q
    |false=>have:=Rz K e l.reverse q;rw[vO] at this;exact this
def qoM(K:Nat)(right:Bool)(q:Ys)(l:List aF):(uM K right q l).tb=q.tb:=by
 unfold uM;generalize (bif right then l else l.reverse)=m
 induction m generalizing q with
 |nil=>rfl
 |cons s m a=>exact a _
def RA(K:Nat)(right a:Bool)(G:Nat->ao)(n:Nat)(z:OS)(e:Nat):∀i,i<=n->((fw K right a G n z i).q.tb e).length=(z.q.tb e).length+if e=K/\a=true then my (λt=>if (G (jx right n t)).y=ofNat K+1 then sR (G (jx right n t)) (z.r.sl (jx right n t)) else 0) i else 0
 |0,_=>by show(z.q.tb e).length=_;split<;>rfl
 |i+1,j=>by
  have d:=RA K right a G n z e i ae;obtain⟨g,_,_⟩:=EZ K right a G n z i ae i (wc _) ae;obtain⟨f,_⟩:=EY K right a (G (jx right n i)) (jx right n i) (fw K right a G n z i);show((lO K right a (G (jx right n i)) (jx right n i) (fw K right a G n z i)).q.tb e).length=_;rw[f,g];unfold lL;by_cases m:a=true/\(G (jx right n i)).y=ofNat K+1
  .rw[wl m,qqP,d];by_cases c:e=K
   .rw[wl c,wl ⟨c,m.1⟩,wl ⟨c,m.1⟩];show _=_+(my _ i+if (G (jx right n i)).y=ofNat K+1 then _ else 0);rw[wl m.2];omega
   .rw[we c,we (λq=>c q.1),we (λq=>c q.1)]
  .rw[we m,qoM,d];by_cases c:e=K/\a=true
   .rw[wl c,wl c];show _=_+(my _ i+if (G (jx right n i)).y=ofNat K+1 then _ else 0);rw[we (λq=>m ⟨c.2,q⟩),xV]
   .rw[we c,we c]
def qpl(w:bD)(G:Nat->ao)(n:Nat)(right:Bool)(pre:∀k,k<n->m6 (G k) (cP w G k))(e:Nat):∀K,((zI w G n right K).q.tb e).length=(w.q.tb e).length+if e<K then my (λt=>if (G t).y=ofNat e+1 then sR (G t) (cP w G t) else 0) n else 0
 |0=>by show(w.q.tb e).length=_;rw[we (vm e)];rfl
 |K+1=>by
  have g:=qpl w G n right pre e K;have inv:=Md w G n right pre K;show((ut G n right K (zI w G n right K)).q.tb e).length=_;generalize zI w G n right K=z at g inv;unfold ut;by_cases d:Bt ((List.range n).map G) K=false
  .rw[wl d,g];by_cases c:e<K
   .rw[wl c,wl ae]
   .rw[we c];by_cases f:e=K
    .rw[wl ae,qiv n λt i=>we λa=>?_];unfold Bt at d;rw[List.any_eq_false] at d;exact d (G t) (vb.2 ⟨t,vQ.2 i,rfl⟩) (wq (by rw[a,f]))
    .rw[we ae]
  .rw[we d];have s:∀q:Ys,(nW q right K).tb=q.tb:=λq=>by unfold nW;split<;>rfl
   have u:((si G n right K (nW z.q right K) z.r).tb e).length=(z.q.tb e).length:=by
    unfold si;split
    .have:=RA K (!right) false G n ⟨nW z.q right K,z.r,0⟩ e n (wc _);rw[we (λq=>by cases q.2)] at this;rw[this];show((nW z.q right K).tb e).length+0=_;rw[s];rfl
    .rw[s]
   show((fw K right true G n ⟨si G n right K (nW z.q right K) z.r,z.r,0⟩ n).q.tb e).length=_;have o:=RA K right true G n ⟨si G n right K (nW z.q right K) z.r,z.r,0⟩ e n (wc _);rw[o];show((si G n right K (nW z.q right K) z.r).tb e).length+(if e=K/\true=true then my (λt=>(λj=>if (G j).y=ofNat K+1 then sR (G j) (z.r.sl j) else 0) (jx right n t)) n else 0)=_;rw[u,g,qqO (λj=>if (G j).y=ofNat K+1 then sR (G j) (z.r.sl j) else 0) n right];by_cases c:e<K
   .rw[wl c,we ae,wl ae,xV]
   .rw[we c];by_cases f:e=K
    .subst f;rw[wl ⟨rfl,rfl⟩,wl ae];rw[xV];congr 1;refine Rx n λt i=>?_;by_cases a:(G t).y=ofNat e+1
     .rw[wl a,wl a,(inv.new t i (by rw[a];simp only[wu];omega)).1]
     .rw[we a,we a]
    .rw[we (λq=>f q.1),we ae]
def tg(s:ao):Nat:=if s.k=7 then 0 else s.mN
def qqQ{w:bD}{A:Nat->Bool}{s:ao}{a:Nat}(fit:pQ w A s a):sR s (lz s (fJ s (w.sl.drop a)))=tg s:=by
 have f:=ao.DT fit.v;have e:=vD List.length (XZ fit);rw[wQ,wQ,xt] at e;unfold sR tg;by_cases c:s.k=3∨s.k=6
 .rw[wl c,we ae,f,we ae]
 .rw[we c];by_cases d:s.k=7
  .rw[wl d,wl d]
  .rw[we d,we d,←e];unfold uN;rw[we ae,we ae,we d,wQ]
def qqR{w:bD}{G:Nat->ao}{n:Nat}(right:Bool)(hw:Ar w)(fit:mL w G n)(e:Nat)(he:e<6):((DQ w G n right).q.tb e).length=(w.q.tb e).length+my (λt=>if (G t).y=ofNat e+1 then tg (G t) else 0) n:=by
 show((zI w G n right 6).q.tb e).length=_;rw[qpl w G n right (λk d=>Hn (fit.at d) hw.l) e 6,wl he];congr 1;refine Rx n λt a=>?_;split
 .exact qqQ (fit.at a)
 .rfl
def DW(r:Nat->ao)(n e:Nat):Nat:=my (λt=>if (r t).y=ofNat e+1 then tg (r t) else 0) n
def HJ(G:Nat->Nat->ao)(l:Nat->Nat)(e:Nat):Nat->Nat:=my λi=>DW (G i) (l i) e
def Mq{f:Nat->Nat}{b:Nat}:∀n,(∀i,i<n->f i<=b)->my f n<=b*n
 |0,_=>wR _
 |n+1,h=>by
  have a:=Mq (f:=f) (b:=b) n λi d=>h i ae;have:=h n ae;show my f n+f n<=b*(n+1);rw[Nat.mul_succ];omega
def RB{s:ao}(ok:s.Ok):tg s<=16/\(s.k≠7->s.m=ofNat (tg s)):=by
 have:=ao.nS s ok;unfold tg ao.mN;by_cases c:s.k=7
 .rw[wl c];exact⟨ae,λh=>absurd c h⟩
 .rw[we c];exact⟨ae,λ_=>bH⟩
def RC{C:Nat->Int}{K e a:Nat}{x:Nat}(hC:C e=ofNat a)(d:a+x<=1000000):AU C K (x:Int) e=ofNat (a+if e=K then x else 0):=by
 unfold AU;by_cases c:e=K
 .rw[wl c,wl c,hC,Qp bH bH];simp
 .rw[we c,we c,hC];rfl
def qnn{C:Nat->Int}{r:Nat->ao}{e a:Nat}(hC:C e=ofNat a)(ok:∀j,(r j).Ok)(y:∀j,1<=(r j).y/\(r j).y<=6):∀k,a+16*k<=1000000->Av C r k e=ofNat (a+DW r k e)
 |0,_=>hC
 |k+1,g=>by
  have f:=qnn hC ok y k ae;have le:DW r k e<=16*k:=Mq k λi _=>by split;exact(RB (ok i)).1;omega
  have b:=RB (ok k);show HD (Av C r k) (r k) e=ofNat (a+(DW r k e+if (r k).y=ofNat e+1 then tg (r k) else 0));unfold HD;by_cases d:(r k).k=7
  .have:tg (r k)=0:=wl d;rw[wl d,f,this];congr 1;split<;>omega
  .rw[we d,b.2 d,wu,RC f ae];have:=y k;by_cases c:e=((r k).y-1).toNat
   .rw[wl c,wl bH,vG]
   .rw[we c,we bH];rfl
def qkH{C:Nat->Int}{G:Nat->Nat->ao}{l:Nat->Nat}{e a:Nat}(hC:C e=ofNat a)(ok:∀i j,(G i j).Ok)(y:∀i j,1<=(G i j).y/\(G i j).y<=6)(d:∀i,l i<=16):∀k,a+256*(k+1)<=1000000->CQ C G l k e=ofNat (a+HJ G l e k)
 |0,_=>hC
 |k+1,g=>by
  have f:=qkH hC ok y d k ae;have le:HJ G l e k<=256*k:=Mq k λi _=>by
   have:DW (G i) (l i) e<=16*l i:=Mq (l i) λj _=>by split;exact(RB (ok i j)).1;omega
   have:=d i;omega
  have:=d k;show Av (CQ C G l k) (G k) (l k) e=ofNat (a+(HJ G l e k+DW (G k) (l k) e));rw[qnn f (ok k) (y k) (l k) ae,vG]
def Cp.CS(c:Cp):∀i,(c.wk i).fa=[]
 |0=>rfl
 |i+1=>c.CS i
def Cp.CU(c:Cp)(e:Nat)(he:e<6):∀i,i<=9->((c.wk i).q.tb e).length=(if e=c.K then(c.ld 0).1 else 0)+HJ c.rw c.rn e i
 |0,_=>by
  show(((yY c.K (c.w%8+1)).tb e)).length=_;rw[jw];split
  .rw[wQ,xt];rfl
  .rfl
 |i+1,d=>by
  obtain⟨a,h⟩:=c.rV i ae;show((DQ (c.wk i) (c.rw i) (c.rn i) (decide (i%2=1))).q.tb e).length=_+(HJ c.rw c.rn e i+DW (c.rw i) (c.rn i) e);rw[qqR _ (h.j.DR ae ae) (c.BA i h.ld) e he,c.CU e he i ae,vG];rfl
def Cp.DX(c:Cp)(e:Nat)(he:e<6):c.rf e=ofNat (((c.wk c.aJ).q.tb e).length+if e=c.L then(c.wk c.aJ).sl.length else 0):=by
 obtain⟨m1,f,_⟩:=c.iR;obtain⟨d,h⟩:=c.rV c.aJ ae;have o:=c.iu 0;have k:=c.iu c.aJ;have a:HE e=ofNat 0:=rfl;have j:=RC (K:=c.K) (x:=(c.ld 0).1) a ae;have g:=RC (K:=c.L) (x:=(c.ld c.aJ).1) j (by split<;>omega);have:=qkH (G:=c.rw) (l:=c.rn) g (λi=>c.pT i) c.yb (λi=>by have:=(c.fB i).2.2;omega) c.aJ (by split<;>split<;>omega);unfold Cp.rf;rw[this,c.CU e he c.aJ f,h.ld.n];congr 1;omega
def BH:JO->ao
 |[.int .u8 k,.int .u8 y,.int .i64 a,.int .i64 b,.bool f]=>⟨k,y,a,b,f⟩
 |_=>⟨0,0,0,0,false⟩
def E6:JO->Bool
 |[.int .u8 _,.int .u8 _,.int .i64 _,.int .i64 _,.bool _]=>true
 |_=>false
def qqS{l:JO}(h:E6 l=true):l=(BH l).c:=by
 unfold E6 at h;split at h
 .rfl
 .cases h
def qno(g:Nat->JO)(n:Nat)(c:Option Nat)(y:Int)(a:n<=1000000)(e:∀j,j<n->E6 (g j)=true):TO 149 [.view 5 n g c,KL y] (.bool (uG (λj=>BH (g j)) n y)) :=
 (qnP (λj=>BH (g j)) n c y a).IN (.cons (.view (.inl rfl) λj d=>by rw[←qqS (e j d)];exact .refl _) (.refl _))
def lu(us:Int->Bool)(k:Nat):List Int:=((List.range k).map λ(i:Nat)=>(i:Int)+1).filter us
def Mr(us:Int->Bool)(k:Nat):lu us (k+1)=if us ((k:Int)+1)=true then lu us k++[(k:Int)+1] else lu us k:=by
 unfold lu;rw[xj,vF,List.filter_append];by_cases h:us ((k:Int)+1)=true
 .rw[wl h];simp[h]
 .rw[we h];simp[h]
def qiw(us:Int->Bool){k:Nat}(a:us ((k:Int)+1)=true):∀m,k<m->∃r,lu us m=lu us k++((k:Int)+1)::r
 |0,h=>by omega
 |m+1,h=>by
  rcases wt k m with q|q
  .obtain⟨r,hr⟩:=qiw us a m q;rw[Mr];split
   .exact⟨r++[(m:Int)+1],by rw[hr];simp⟩
   .exact⟨r,hr⟩
  .obtain rfl:k=m:=by omega
   rw[Mr,wl a];exact⟨[],rfl⟩
def bx:Nat->Nat->JO
 |0,e=>[uI (bif e==0 then 1 else 0)]
 |k+1,e=>[uI (bif e==0 then ofNat (k+2) else bif e==0 then ofNat (k+1) else 0)]
def zF(k:Nat):qa:=(List.range (k+1)).map λi=>⟨0,1,1,bx i,true,false,none⟩
def Yh(l:Nat)(row:T)(k:Nat):JO:=[.rW l,.vp [row],.ptr k 0 0 0]
noncomputable def RD(p:JO->T->Prop)(b:Bool):bA:=qv.add 149 (Qa p λ_=>some (.bool b))
def qqU(g:Nat->JO)(n:Nat)(c:Option Nat)(us:Int->Bool)(u4:∀y,TO 149 [.view 5 n g c,KL y] (.bool (us y))):nz aw G17 147 [.vp [.view 5 n g c]] (lu us 6).length (λi=>[uI ((lu us 6).getD i 0)]):=by
 obtain⟨p,M⟩:=qE aw G17 149;have Q:∀b,OO (RD p b):=λb=>qr qp (qq M);refine qlX (aa:=[]) Tryz.func147 rfl qh qh (by decide +kernel) (xu qh) λl R J Jx a Cf hy X g0 w W hi=>?_;refine wpIn_seq ?_;refine It.AG (m:=0) (l:=[0,1]) (vs:=[.rW l,.vp [.view 5 n g c]]) (h:=[]) (l':=[0,1,3]) (aS:=Yh l (.view 5 n g c) 0) (h':=zF 0) (e:=.normal) qY qp (by decide +kernel) qh qh (a 0) (hi.only _) λX1 g1 a1 W1 Lr=>?_;refine wpIn_block ?_;refine yM (λm Z W=>∃(k:Nat) (X:Nat->Prop) (gg:Gh),k<=6/\m=6-k/\It G17 [] Tryz.f147.ntmps R (J (lu us k).length) X gg (qB [0,1,3] (Yh l (.view 5 n g c) k) (zF k)) Z W) (λm Z W hI=>?_) 6 a1 W1 ⟨0,X1,g1,ae,ae,Lr⟩;obtain⟨k,X5,g5,ci,rfl,x⟩:=hI;refine wpIn_seq ?_;rcases wt k 6 with LM|LM
 .have H:=u4 ((k:Int)+1);have o:k=0∨k=1∨k=2∨k=3∨k=4∨k=5:=by omega
  refine It.AG (m:=0) (l:=[0,1,3]) (vs:=Yh l (.view 5 n g c) k) (h:=zF k) (l':=[0,1,3]) (aS:=Yh l (.view 5 n g c) k) (h':=zF k) (e:=.normal) qY qp (by decide +kernel) (by rcases o with rfl|rfl|rfl|rfl|rfl|rfl<;>kernel_rfl) qh (a _) x λX6 g6 a6 W6 P=>?_;refine wpIn_seq ?_;refine wpIn_block ?_;refine wpIn_seq ?_;refine It.AG (m:=0) (l:=[0,1,3]) (vs:=Yh l (.view 5 n g c) k) (h:=zF k) (l':=[0,1,3,4]) (aS:=Yh l (.view 5 n g c) k++[.fn 148 [.ptr k 0 0 0]]) (h':=zF k) (e:=.normal) qY qp (by decide +kernel) (by rcases o with rfl|rfl|rfl|rfl|rfl|rfl<;>kernel_rfl) qh (a _) P λX7 g7 a7 W7 u=>?_;refine wpIn_seq ?_;cases s:us ((k:Int)+1) with
  |false =>
   rw[s] at H;have N:lu us (k+1)=lu us k:=by rw[Mr,we (by rw[s];simp)]
   refine It.AG (m:=0) (K:=RD p false) (l:=[0,1,3,4]) (vs:=Yh l (.view 5 n g c) k++[.fn 148 [.ptr k 0 0 0]]) (h:=zF k) (l':=[0,1,3,18]) (aS:=Yh l (.view 5 n g c) k++[.bool false]) (h':=zF k) (e:=.normal) qY (Q false) (by decide +kernel) (Eq.trans (b:=bif qM (p [(.view 5 n g c),KL ((k:Int)+1)] (.bool false)) then some (.normal,Yh l (.view 5 n g c) k++[.bool false],zF k) else none) (by rcases o with rfl|rfl|rfl|rfl|rfl|rfl<;>kernel_rfl) (qk (qu M H) rfl)) qh (a _) u λX8 S Y W8 D=>?_;refine It.AG (m:=0) (l:=[0,1,3,18]) (vs:=Yh l (.view 5 n g c) k++[.bool false]) (h:=zF k) (l':=[0,1,3]) (aS:=Yh l (.view 5 n g c) k) (h':=zF k) (e:=.normal) qY qp (by decide +kernel) (by rcases o with rfl|rfl|rfl|rfl|rfl|rfl<;>kernel_rfl) qh (a _) D λX9 g9 a9 W9 O=>?_;refine It.AG (m:=0) (l:=[0,1,3]) (vs:=Yh l (.view 5 n g c) k) (h:=zF k) (l':=[0,1,3]) (aS:=Yh l (.view 5 n g c) (k+1)) (h':=zF (k+1)) (e:=.normal) qY qp (by decide +kernel) (by rcases o with rfl|rfl|rfl|rfl|rfl|rfl<;>kernel_rfl) qh (a _) O λC B V A E=>?_;exact⟨6-(k+1),ae,k+1,C,B,ae,rfl,by rw[N];exact E⟩
  |true =>
   rw[s] at H;obtain⟨r,hr⟩:=qiw us s 6 LM;have N:(lu us (k+1)).length=(lu us k).length+1:=by rw[Mr,wl s];simp
   have U:(lu us k).length<(lu us 6).length:=by rw[hr];simp
   have fm:(lu us 6).getD (lu us k).length 0=(k:Int)+1:=by rw[hr];simp
   refine It.yield (K:=RD p true) (k:=6) (l:=[0,1,3,4]) (l':=[0,1,3,18]) (vs:=Yh l (.view 5 n g c) k++[.fn 148 [.ptr k 0 0 0]]) (h:=zF k) (hT:=zF k) (hF:=zF k)
    (vsT:=Yh l (.view 5 n g c) k++[.bool false]) (vsF:=Yh l (.view 5 n g c) k++[.bool true]) (Q true) (l0:=l) (xs:=[uI ((k:Int)+1)]) (Eq.trans (b:=bif qM (p [(.view 5 n g c),KL ((k:Int)+1)] (.bool true)) then some (l,[uI ((k:Int)+1)],(Yh l (.view 5 n g c) k++[.bool false],zF k),(Yh l (.view 5 n g c) k++[.bool true],zF k)) else none) (by rcases o with rfl|rfl|rfl|rfl|rfl|rfl<;>kernel_rfl) (qk (qu M H) rfl)) rfl (a _) (a ((lu us k).length+1)) (Cf (lu us k).length) u (λX W z hj I=>hy (lu us k).length X W z U hj (by rw[fm];exact I)) (λX8 S Y W8 D=>?_) (λX8 S Y W8 D=>?_)
   .refine It.AG (m:=0) (l:=[0,1,3,18]) (vs:=Yh l (.view 5 n g c) k++[.bool false]) (h:=zF k) (l':=[0,1,3]) (aS:=Yh l (.view 5 n g c) k) (h':=zF k) (e:=.normal) qY qp (by decide +kernel) (by rcases o with rfl|rfl|rfl|rfl|rfl|rfl<;>kernel_rfl) qh (a _) D λX9 g9 a9 W9 O=>?_;refine It.AG (m:=0) (l:=[0,1,3]) (vs:=Yh l (.view 5 n g c) k) (h:=zF k) (l':=[0,1,3]) (aS:=Yh l (.view 5 n g c) (k+1)) (h':=zF (k+1)) (e:=.normal) qY qp (by decide +kernel) (by rcases o with rfl|rfl|rfl|rfl|rfl|rfl<;>kernel_rfl) qh (a _) O λC B V A E=>?_;exact⟨6-(k+1),ae,k+1,C,B,ae,rfl,by rw[N];exact E⟩
   .refine It.AG (m:=0) (l:=[0,1,3,18]) (vs:=Yh l (.view 5 n g c) k++[.bool true]) (h:=zF k) (l':=[]) (aS:=[]) (h':=zF k) (e:=.ret) qY qp (by decide +kernel) (by rcases o with rfl|rfl|rfl|rfl|rfl|rfl<;>kernel_rfl) qh (Cf _) D λC B V A E=>?_;exact⟨.inr rfl,C,B,_,.inr ⟨_,U,E⟩⟩
 .obtain rfl:k=6:=by omega
  refine It.AG (m:=0) (l:=[0,1,3]) (vs:=Yh l (.view 5 n g c) 6) (h:=zF 6) (l':=[]) (aS:=[]) (h':=zF 6) (e:=.exit 0) qY qp (by decide +kernel) qh qh (a _) x λX6 g6 a6 W6 P=>?_;exact⟨.inl rfl,X6,g6,_,.inl P⟩
def tK:FuncId->JO->Option (List JO):=λf a=>bif f==147 then match a with
 |[.vp [.view 5 n g _]]=>bif Nat.ble n 1000&&(List.range n).all (λj=>E6 (g j)) then some ((lu (uG (λj=>BH (g j)) n) 6).map λy=>[uI y]) else none
 |_=>none else none
def Zw:JI aw G17 tK:=λM Q l h=>by
 unfold tK at h;obtain⟨A,k⟩:=qm h;obtain rfl:M=147:=by simpa using A
 split at k
 .rename_i n g c;obtain⟨B,H⟩:=qm k;have o:Nat.ble n 1000=true/\(List.range n).all (λj=>E6 (g j))=true:=by simpa only[wg] using B
  have h1:=o.1;have I:∀j,j<n->E6 (g j)=true:=λj f=>wA.1 o.2 j (vQ.2 f);obtain rfl:=wa H;have key:=qqU g n c (uG (λj=>BH (g j)) n) λy=>qno g n c y (by have:=Qg h1;omega) I;rw[wQ];have e:(λi=>(List.map (λy=>[uI y]) (lu (uG (λj=>BH (g j)) n) 6)).getD i [])=λi=>(if i<(lu (uG (λj=>BH (g j)) n) 6).length then [uI ((lu (uG (λj=>BH (g j)) n) 6).getD i 0)] else []):=by
   funext i;rw[wh,wE,wh];by_cases q:i<(lu (uG (λj=>BH (g j)) n) 6).length
   .rw[wl q,wj q];rfl
   .rw[we q,wz ae];rfl
  rw[e];refine⟨key.enters,λw U u D N C=>?_⟩;have s:=key.it w U u D N C;exact λl J O E P x W a b c=>s l J O E P (λi X W d r f z=>x i X W d r f (by dsimp only;rw[wl r];exact z)) W a b c
 .cases k
def qsz:Wa:=[150,114,71,104,72,73,74,75,118,80,83,120,139,92,168,185,188,189,190,191,174,175,176,177,97,170,112,172,109,167,145,113,116,87,125,151,48,52,55]
def qsA:Wa:=[40,42,79,36,17,12,78]
def qsB(s:St):Wa:=match s.at 4,s.at 5,s.at 7,s.at 9 with
 |.ptr f _ _ _,.ptr e _ _ _,.ptr d _ _ _,.ptr a _ _ _=>match s.h[a]? with
  |some x=>match x.get 0 with
   |.ptr sb _ _ _::_=>match s.h[sb]? with
    |some y=>match y.get 0 with
     |[_,_,_,.own tb _ _ _ _,_]=>[f,e,d,a,sb,tb]
     |_=>[]
    |none=>[]
   |_=>[]
  |none=>[]
 |_,_,_,_=>[]
def uw:FuncId->Option sU:=λf=>bif f==79 then some ⟨4,[4,5,7,9],1,[4,5,7,9],qsB,[109]⟩ else none
noncomputable def tM:bA:=KF aw G17 az tK uw (λf=>!(qsz.contains f)) (λf=>qsA.contains f) (λ_=>false) 40 qv 10
def Zx:OO tM:=RJ qY Qn Zw 40 qp 10
def DY(l:List JO):aq:=⟨0,(l.headD []).length,l.length,λj=>l.getD j [],false,Nat.ble l.length 8,none⟩
def stK(y:Int):JO:=[uI 1,uI y,iI 0,iI 0,.bool false]
def qsC:T:=.view 5 2 (λj=>bif j==0 then stK 1 else stK 1) none
def idv(y n:Int):JO:=[uI y,iI n]
def lst(l:List JO):T:=.view (l.headD []).length l.length (λj=>l.getD j []) none
def hx:qa:=[DY [[qsC,.own 3 0 0 2 (some 2),.own 1 0 0 6 (some 6),.own 2 0 0 6 (some 6),uI 0]],
 DY ([.bool true,iI 179,iI 2,.bool false,.ag]::List.replicate 5 [.bool false,iI 0,iI 0,.bool false,.ag]),
 DY ([.own 6 0 0 2 (some 2)]::List.replicate 5 [.ag]),
 DY [[.own 4 0 0 1 (some 1)],[.own 5 0 0 1 (some 1)]],
 DY [[uI 0,lst [idv 1 0]]],DY [[uI 0,lst [idv 1 1]]],
 DY [[uI 0,.bool true,.ag,.ag],[uI 0,.bool false,.ag,.ag]]]
def E8:T:=.agg [vw 1 none [[vw 5 none [[uu 1,uu 1,ii 0,ii 0,.bool false],[uu 1,uu 1,ii 0,ii 0,.bool false]]]]]
def HX:T:=.agg [vw 2 (some 2) [[uu 0,vw 2 (some 1) [[uu 1,ii 3]]],[uu 0,vw 2 (some 1) [[uu 1,ii 2]]]],vw 5 (some 6) [[.bool true,ii (-13),ii 4,.bool false,vw 4 (some 0) []],[.bool false,ii 0,ii 0,.bool false,vw 4 (some 0) []],[.bool false,ii 0,ii 0,.bool false,vw 4 (some 0) []],[.bool false,ii 0,ii 0,.bool false,vw 4 (some 0) []],[.bool false,ii 0,ii 0,.bool false,vw 4 (some 0) []],[.bool false,ii 0,ii 0,.bool false,vw 4 (some 0) []]],vw 1 (some 6) [[vw 4 (some 4) [[uu 0,.bool true,vw 2 (some 0) [],vw 4 (some 0) []],[uu 0,.bool false,vw 2 (some 0) [],vw 4 (some 0) []],[uu 0,.bool false,vw 2 (some 1) [[uu 1,ii 1]],vw 4 (some 0) []],[uu 0,.bool false,vw 2 (some 1) [[uu 1,ii 0]],vw 4 (some 0) []]]],[vw 4 (some 0) []],[vw 4 (some 0) []],[vw 4 (some 0) []],[vw 4 (some 0) []],[vw 4 (some 0) []]],vw 5 (some 0) [],vw 2 (some 2) [[uu 1,ii 3],[uu 1,ii 2]],vw 2 (some 0) [],uu 1]
def qsD:TO 17 [E8,iI 1] (.aK [HX,ii 0]):=zB (o:=Ya aw G17 az tK uw tM 40 17 [E8,iI 1]) (d:=9) (λr h=>QI (m:=40) qY Qn Zx Zw h) qh
def Mx:T:=.aK [.agg [vw 1 (some 6) [[vw 4 (some 6) [[uu 0,.bool true,vw 2 (some 0) [],vw 4 (some 0) []],[uu 0,.bool false,vw 2 (some 0) [],vw 4 (some 0) []],[uu 0,.bool false,vw 2 (some 1) [[uu 1,ii 1]],vw 4 (some 0) []],[uu 0,.bool false,vw 2 (some 1) [[uu 1,ii 0]],vw 4 (some 0) []],[uu 0,.bool false,vw 2 (some 1) [[uu 1,ii 3]],vw 4 (some 0) []],[uu 0,.bool false,vw 2 (some 2) [[uu 1,ii 4],[uu 1,ii 2]],vw 4 (some 1) [[uu 1,ii 4,.bool true,uu 0]]]]],[vw 4 (some 0) []],[vw 4 (some 0) []],[vw 4 (some 0) []],[vw 4 (some 0) []],[vw 4 (some 0) []]],vw 5 (some 0) [],.ag,vw 2 (some 1) [[uu 1,ii 5]]],ii 0]
def qsE:TO 21 [HX,uI 1] Mx:=zB (o:=(HZ aw G17 az tM 40 7 21 [HX,uI 1]).map fh) (d:=9) (λr h=>by obtain⟨q,h1,rfl⟩:=wI.1 h;exact(JS (m:=40) (n:=7) qY Qn Zx h1).fh) qh
def E9:T:=.agg [vw 1 none [[vw 5 none [[uu 1,uu 2,ii 0,ii 0,.bool false],[uu 1,uu 1,ii 0,ii 0,.bool false]]]]]
def H3:T:=.agg [vw 2 (some 2) [[uu 0,vw 2 (some 1) [[uu 2,ii 0]]],[uu 0,vw 2 (some 1) [[uu 1,ii 2]]]],vw 5 (some 6) [[.bool true,ii (-13),ii 3,.bool false,vw 4 (some 1) [[uu 1,ii 0,.bool false,uu 0]]],[.bool true,ii (-13),ii 1,.bool false,vw 4 (some 0) []],[.bool false,ii 0,ii 0,.bool false,vw 4 (some 0) []],[.bool false,ii 0,ii 0,.bool false,vw 4 (some 0) []],[.bool false,ii 0,ii 0,.bool false,vw 4 (some 0) []],[.bool false,ii 0,ii 0,.bool false,vw 4 (some 0) []]],vw 1 (some 6) [[vw 4 (some 3) [[uu 0,.bool true,vw 2 (some 0) [],vw 4 (some 0) []],[uu 0,.bool false,vw 2 (some 0) [],vw 4 (some 0) []],[uu 0,.bool false,vw 2 (some 1) [[uu 1,ii 1]],vw 4 (some 0) []]]],[vw 4 (some 1) [[uu 0,.bool true,vw 2 (some 1) [[uu 1,ii 0]],vw 4 (some 1) [[uu 1,ii 2,.bool false,uu 0]]]]],[vw 4 (some 0) []],[vw 4 (some 0) []],[vw 4 (some 0) []],[vw 4 (some 0) []]],vw 5 (some 0) [],vw 2 (some 2) [[uu 2,ii 0],[uu 1,ii 2]],vw 2 (some 0) [],uu 1]
def qsF:TO 17 [E9,iI 1] (.aK [H3,ii 0]):=zB (o:=Ya aw G17 az tK uw tM 40 17 [E9,iI 1]) (d:=9) (λr h=>QI (m:=40) qY Qn Zx Zw h) qh
def My:T:=.aK [.agg [vw 1 (some 6) [[vw 4 (some 5) [[uu 0,.bool true,vw 2 (some 0) [],vw 4 (some 0) []],[uu 0,.bool false,vw 2 (some 0) [],vw 4 (some 0) []],[uu 0,.bool false,vw 2 (some 1) [[uu 1,ii 1]],vw 4 (some 0) []],[uu 0,.bool false,vw 2 (some 1) [[uu 2,ii 0]],vw 4 (some 1) [[uu 1,ii 0,.bool false,uu 0]]],[uu 0,.bool false,vw 2 (some 2) [[uu 1,ii 3],[uu 1,ii 2]],vw 4 (some 1) [[uu 1,ii 3,.bool true,uu 0]]]]],[vw 4 (some 1) [[uu 0,.bool true,vw 2 (some 1) [[uu 1,ii 0]],vw 4 (some 1) [[uu 1,ii 2,.bool false,uu 0]]]]],[vw 4 (some 0) []],[vw 4 (some 0) []],[vw 4 (some 0) []],[vw 4 (some 0) []]],vw 5 (some 0) [],.ag,vw 2 (some 1) [[uu 1,ii 4]]],ii 0]
def qsG:TO 21 [H3,uI 1] My:=zB (o:=(HZ aw G17 az tM 40 7 21 [H3,uI 1]).map fh) (d:=9) (λr h=>by obtain⟨q,h1,rfl⟩:=wI.1 h;exact(JS (m:=40) (n:=7) qY Qn Zx h1).fh) qh
def DZ:T:=vw 5 none [[uu 1,uu 1,ii 0,ii 0,.bool false],[uu 1,uu 1,ii 0,ii 0,.bool false]]
def tO:T:=vw 5 none [[uu 1,uu 2,ii 0,ii 0,.bool false],[uu 1,uu 2,ii 0,ii 0,.bool false]]
def H4:T:=.agg [vw 2 (some 2) [[uu 0,vw 2 (some 1) [[uu 1,ii 3]]],[uu 0,vw 2 (some 1) [[uu 1,ii 2]]]],vw 5 (some 6) [[.bool true,ii (-13),ii 4,.bool false,vw 4 (some 0) []],[.bool false,ii 0,ii 0,.bool false,vw 4 (some 0) []],[.bool false,ii 0,ii 0,.bool false,vw 4 (some 0) []],[.bool false,ii 0,ii 0,.bool false,vw 4 (some 0) []],[.bool false,ii 0,ii 0,.bool false,vw 4 (some 0) []],[.bool false,ii 0,ii 0,.bool false,vw 4 (some 0) []]],vw 1 (some 6) [[vw 4 (some 4) [[uu 0,.bool true,vw 2 (some 0) [],vw 4 (some 0) []],[uu 0,.bool false,vw 2 (some 0) [],vw 4 (some 0) []],[uu 0,.bool false,vw 2 (some 1) [[uu 1,ii 1]],vw 4 (some 0) []],[uu 0,.bool false,vw 2 (some 1) [[uu 1,ii 0]],vw 4 (some 0) []]]],[vw 4 (some 0) []],[vw 4 (some 0) []],[vw 4 (some 0) []],[vw 4 (some 0) []],[vw 4 (some 0) []]],vw 5 (some 0) [],vw 2 (some 2) [[uu 1,ii 3],[uu 1,ii 2]],vw 2 (some 0) [],uu 1]
def RP:T:=.agg [vw 2 (some 2) [[uu 0,vw 2 (some 1) [[uu 1,ii 0]]],[uu 0,vw 2 (some 1) [[uu 1,ii 1]]]],vw 5 (some 6) [[.bool true,ii 179,ii 2,.bool false,vw 4 (some 0) []],[.bool false,ii 0,ii 0,.bool false,vw 4 (some 0) []],[.bool false,ii 0,ii 0,.bool false,vw 4 (some 0) []],[.bool false,ii 0,ii 0,.bool false,vw 4 (some 0) []],[.bool false,ii 0,ii 0,.bool false,vw 4 (some 0) []],[.bool false,ii 0,ii 0,.bool false,vw 4 (some 0) []]],vw 1 (some 6) [[vw 4 (some 2) [[uu 0,.bool true,vw 2 (some 0) [],vw 4 (some 0) []],[uu 0,.bool false,vw 2 (some 0) [],vw 4 (some 0) []]]],[vw 4 (some 0) []],[vw 4 (some 0) []],[vw 4 (some 0) []],[vw 4 (some 0) []],[vw 4 (some 0) []]],vw 5 (some 0) [],vw 2 (some 2) [[uu 1,ii 0],[uu 1,ii 1]],vw 2 (some 0) [],uu 0]
def qsH:TO 79 [RP,DZ] (.aK [H4,ii 0]):=zB (o:=(Ya aw G17 az tK uw tM 40 79 [RP,DZ]).map fh) (d:=9) (λr h=>by obtain⟨q,h1,rfl⟩:=wI.1 h;exact(QI (m:=40) qY Qn Zx Zw h1).fh) qh
def H5:T:=.agg [vw 2 (some 2) [[uu 0,vw 2 (some 1) [[uu 2,ii 0]]],[uu 0,vw 2 (some 1) [[uu 2,ii 1]]]],vw 5 (some 6) [[.bool true,ii (-13),ii 4,.bool false,vw 4 (some 0) []],[.bool true,ii 179,ii 2,.bool false,vw 4 (some 0) []],[.bool false,ii 0,ii 0,.bool false,vw 4 (some 0) []],[.bool false,ii 0,ii 0,.bool false,vw 4 (some 0) []],[.bool false,ii 0,ii 0,.bool false,vw 4 (some 0) []],[.bool false,ii 0,ii 0,.bool false,vw 4 (some 0) []]],vw 1 (some 6) [[vw 4 (some 4) [[uu 0,.bool true,vw 2 (some 0) [],vw 4 (some 0) []],[uu 0,.bool false,vw 2 (some 0) [],vw 4 (some 0) []],[uu 0,.bool false,vw 2 (some 1) [[uu 1,ii 1]],vw 4 (some 0) []],[uu 0,.bool false,vw 2 (some 1) [[uu 1,ii 0]],vw 4 (some 0) []]]],[vw 4 (some 2) [[uu 0,.bool true,vw 2 (some 1) [[uu 1,ii 3]],vw 4 (some 0) []],[uu 0,.bool false,vw 2 (some 1) [[uu 1,ii 2]],vw 4 (some 0) []]]],[vw 4 (some 0) []],[vw 4 (some 0) []],[vw 4 (some 0) []],[vw 4 (some 0) []]],vw 5 (some 0) [],vw 2 (some 2) [[uu 2,ii 0],[uu 2,ii 1]],vw 2 (some 0) [],uu 0]
def qsI:TO 79 [H4,tO] (.aK [H5,ii 0]):=zB (o:=(Ya aw G17 az tK uw tM 40 79 [H4,tO]).map fh) (d:=9) (λr h=>by obtain⟨q,h1,rfl⟩:=wI.1 h;exact(QI (m:=40) qY Qn Zx Zw h1).fh) qh
def BL:T:=.agg [vw 2 (some 2) [[uu 0,vw 2 (some 1) [[uu 2,ii 3]]],[uu 0,vw 2 (some 1) [[uu 2,ii 2]]]],vw 5 (some 6) [[.bool true,ii (-13),ii 4,.bool false,vw 4 (some 0) []],[.bool true,ii (-13),ii 4,.bool false,vw 4 (some 0) []],[.bool false,ii 0,ii 0,.bool false,vw 4 (some 0) []],[.bool false,ii 0,ii 0,.bool false,vw 4 (some 0) []],[.bool false,ii 0,ii 0,.bool false,vw 4 (some 0) []],[.bool false,ii 0,ii 0,.bool false,vw 4 (some 0) []]],vw 1 (some 6) [[vw 4 (some 4) [[uu 0,.bool true,vw 2 (some 0) [],vw 4 (some 0) []],[uu 0,.bool false,vw 2 (some 0) [],vw 4 (some 0) []],[uu 0,.bool false,vw 2 (some 1) [[uu 1,ii 1]],vw 4 (some 0) []],[uu 0,.bool false,vw 2 (some 1) [[uu 1,ii 0]],vw 4 (some 0) []]]],[vw 4 (some 4) [[uu 0,.bool true,vw 2 (some 1) [[uu 1,ii 3]],vw 4 (some 0) []],[uu 0,.bool false,vw 2 (some 1) [[uu 1,ii 2]],vw 4 (some 0) []],[uu 0,.bool false,vw 2 (some 1) [[uu 2,ii 1]],vw 4 (some 0) []],[uu 0,.bool false,vw 2 (some 1) [[uu 2,ii 0]],vw 4 (some 0) []]]],[vw 4 (some 0) []],[vw 4 (some 0) []],[vw 4 (some 0) []],[vw 4 (some 0) []]],vw 5 (some 0) [],vw 2 (some 2) [[uu 2,ii 3],[uu 2,ii 2]],vw 2 (some 0) [],uu 1]
def qsJ:TO 79 [H5,tO] (.aK [BL,ii 0]):=zB (o:=(Ya aw G17 az tK uw tM 40 79 [H5,tO]).map fh) (d:=9) (λr h=>by obtain⟨q,h1,rfl⟩:=wI.1 h;exact(QI (m:=40) qY Qn Zx Zw h1).fh) qh
def qsK:AW:=[(79,[RP,DZ],.aK [H4,ii 0]),(79,[H4,tO],.aK [H5,ii 0]),(79,[H5,tO],.aK [BL,ii 0])]
def qoR:JR aw G17 qsK:=⟨qsH,qsI,qsJ,trivial⟩
def RQ:T:=.agg [vw 2 (some 2) [[uu 0,vw 2 (some 1) [[uu 1,ii 0]]],[uu 0,vw 2 (some 1) [[uu 1,ii 1]]]],vw 5 (some 6) [[.bool true,ii 179,ii 2,.bool false,vw 4 (some 0) []],[.bool false,ii 0,ii 0,.bool false,.ag],[.bool false,ii 0,ii 0,.bool false,.ag],[.bool false,ii 0,ii 0,.bool false,.ag],[.bool false,ii 0,ii 0,.bool false,.ag],[.bool false,ii 0,ii 0,.bool false,.ag]],vw 1 (some 6) [[vw 4 (some 2) [[uu 0,.bool true,vw 2 (some 0) [],vw 4 (some 0) []],[uu 0,.bool false,vw 2 (some 0) [],vw 4 (some 0) []]]],[.ag],[.ag],[.ag],[.ag],[.ag]],.ag,vw 2 (some 2) [[uu 1,ii 0],[uu 1,ii 1]],.ag,uu 0]
def qvG:TO 42 [RQ,vw 1 none [[DZ],[tO],[tO]]] (.aK [BL,ii 3,ii 0]):=zB (o:=(Ya aw G17 az tK uw (YR 9 qsK tM) 40 42 [RQ,vw 1 none [[DZ],[tO],[tO]]]).map fh) (d:=9) (λr h=>by obtain⟨q,h1,rfl⟩:=wI.1 h;exact(QI (m:=40) qY Qn (kX qoR Zx) Zw h1).fh) qh
def Fa:T:=.agg [vw 1 none [[DZ],[tO],[tO]]]
def qsL:AW:=[(42,[RQ,vw 1 none [[DZ],[tO],[tO]]],.aK [BL,ii 3,ii 0])]
def qoS:JR aw G17 qsL:=⟨qvG,trivial⟩
def qsM:TO 17 [Fa,iI 3] (.aK [BL,ii 0]):=zB (o:=(Ya aw G17 az tK uw (YR 9 qsL tM) 40 17 [Fa,iI 3]).map fh) (d:=9) (λr h=>by obtain⟨q,h1,rfl⟩:=wI.1 h;exact(QI (m:=40) qY Qn (kX qoS Zx) Zw h1).fh) qh
def Mz:T:=.aK [.agg [vw 1 (some 6) [[vw 4 (some 4) [[uu 0,.bool true,vw 2 (some 0) [],vw 4 (some 0) []],[uu 0,.bool false,vw 2 (some 0) [],vw 4 (some 0) []],[uu 0,.bool false,vw 2 (some 1) [[uu 1,ii 1]],vw 4 (some 0) []],[uu 0,.bool false,vw 2 (some 1) [[uu 1,ii 0]],vw 4 (some 0) []]]],[vw 4 (some 6) [[uu 0,.bool true,vw 2 (some 1) [[uu 1,ii 3]],vw 4 (some 0) []],[uu 0,.bool false,vw 2 (some 1) [[uu 1,ii 2]],vw 4 (some 0) []],[uu 0,.bool false,vw 2 (some 1) [[uu 2,ii 1]],vw 4 (some 0) []],[uu 0,.bool false,vw 2 (some 1) [[uu 2,ii 0]],vw 4 (some 0) []],[uu 0,.bool false,vw 2 (some 1) [[uu 2,ii 3]],vw 4 (some 0) []],[uu 0,.bool false,vw 2 (some 2) [[uu 2,ii 4],[uu 2,ii 2]],vw 4 (some 1) [[uu 2,ii 4,.bool true,uu 0]]]]],[vw 4 (some 0) []],[vw 4 (some 0) []],[vw 4 (some 0) []],[vw 4 (some 0) []]],vw 5 (some 0) [],.ag,vw 2 (some 1) [[uu 2,ii 5]]],ii 0]
def qsN:TO 21 [BL,uI 2] Mz:=zB (o:=(HZ aw G17 az tM 40 7 21 [BL,uI 2]).map fh) (d:=9) (λr h=>by obtain⟨q,h1,rfl⟩:=wI.1 h;exact(JS (m:=40) (n:=7) qY Qn Zx h1).fh) qh
def MA:AW:=[(17,[E8,iI 1],.aK [HX,ii 0]),(17,[E9,iI 1],.aK [H3,ii 0]),(17,[Fa,iI 3],.aK [BL,ii 0]),
 (21,[HX,uI 1],Mx),(21,[H3,uI 1],My),(21,[BL,uI 2],Mz)]
def RR:JR aw G17 MA:=⟨qsD,qsF,qsM,qsE,qsG,qsN,trivial⟩
def qsO:TO 12 [E8] Mx:=zB (o:=Ya aw G17 az tK uw (YR 9 MA tM) 40 12 [E8]) (d:=9) (λr h=>QI (m:=40) qY Qn (kX RR Zx) Zw h) qh
def qsP:TO 12 [E9] My:=zB (o:=Ya aw G17 az tK uw (YR 9 MA tM) 40 12 [E9]) (d:=9) (λr h=>QI (m:=40) qY Qn (kX RR Zx) Zw h) qh
def qsQ:TO 12 [Fa] Mz:=zB (o:=Ya aw G17 az tK uw (YR 9 MA tM) 40 12 [Fa]) (d:=9) (λr h=>QI (m:=40) qY Qn (kX RR Zx) Zw h) qh
def qsR:AW:=[(12,[E8],Mx),(12,[E9],My),(12,[Fa],Mz)]
def qoU:JR aw G17 qsR:=⟨qsO,qsP,qsQ,trivial⟩
noncomputable def qsS:bA:=KF aw G17 az tK uw (λf=>!(qsz.contains f)) (λf=>f==37 || qsA.contains f) (λ_=>false) 40 qv 10
def qoV:OO qsS:=RJ qY Qn Zw 40 qp 10
def qoW:TO 16 [] (.bool true):=QI (A:=az) (Z:=uw) (K:=(YR 9 qsR qsS).cE 1000002 (λ_ _=>.none)) (m:=40) qY Qn (qC (kX qoU qoV) (λ_ _ _ _ h=>(by cases h))) Zw qh
def qsT(c:Cp)(ok:c.Ok):TO 6 [c.t] (.bool true):=by
 obtain⟨m1,m9,mo⟩:=c.iR;obtain⟨M,Y⟩:∃M,c.aJ=M+1:=⟨c.aJ-1,ae⟩;obtain⟨X,h⟩:=c.rV c.aJ ae;have hw:=h.j.DR ae ae;obtain⟨P,k,tb⟩:=qsy (c.wk c.aJ) c.L c.DV.1 hw.N (c.CS _) hw.tb (λe=>by have:=hw.pe e;omega) (by have:=hw.cr;omega) hw.he (λj J=>⟨(hw.l j J).1,by have:=(hw.l j J).2;omega⟩)
 let g:Nat->JO:=λj=>[.view 4 (((c.wk c.aJ).q.tb j).length+if j=c.L then(c.wk c.aJ).sl.length else 0) (P j) none]
 have D:TO 14 [c.ch] (.agg [.view 1 6 g none,aM (c.wk c.aJ).cr,.ag,.view 2 1 k none]):=by
  have run:=λ{p l B h H C h1 e} (q:cD 14 p l B h H=some (e,C,h1))=>cf [] q;obtain⟨E,s⟩:=qE aw G17 19;obtain⟨Ht,Q⟩:=qE aw G17 28;obtain⟨Rn,r⟩:=qE aw G17 22;have i:=Vh (c.rw M) (c.rn M) (c.fB M).2.2.1 (by have:=(c.fB M).2.2.2;omega);have O:=c.DV.2;rw[Y,Nat.add_sub_cancel] at O;rw[O] at i;have q:=qf1 E Ht Rn c.aJ c.rw c.rn (c.wk c.aJ) (ofNat c.L+1) g k (c.wk c.aJ).cr;rw[Qp (x:=ofNat c.aJ-1) bH bH,show(ofNat c.aJ-1).toNat=M by simp only[wu];omega] at q;have W:=eD (qr (qr (qr qp (qq s)) (qq Q)) (qq r)) []
   (q.trans (qk (qu s (qvC c)) (qk (by simp;omega) (qk (qu Q i) (qk (qu r tb) rfl)))))
  exact Pz.told (A:=az) Qn Tryz.func14 qh qh (l:=[0]) rfl
   (av (run (qf0 c.aJ c.rw c.rn)) (av W (run (qf3 _)))) (qf2 g k (c.wk c.aJ).cr)
 have run:=λ{p l B h H C h1 e} (q:cD 6 p l B h H=some (e,C,h1))=>cf [] q;obtain⟨Mb,z⟩:=qE aw G17 11;obtain⟨Bu,o⟩:=qE aw G17 24;obtain⟨Hh,u⟩:=qE aw G17 14;obtain⟨Rd,I⟩:=qE aw G17 16
 let a:Nat->Int:=cG c.rf
 let b:Nat->Nat:=λj=>((c.wk c.aJ).q.tb j).length+if j=c.L then(c.wk c.aJ).sl.length else 0
 have d:∀e,e<6->¬(!decide (a e=ofNat (b e)))=true:=λe he=>by
  have Z:a e=c.rf e:=by
   cases zy he
   all_goals rfl
  rw[Z,c.DX e he];simp[b]
 have V:=eD (qr qp (qq z)) [] ((qg2 Mb (c.w:Int) c.cI c.M c.h c.aJ c.rw c.rn).trans (qk (qu z (cpT c ok)) rfl));have U:=eD (qr qp (qq o)) [] ((qg3 Bu c.aJ c.rw c.rn (λj=>[iI (a j)])).trans (qk (qu o (qqM c)) rfl));have S:=eD (qr qp (qq u)) [] ((qg4 Hh c.aJ c.rw c.rn g k (c.wk c.aJ).cr (.view 1 6 (λj=>[iI (a j)]) (some 6)) (iI 0)).trans (qk (qu u D) rfl));have R:=Pz.run qY (qr qp (qq I)) (m:=8) (p:=[2,2,2,2]) (A:=az) (f:=6) (h0:=[]) qh qP ((qg5 Rd a b P k (c.wk c.aJ).cr).trans
  (qF (d 0 ae) (qF (d 1 ae) (qF (d 2 ae) (qF (d 3 ae) (qF (d 4 ae) (qF (d 5 ae) (qk (qu I qoW) rfl))))))))
 exact Pz.told (A:=az) Qn Tryz.func6 qh qh (l:=[0]) rfl
  (av (run (qg1 (c.w:Int) c.cI c.M c.h)) (av V (av U (av S R)))) rfl
section
variable {Hp:Type}
def qiE:aw.cellsOf 5=1:=qh
def qfw:aw.cellsOf 89=1:=qh
def qoX:yf aw 24=true:=qh
def qnx{ts:JO}{d:DataW Hp}(h:CT aw 5 ts d):∃a:Int,ts=[uI a]/\0<=a/\a<256:=by
 obtain⟨a,rfl,rfl,w⟩:=h.Bf Tryz.underlying5;have w:=qqX w;exact⟨a,rfl,ae,ae⟩
def nI5(l:JO):Nat:=match l with|[.int _ z]=>z.toNat|_=>0
def qvH{ts:JO}{d:DataW Hp}(h:CT aw 89 ts d):∃(r:Nat->Nat) (n:Nat),(∀j,r j<256)/\n<=9223372036854775807/\∃x,ts=[x]/\mH x (zq (λj=>(r j:Int)) n none):=by
 rcases h.oN Tryz.underlying89 (by rw[qiE];omega) with⟨rfl,rfl⟩|⟨n,c,g,k,f,rfl,rfl,he,A,s,z,u⟩
 .exact⟨λ_=>0,0,λ_=>(by decide:0<256),wR _,_,rfl,.fG _ _ (.inl rfl)⟩
 .have key:∀j,j<n->∃a:Int,g j=[uI a]/\0<=a/\a<256:=λj e=>qnx (u j k[j] (by simp[show j<k.length by omega]));refine⟨λj=>if j<n then nI5 (g j) else 0,n,λj=>?_,wN s z,_,rfl,?_⟩
  .dsimp only;split
   .rename_i e;obtain⟨a,q,i,o⟩:=key j e;rw[q];show a.toNat<256;omega
   .omega
  .rw[qiE];refine .view (.inr rfl) λj e=>?_;obtain⟨a,q,i,o⟩:=key j e;show eO (g j) [uI ((if j<n then nI5 (g j) else 0:Nat):Int)];rw[wl e,q];show eO [uI a] [uI ((a.toNat:Nat):Int)];rw[Int.toNat_of_nonneg i];exact .refl _
def qsU{ts:JO}{d:DataW Hp}(h:CT aw 22 ts d):∃(C:Nat->Nat->Nat) (M:Nat->Nat) (n:Nat),(∀i k,C i k<256)/\(∀i,M i<=9223372036854775807)/\n<=9223372036854775807/\∃x,ts=[x]/\mH x (GF (λi k=>(C i k:Int)) M n):=by
 rcases h.oN Tryz.underlying22 (by rw[qfw];omega) with⟨rfl,rfl⟩|⟨n,c,g,f,a,rfl,rfl,he,D,o,u,s⟩
 .exact⟨λ_ _=>0,λ_=>0,0,λ_ _=>(by decide:0<256),λ_=>wR _,wR _,_,rfl,.fG _ _ (.inl rfl)⟩
 ·have key:∀j,∃(p:(Nat->Nat)×Nat),(∀k,p.1 k<256)/\p.2<=9223372036854775807/\(j<n->eO (g j) [zq (λk=>(p.1 k:Int)) p.2 none]):=λj=>by
   by_cases e:j<n
   ·obtain⟨r,m,h1,z,x,B,A⟩:=qvH (s j f[j] (by simp[show j<f.length by omega]));exact⟨(r,m),h1,z,λ_=>by rw[B];exact .cons A .nil⟩
   ·exact⟨(λ_=>0,0),λ_=>(by decide:0<256),wR _,λh=>absurd h e⟩
  refine⟨λj=>(key j).choose.1,λj=>(key j).choose.2,n,λi k=>(key i).choose_spec.1 k,λi=>(key i).choose_spec.2.1,wN o u,_,rfl,?_⟩;rw[qfw];exact .view (.inr rfl) λj e=>(key j).choose_spec.2.2 e
def qoY{ts:JO}{d:DataW Hp}(h:CT aw 24 ts d):∃c:Cp,c.Ok/\mH (B9 aw 24 ts) c.t:=by
 obtain⟨e,ds,rfl,rfl,s⟩:=CT.sD Tryz.underlying24 h;clear h;rename _=>h;change Be aw [5,22] e ds at h;obtain⟨r,_,x,_,rfl,rfl,h1,h⟩:=h.cons;obtain⟨o,_,u,_,rfl,rfl,j,h⟩:=h.cons;obtain⟨rfl,rfl⟩:=h.nil;obtain⟨a,rfl,k,z⟩:=qnx h1;obtain⟨C,M,n,hC,i,g,y,rfl,f⟩:=qsU j;refine⟨⟨a.toNat,n,M,C⟩,⟨by show a.toNat<256;omega,g,i,hC⟩,?_⟩;rw[show B9 aw 24 ([[uI a],[y]].flatten) = .agg [uI a,y] by simp[B9,qoX]];show mH _ (.agg [uI ((a.toNat:Nat):Int),GF _ M n]);rw[Int.toNat_of_nonneg k];exact .agg (.Ue (.cons f .nil))
end
end Go.Ab
