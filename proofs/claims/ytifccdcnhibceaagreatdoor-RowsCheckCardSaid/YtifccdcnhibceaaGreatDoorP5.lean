/- A part of the proof: nothing is assumed. -/
import Derived.Test.YtifccdcnhibceaaGreatDoorP4
import Derived.Test.YtifccdcnhibceaaGreatDoorP3
set_option linter.all false
namespace Go.Ab
open IntKind(i64 u8)
open Int(ofNat)
open Go.Proofs
set_option maxHeartbeats 1000000
set_option maxRecDepth 100000
def AS(p q:bl):Bool:=decide (p.y=q.y)&&(decide (p.n=q.n)&&((p.f==q.f)&&decide (u8.wrap (p.d+q.d)=1)))
def KZ(st:List bl)(p:bl):List bl:=if (decide (0<st.length)&&AS (st.getD (st.length-1) dV) p)=true then st.dropLast else st++[p]
def Zt(l m:List bl):List bl:=m.foldl KZ l
def qv3(m g)(k i v n ln)(u:i<k)(h1:ln<=n)(h2:ln<=2000000):cD 99 sH rS [bY m k none,.own 0 v 0 ln none,iI (ofNat i),iI (ofNat ln)] [lg v n g] rl =
 some (.normal,[bY m k none,.own 0 v 0 ln none,iI (ofNat i),iI (ofNat ln),.bool (decide (0<ln)&&AS (g (ln-1)) (m i))],[lg v n g]):=by
 refine(va6 m g k i v n ln).trans ?_;by_cases j:0<ln
 .have e:i64.wrap (ofNat ln-1)=ofNat (ln-1):=by rw[Qv bP bP];simp only[wn];omega
  rw[e,show(ofNat (ln-1)).toNat=ln-1 from rfl,wo,qN (show ln-1<n by omega),wt (show(0:Int)<ofNat ln by simp only[wn];omega),wt j];have s:(decide ((0:Int)<=ofNat (ln-1))&&decide (ofNat (ln-1)<ofNat ln))=true:=by simp;omega
  have r:(decide ((0:Int)<=ofNat i)&&decide (ofNat i<ofNat k))=true:=by simp;omega
  have o:(v==v&&true)=true:=by simp
  rw[s,r,o];simp only[wp,wQ];unfold AS;generalize g (ln-1)=a;generalize m i=b;cases decide (a.y=b.y) with
  |false=>rfl
  |true =>
   cases decide (a.n=b.n) with
   |false=>rfl
   |true =>
    cases a.f<;>cases b.f<;>cases decide (u8.wrap (a.d+b.d)=1)<;>rfl
 grind
structure Pn where
 (v n:Nat) (g:Nat->bl)
def Pn.step(s:Pn)(st:List bl)(p:bl):Pn :=
 if (decide (0<st.length)&&AS (st.getD (st.length-1) dV) p)=true then s else if st.length+1<=s.n then ⟨s.v,s.n,aA s.g st.length p⟩ else ⟨s.v+1,st.length+1,aA s.g st.length p⟩
def gk(l:List bl)(m:Nat->bl):Nat->List bl×Pn
 |0=>(l,⟨0,l.length,λj=>l.getD j dV⟩)
 |i+1=>(KZ (gk l m i).1 (m i),(gk l m i).2.step (gk l m i).1 (m i))
def qiI{α}(l:List α)(d:α)(j)(h:j<l.length-1):l.dropLast.getD j d=l.getD j d:=by
 rw[wg,wg,List.getElem?_dropLast,wl h]
def Wa(l)(m):∀i,(gk l m i).1.length<=(gk l m i).2.n/\(gk l m i).1.length<=l.length+i/\∀j,j<(gk l m i).1.length->(gk l m i).2.g j=(gk l m i).1.getD j dV
 |0=>⟨wc _,wc _,λ_ _=>rfl⟩
 |i+1=>by
  obtain⟨o,k,f⟩:=Wa l m i;show(KZ (gk l m i).1 _).length<=((gk l m i).2.step (gk l m i).1 _).n/\(KZ (gk l m i).1 (m i)).length<=l.length+(i+1)/\∀j,j<(KZ (gk l m i).1 (m i)).length->((gk l m i).2.step (gk l m i).1 (m i)).g j=(KZ (gk l m i).1 (m i)).getD j dV;generalize (gk l m i).1=st at *
  generalize (gk l m i).2=s at *
  unfold KZ Pn.step;by_cases c:(decide (0<st.length)&&AS (st.getD (st.length-1) dV) (m i))=true
  .rw[wl c,wl c];rw[uh];grind
  ·rw[wh c,wh c];have e:∀j,j<(st++[m i]).length->aA s.g st.length (m i) j=(st++[m i]).getD j dV:=λj a=>by
    rw[zS];unfold aA;grind
   by_cases d:st.length+1<=s.n
   .rw[wl d];grind
   .rw[wh d];grind
def Wb(l:List bl)(m:List bl):∀i,i<=m.length->(gk l (λj=>m.getD j dV) i).1=Zt l (m.take i)
 |0,_=>rfl
 |i+1,h=>by
  show KZ (gk l (λj=>m.getD j dV) i).1 (m.getD i dV)=_;rw[Wb l m i ab,ui,show m[i]?=some (m.getD i dV) by rw[wg,wi ab];rfl];grind[Zt]
def vP(k:Nat)(m:Nat->bl)(i:Nat)(s:Pn)(ln:Nat):t7:=[bY m k none,.own 0 s.v 0 ln none,iI (ofNat i)]
def Wc(b:Bool){d a}(s:Pn)(st:List bl)(p)(f)(i:∀j,j<a->(aA s.g st.length p j).c=f j):ai [ap.mk d 4 a f true false none] [lg d a (aA s.g st.length p)] :=
 .cons ⟨rfl,rfl,rfl,λh=>h,λj e=>i j e⟩ .nil rfl
def ql7{h0:qa}(m:Nat->bl)(k i:Nat)(D:i<k)(I:k<=1000000)(st)(s)(h1:st.length<=s.n)(h2:st.length<=2000000)(J:∀j,j<st.length->s.g j=st.getD j dV) :
 Pq 99 h0 c7 nj (vP k m i s st.length) [lg s.v s.n s.g] .normal nj (vP k m (i+1) (s.step st (m i)) (KZ st (m i)).length) [lg (s.step st (m i)).v (s.step st (m i)).n (s.step st (m i)).g]:=by
 have run:=λ{p l r h C u h1 e} (q:cD 99 p l r h C=some (e,u,h1))=>aP h0 q;have o:(s.v==s.v&&true)=true:=by simp
 have B:=run ((va4 m k i (.own 0 s.v 0 st.length none) [lg s.v s.n s.g]).trans (qj (wt bP) rfl));have A:=run ((va5 m s.g k i s.v s.n st.length).trans (qj o rfl));have x:=run (qv3 m s.g k i s.v s.n st.length D h1 ab);have last:∀(s2:Pn) (ln:Nat),Pq 99 h0 pF nj (vP k m i s2 ln) [lg s2.v s2.n s2.g] .normal nj (vP k m (i+1) s2 ln) [lg s2.v s2.n s2.g]:=λs2 ln=>by
  have q:=va9 (bY m k none) (.own 0 s2.v 0 ln none) i [lg s2.v s2.n s2.g];rw[dH ab] at q;exact run q
 have a:Pq 99 h0 [2,2,0,1,2,0,0,2,1,2,2] rl [bY m k none,.own 0 s.v 0 st.length none,iI (ofNat i),iI (ofNat st.length),.bool (decide (0<st.length)&&AS (s.g (st.length-1)) (m i))] [lg s.v s.n s.g] .normal nj (vP k m i (s.step st (m i)) (KZ st (m i)).length) [lg (s.step st (m i)).v (s.step st (m i)).n (s.step st (m i)).g]:=by
  have H:(decide (0<st.length)&&AS (s.g (st.length-1)) (m i))=(decide (0<st.length)&&AS (st.getD (st.length-1) dV) (m i)):=by
   grind
  rw[H];unfold KZ Pn.step;cases c:decide (0<st.length)&&AS (st.getD (st.length-1) dV) (m i) with
  |true =>
   rw[wl rfl,wl rfl,uh];have L:0<st.length:=by
    grind
   have e:i64.wrap (ofNat st.length-1)=ofNat (st.length-1):=by rw[Qv bP bP];grind
   have q:=va7 m s.g k i s.v s.n st.length;rw[e] at q;exact Pz.im 63 qh rfl (run (q.trans (qj o (qj rx rfl))))
  |false =>
   rw[wh (show ¬(false=true) by simp),wh (show ¬(false=true) by simp)];have E:(st++[m i]).length=st.length+1:=by simp
   rw[E];have q:=va8 m s.g k i s.v s.n st.length;have q:=q.trans (qj rx (qj o (qj (qR ab) (qj (qR ab) rfl))));refine Pz.fU 63 qh rfl ?_;by_cases d:st.length+1<=s.n
   .rw[wl d];refine Pz.post (bR (qA qm (λ_ _ _ _ h=>(by cases h))) h0 (q.trans (qj (qR ab) rfl))) λnt=>.same (Wc true s st (m i) _ λj f=>?_);unfold aA;by_cases z:j=st.length
    .rw[wl z,z,qR ab,qN ab,wo,va];rfl
    .rw[wh z];by_cases y:j<st.length
     .rw[ZE ab];rfl
     .rw[QZ (show 0+st.length+1<=j by omega),Bool.and_false];rfl
   .rw[wh d];refine Pz.post (bR (qA qm (λ_ _ _ _ h=>(by cases h))) h0 (q.trans (qB (by rw[ZE ab];simp) rfl))) λnt=>.same (Wc true s st (m i) _ λj f=>?_);have f:j<st.length+1:=f;unfold aA;by_cases z:j=st.length
    .rw[wl z,z,QZ (wc _),va];rfl
    .rw[wh z,qN ab,wo];rfl
 exact ao B (ao (cO 1 (ao A (ao x a))) (last _ _))
def qiJ(l:List bl)(m:Nat->bl)(k:Nat)(g:l.length<=1000000):Pq 99 [] eH ir [lR l,bY m k none] [] .normal [1,5] [bY m k none,.own 0 0 0 l.length none] [lg 0 l.length λj=>l.getD j dV]:=by
 have q:=va2 (λj=>l.getD j dV) m l.length k;by_cases z:l.length=0
 .have e:l=[]:=vU z;subst e;refine Pz.post (aP [] (q.trans (qj rfl rfl))) λnt=>?_;refine .trans (ak.GU (dN:=[bY m k none,.own 0 0 0 0 none]) rfl λi x y d a=>?_) (.same (.cons ⟨rfl,rfl,rfl,λh=>h,λj f=>absurd f (vy j)⟩ .nil rfl))
  match i with
  |0=>obtain rfl:=we d;obtain rfl:=we a;exact .refl _
  |1=>obtain rfl:=we d;obtain rfl:=we a;exact .inr ⟨0,0,0,0,0,_,rfl,rfl,rfl,wc _⟩
  |i+2=>grind
 .have q:=q.trans (qB rx (qj (by rw[wo,qR ab]) (qB (by rw[wo,ZE ab];simp) rfl)));refine Pz.post (aP [] q) λnt=>.cu [1] rfl (by rw[wo];rfl) (by rw[wo];rfl) (.cons ⟨rfl,rfl,rfl,λh=>h,λ_ _=>rfl⟩ .nil rfl)
def Wd(l m:List bl)(B:l.length<=1000000)(x:m.length<=1000000):TO 99 [lR l,lR m] (.new (lR (Zt l m))):=by
 have run:=λ{p l o h u r E e} (q:cD 99 p l o h u=some (e,r,E))=>aP [] q
 let a:Nat->bl:=λj=>m.getD j dV
 have ok:=Wa l a;have d:=Wb l m m.length (wc _);rw[xh] at d;have d:(gk l a m.length).1=Zt l m:=d;have lp:Pq 99 [] hV nj [bY a m.length none,.own 0 0 0 l.length none,iI (ofNat 0)] [lg 0 l.length λj=>l.getD j dV] (.exit 0) [5] [.own 0 (gk l a m.length).2.v 0 (Zt l m).length none] [lg (gk l a m.length).2.v (gk l a m.length).2.n (gk l a m.length).2.g] :=
  Pz.count qh (λi=>vP m.length a i (gk l a i).2 (gk l a i).1.length) (λi=>[lg (gk l a i).2.v (gk l a i).2.n (gk l a i).2.g]) (n:=m.length) aq (λi D=>by
   obtain⟨k,s,f⟩:=ok i;exact ql7 a m.length i D x (gk l a i).1 (gk l a i).2 k ab f) (by
   rw[←d];exact ed (run ((qv0 a m.length m.length (.own 0 (gk l a m.length).2.v 0 (gk l a m.length).1.length none) [lg (gk l a m.length).2.v (gk l a m.length).2.n (gk l a m.length).2.g]).trans (qB (gW bP) rfl))))
 obtain⟨k,s,f⟩:=ok m.length;rw[d] at k f;have t:=Pz.told (A:=ar) qY Tryz.func99 qh qh (l:=ir) rfl
  (ao (run (va1 (λj=>l.getD j dV) a l.length m.length)) (ao (qiJ l a m.length B) (ao (ao (run (va3 _ _ _)) (cO 0 lp)) (run (qv1 _ _ _)))))
  ((qv2 (gk l a m.length).2.g (gk l a m.length).2.v (gk l a m.length).2.n (Zt l m).length).trans (vA some (show(bif (gk l a m.length).2.v==(gk l a m.length).2.v&&Nat.ble (0+(Zt l m).length) (gk l a m.length).2.n then _ else _)=T.fresh true 4 (gk l a m.length).2.n (λj=>((gk l a m.length).2.g (0+j)).c) (Zt l m).length none by rw[qR ab,wF];rfl)))
 refine(aD.iQ t).ma (.new (.view (.inl rfl) λj C=>?_));rw[wo,f j C];exact .refl _
def oN(v n:Nat):T:=.own 0 v 0 n (some n)
def q6(v n a m b d:Nat):t7:=[.own 0 v 0 n (some n),iI (ofNat a),iI (ofNat m),iI (ofNat b),.fn 124 [],iI (ofNat d)]
def q7(v n a m b d w:Nat):t7:=[.own 0 v 0 n (some n),iI (ofNat a),iI (ofNat m),iI (ofNat b),.fn 124 [],iI (ofNat d),iI (ofNat w)]
def q8(v n a m b d w s:Nat):t7:=[.own 0 v 0 n (some n),iI (ofNat a),iI (ofNat m),iI (ofNat b),.fn 124 [],iI (ofNat d),iI (ofNat w),iI (ofNat s)]
def q9(v n a m b d w s r:Nat):t7:=[.own 0 v 0 n (some n),iI (ofNat a),iI (ofNat m),iI (ofNat b),.fn 124 [],iI (ofNat d),iI (ofNat w),iI (ofNat s),iI (ofNat r)]
def r7(v n a b d s e:Nat):t7:=[.own 0 v 0 n (some n),iI (ofNat a),iI (ofNat b),.fn 124 [],iI (ofNat d),iI (ofNat s),iI (ofNat e)]
def r5(v n b d e:Nat):t7:=[.own 0 v 0 n (some n),iI (ofNat b),.fn 124 [],iI (ofNat d),iI (ofNat e)]
def vb1(l:Nat->aU)(n)(a b:aw)(s):cD 56 [1] lE [mb l n none,.agg a.c,.agg b.c,iI s] [] sE =
( zN [mb l n
 none,iI s,.ag a.c,.ag b.c] []):=qh
def vb2(t:T)(a b:aw)(s:Int):cD 56 eH sE [t,iI s,.ag a.c,.ag b.c] [] sE =
( bif decide (b.y<a.y) then zN [t,iI s,.ag b.c,.ag a.c] [] else
 bif decide (a.y=b.y) then bif decide (b.n<a.n) then zN [t,iI s,.ag b.c,.ag a.c] [] else
 zN [t,iI s,.ag a.c,.ag b.c] [] else
 zN [t,iI s,.ag a.c,.ag b.c] []):=qh
def vb3(a b c d:T):cD 56 lD sE [a,b,c,d] [] [0,3,5,6,9] =
( zN [a,b,c,d,.ae] []):=qh
def vb4(a b c d e:T)(H:qa):cD 56 dd [0,3,5,6,9] [a,b,c,d,e] H [0,3,5,6,9,10] =
( zN [a,b,c,d,e,iI 0] H):=qh
def vb5(a b c d e f:T)(H:qa):cD 56 mP [0,3,5,6,9,10] [a,b,c,d,e,f] H dr =
( zN [a,b,c,d,e,f,iI 0] H):=qh
def vb6(l:Nat->aU)(n i:Nat)(b c d e f:T)(H):cD 56 er dr [mb l n none,b,c,d,e,f,iI (ofNat i)] H dr =
( bif decide (ofNat i<ofNat n) then zN [mb l n
 none,b,c,d,e,f,iI (.ofNat i)] H else
 zX 0 [mb l n
 none,b,c,d,e,f,iI (.ofNat i)] H):=qh
def qv4(l:Nat->aU)(n i:Nat)(b c d e f:T)(H):cD 56 er dr [mb l n none,b,c,d,e,f,iI (ofNat i)] H sM =
( bif decide (ofNat i<ofNat n) then zN [b,c,d,e,f] H else
 zX 0 [b,c,d,e,f] H):=qh
def vb8(l:Nat->aU)(n i:Nat)(b c d e f:T)(H):cD 56 kv dr [mb l n none,b,c,d,e,f,iI (ofNat i)] H cS =
( gD (decide (0<=ofNat i)&&decide (ofNat i<ofNat n))<|zN [mb l n
 none,b,c,d,e,f,iI (.ofNat i),.ag (l i).c] H):=qh
def vb9(a b:aw)(x:aU)(t u v w z:T)(H):cD 56 ix cS [t,u,.ag a.c,.ag b.c,v,w,z,.ag x.c] H il =
( bif decide (x.ay<a.y) then zN [t,u,.ag a.c,.ag b.c,v,w,z,.ag x.c,.bool true] H else
 bif decide (x.ay=a.y) then bif decide (x.an<a.n) then zN [t,u,.ag a.c,.ag b.c,v,w,z,.ag x.c,.bool true] H else
 bif decide (x.an=a.n) then bif decide (x.cy<b.y) then zN [t,u,.ag a.c,.ag b.c,v,w,z,.ag x.c,.bool true] H else
 bif decide (x.cy=b.y) then bif decide (x.cn<b.n) then zN [t,u,.ag a.c,.ag b.c,v,w,z,.ag x.c,.bool true] H else
 zN [t,u,.ag a.c,.ag b.c,v,w,z,.ag x.c,.bool false] H else
 zN [t,u,.ag a.c,.ag b.c,v,w,z,.ag x.c,.bool false] H else
 zN [t,u,.ag a.c,.ag b.c,v,w,z,.ag x.c,.bool false] H else
 zN [t,u,.ag a.c,.ag b.c,v,w,z,.ag x.c,.bool false] H):=qh
def qv5(a b:aw)(x:aU)(t z v:T)(s d)(e)(H):cD 56 pN il [t,iI s,.ag a.c,.ag b.c,v,iI d,z,.ag x.c,.bool e] H lA =
( bif e then zN [t,iI s,.ag a.c,.ag b.c,v,iI d,z,.ag x.c,.bool false] H else
 bif decide (d=0) then bif decide (x.ay=a.y) then bif decide (x.an=a.n) then bif decide (x.cy=b.y) then bif decide (x.cn=b.n) then zN [t,iI s,.ag a.c,.ag b.c,v,iI d,z,.ag x.c,.bool false] H else
 zN [t,iI s,.ag a.c,.ag b.c,v,iI d,z,.ag x.c,.bool true] H else
 zN [t,iI s,.ag a.c,.ag b.c,v,iI d,z,.ag x.c,.bool true] H else
 zN [t,iI s,.ag a.c,.ag b.c,v,iI d,z,.ag x.c,.bool true] H else
 zN [t,iI s,.ag a.c,.ag b.c,v,iI d,z,.ag x.c,.bool true] H else
 zN [t,iI s,.ag a.c,.ag b.c,v,iI d,z,.ag x.c,.bool false] H):=qh
def qv6(a b:aw)(x:aU)(t z:T)(s d)(k)(y):cK (KG qt) 56 [3,2,1,2,2,0,1,2,0,0,2,1,2,2,2,2] lA [t,iI s,.ag a.c,.ag b.c,.own 0 k 0 k none,iI d,z,.ag x.c,.bool true] [cB k k y] cS =
( gD (k==k&&true)<|gD (((0:Nat)+k).ble k)<|gD (((k+(1:Nat))*(41:Nat)).ble 70368744177664)<|bif ((0:Nat)+k+(1:Nat)).ble k then zN [t,iI s,.ag a.c,.ag b.c,.own 0 k 0 (k+1)
 none,iI 1,z,.ag x.c] [.mk k 5 k (λj=>bif ((0:Nat)+k).ble j&&j.blt (0+k+1) then List.map Qk ([[uI a.y,iI a.n,uI b.y,iI b.n,iI s]].getD (j-(0+k)) [])
 else(y j).c) true false
 none] else
 zN [t,iI s,.ag a.c,.ag b.c,.own 0 (k+1) (0:Nat) (k+1)
 none,iI 1,z,.ag x.c] [.mk (k+1) (5:Nat) (k+1) (λj=>bif j.blt k then(y ((0:Nat)+j)).c
 else List.map Qk ([[uI a.y,iI a.n,uI b.y,iI b.n,iI s]].getD (j-k) [])) true false
 none]):=qh
def qv7(a b c d e f g h:T)(H:qa):cD 56 [4,2,1,2,2,0,1,2,0,0,2,1,2,2,2,2] lA [a,b,c,d,e,f,g,h,.bool false] H cS =
( zN [a,b,c,d,e,f,g,h] H):=qh
def qv8(a b:aw)(x:aU)(t v z:T)(s d)(H):cD 56 gL cS [t,iI s,.ag a.c,.ag b.c,v,iI d,z,.ag x.c] H cS =
( bif decide (x.ay=a.y) then bif decide (x.an=a.n) then bif decide (x.cy=b.y) then bif decide (x.cn=b.n) then zN [t,iI s,.ag a.c,.ag b.c,v,iI 1,z,.ag [uI x.ay,iI x.an,uI x.cy,iI x.cn,iI (i64.wrap (x.n+s))]] H else
 zN [t,iI s,.ag a.c,.ag b.c,v,iI d,z,.ag x.c] H else
 zN [t,iI s,.ag a.c,.ag b.c,v,iI d,z,.ag x.c] H else
 zN [t,iI s,.ag a.c,.ag b.c,v,iI d,z,.ag x.c] H else
 zN [t,iI s,.ag a.c,.ag b.c,v,iI d,z,.ag x.c] H):=qh
def qv9(x:aU)(t c d e f z:T)(k:Nat)(y):cK (KG qt) 56 pQ cS [t,c,d,e,.own 0 k 0 k none,f,z,.ag x.c] [cB k k y] dr =
( bif !decide (x.n=0) then gD (k==k&&true)<|gD (((0:Nat)+k).ble k)<|gD (((k+(1:Nat))*(41:Nat)).ble 70368744177664)<|bif ((0:Nat)+k+(1:Nat)).ble k then zN [t,c,d,e,.own 0 k 0 (k+1)
 none,f,z] [.mk k 5 k (λj=>bif ((0:Nat)+k).ble j&&j.blt (0+k+1) then List.map Qk ([x.c].getD (j-(0+k)) [])
 else(y j).c) true false
 none] else
 zN [t,c,d,e,.own 0 (k+1) (0:Nat) (k+1)
 none,f,z] [.mk (k+1) (5:Nat) (k+1) (λj=>bif j.blt k then(y ((0:Nat)+j)).c
 else List.map Qk ([x.c].getD (j-k) [])) true false
 none] else
 zN [t,c,d,e,.own 0 k 0 k
 none,f,z] [cB k k y]):=qh
def vb7(a b c d e f:T)(i:Nat)(H:qa):cD 56 kn dr [a,b,c,d,e,f,iI (ofNat i)] H dr =
( zN [a,b,c,d,e,f,iI (i64.wrap (ofNat i+1))] H):=qh
def qwa(a b:aw)(s d)(k)(y):cK (KG qt) 56 eK sM [iI s,.ag a.c,.ag b.c,.own 0 k 0 k none,iI d] [cB k k y] [9] =
( bif decide (d=0) then gD (k==k&&true)<|gD (((0:Nat)+k).ble k)<|gD (((k+(1:Nat))*(41:Nat)).ble 70368744177664)<|bif ((0:Nat)+k+(1:Nat)).ble k then zN [.own 0 k 0 (k+1)
 none] [.mk k 5 k (λj=>bif ((0:Nat)+k).ble j&&j.blt (0+k+1) then List.map Qk ([[uI a.y,iI a.n,uI b.y,iI b.n,iI s]].getD (j-(0+k)) [])
 else(y j).c) true false
 none] else
 zN [.own 0 (k+1) (0:Nat) (k+1)
 none] [.mk (k+1) (5:Nat) (k+1) (λj=>bif j.blt k then(y ((0:Nat)+j)).c
 else List.map Qk ([[uI a.y,iI a.n,uI b.y,iI b.n,iI s]].getD (j-k) [])) true false
 none] else
 zN [.own 0 k 0 k
 none] [cB k k y]):=qh
def qwb(k:Nat)(H:qa):cD 56 sw [9] [.own 0 k 0 k none] H [8] =
( zR [.own 0 k 0 k
 none] H):=qh
def qwc(k:Nat)(y:Nat->aU):YX au G16 (ar 56).aa Tryz.f56 (qJ [8] [.own 0 k 0 k none] [cB k k y]) (λx=>some (kQ [cB k k y] x)) =
( some (bif k==k&&((0:Nat)+k).ble k then .fresh true (5:Nat) k (λj=>(y ((0:Nat)+j)).c) k none else .undef)):=qh
def Ju{α β:Type}(f:β->α->β)(z:β)(g:Nat->α):Nat->β
 |0=>z
 |i+1=>f (Ju f z g i) (g i)
def We{α β:Type}(f:β->α->β)(z:β)(l:List α)(d:α):∀i,i<=l.length->Ju f z (λj=>l.getD j d) i=(l.take i).foldl f z
 |0,_=>rfl
 |i+1,h=>by
  show f (Ju f z (λj=>l.getD j d) i) (l.getD i d)=_;rw[We f z l d i ab,ui,show l[i]?=some (l.getD i d) by rw[wg,wi ab];rfl,Option.toList_some,xC];rfl
def qiK{α β}(f)(z:β)(l:List α)(d:α):Ju f z (λj=>l.getD j d) l.length=l.foldl f z:=by
 rw[We f z l d l.length (wc _),xh]
def u9(a b:aw)(s:Int):aU:=⟨a.y,a.n,b.y,b.n,s⟩
def eD(x:aU)(a b:aw):Bool:=decide (x.ay=a.y)&&(decide (x.an=a.n)&&(decide (x.cy=b.y)&&decide (x.cn=b.n)))
def fu(x:aU)(a b:aw):Bool:=decide (x.ay<a.y) || (decide (x.ay=a.y)&&(decide (x.an<a.n) || (decide (x.an=a.n)&&(decide (x.cy<b.y) || (decide (x.cy=b.y)&&decide (x.cn<b.n))))))
def Ce(a b:aw):Bool:=decide (b.y<a.y) || (decide (a.y=b.y)&&decide (b.n<a.n))
def KI(a b:aw)(s:Int)(p:List aU×Bool)(x:aU):List aU×Bool:=bif !fu x a b&&(!p.2&&!eD x a b) then(p.1++[u9 a b s],true) else p
def iM(a b:aw)(s:Int)(x:aU):aU:=bif eD x a b then ⟨x.ay,x.an,x.cy,x.cn,i64.wrap (x.n+s)⟩ else x
def fE(a b:aw)(s:Int)(p:List aU×Bool)(x:aU):List aU×Bool :=
 (bif !decide ((iM a b s x).n=0) then(KI a b s p x).1++[iM a b s x] else(KI a b s p x).1,eD x a b || (KI a b s p x).2)
def jF(a b:aw)(s:Int)(p:List aU×Bool):List aU:=bif p.2 then p.1 else p.1++[u9 a b s]
def Z0(l:List aU)(a b:aw)(s:Int):List aU:=bif Ce a b then jF b a s (l.foldl (fE b a s) ([],false)) else jF a b s (l.foldl (fE a b s) ([],false))
def nu(d:Bool):Int:=bif d then 1 else 0
def oC(st:List aU):T:=.own 0 st.length 0 st.length none
def hC(st:List aU):qa:=[cB st.length st.length λj=>st.getD j lH]
def PA(st)(x)(c)(e:List.map Qk c=x.c):ai [ap.mk (st.length+1) 5 (st.length+1) (λj=>bif j.blt st.length then(st.getD (0+j) lH).c else List.map Qk ([c].getD (j-st.length) [])) true false none] (hC (st++[x])):=by
 have d:(st++[x]).length=st.length+1:=by simp
 unfold hC cB;rw[d];refine .cons ⟨rfl,rfl,rfl,λh=>h,λj a=>?_⟩ .nil rfl;have a:j<st.length+1:=a;show((st++[x]).getD j lH).c=bif j.blt st.length then(st.getD (0+j) lH).c else List.map Qk ([c].getD (j-st.length) []);rw[zS];by_cases q:j=st.length
 .subst q;rw[wl rfl,QZ (wc _),va];grind
 .rw[wh q,qN ab,wo];rfl
def PB(st)(x):oC (st++[x]) = .own 0 (st.length+1) 0 (st.length+1) none:=by
 unfold oC;rw[show(st++[x]).length=st.length+1 by simp]
def vC(l:Nat->aU)(n:Nat)(a b:aw)(s:Int)(i:Nat)(p:List aU×Bool):t7:=[mb l n none,iI s,.ag a.c,.ag b.c,oC p.1,iI (nu p.2),iI (ofNat i)]
def qok(a b:aw)(s:Int)(p)(x):(fE a b s p x).1.length<=p.1.length+2:=by
 unfold fE KI;cases (!fu x a b&&(!p.2&&!eD x a b))<;>cases !decide ((iM a b s x).n=0)<;>simp
def ql8{h0:qa}(l:Nat->aU)(n)(a b:aw)(s:Int)(i:Nat)(O:i<n)(hn:n<=1000000)(p:List aU×Bool)(hp:p.1.length<=2*i) :
 Pq 56 h0 ew dr (vC l n a b s i p) (hC p.1) .normal dr (vC l n a b s (i+1) (fE a b s p (l i))) (hC (fE a b s p (l i)).1):=by
 obtain⟨st,dn⟩:=p;have hp:st.length<=2*i:=hp;have run:=λ{p l B h f C M e} (q:cD 56 p l B h f=some (e,C,M))=>aP h0 q;have g:OO (KG qt):=qA qm (λ_ _ _ _ h=>(by cases h));have A:∀k:Nat,(k==k&&true)=true:=λk=>by simp
 let t:T:=mb l n none
 let x:aU:=l i
 have J:=run ((vb6 l n i (iI s) (.ag a.c) (.ag b.c) (oC st) (iI (nu dn)) (hC st)).trans (qj (wt bP) rfl));have I:=run ((vb8 l n i (iI s) (.ag a.c) (.ag b.c) (oC st) (iI (nu dn)) (hC st)).trans (qj rx rfl));have N:cD 56 ix cS [t,iI s,.ag a.c,.ag b.c,oC st,iI (nu dn),iI (ofNat i),.ag x.c] (hC st) il=some (.normal,[t,iI s,.ag a.c,.ag b.c,oC st,iI (nu dn),iI (ofNat i),.ag x.c,.bool (fu x a b)],hC st):=by
  refine(vb9 a b x t (iI s) (oC st) (iI (nu dn)) (iI (ofNat i)) (hC st)).trans ?_;unfold fu;cases decide (x.ay<a.y)<;>cases decide (x.ay=a.y)<;>cases decide (x.an<a.n)<;>cases decide (x.an=a.n)<;>cases decide (x.cy<b.y)<;>cases decide (x.cy=b.y)<;>cases decide (x.cn<b.n)<;>rfl
 have u:cD 56 pN il [t,iI s,.ag a.c,.ag b.c,oC st,iI (nu dn),iI (ofNat i),.ag x.c,.bool (fu x a b)] (hC st) lA=some (.normal,[t,iI s,.ag a.c,.ag b.c,oC st,iI (nu dn),iI (ofNat i),.ag x.c,.bool (!fu x a b&&(!dn&&!eD x a b))],hC st):=by
  refine(qv5 a b x t (iI (ofNat i)) (oC st) s (nu dn) (fu x a b) (hC st)).trans ?_;unfold eD;cases fu x a b<;>cases dn<;>cases decide (x.ay=a.y)<;>cases decide (x.an=a.n)<;>cases decide (x.cy=b.y)<;>cases decide (x.cn=b.n)<;>rfl
 have E:Pq 56 h0 lP il [t,iI s,.ag a.c,.ag b.c,oC st,iI (nu dn),iI (ofNat i),.ag x.c,.bool (fu x a b)] (hC st) .normal cS [t,iI s,.ag a.c,.ag b.c,oC (KI a b s (st,dn) x).1,iI (nu (KI a b s (st,dn) x).2),iI (ofNat i),.ag x.c] (hC (KI a b s (st,dn) x).1):=by
  refine ao (run u) ?_;unfold KI;cases (!fu x a b&&(!dn&&!eD x a b)) with
  |true =>
   refine Pz.im 116 qh rfl ?_;have q:=(qv6 a b x t (iI (ofNat i)) s (nu dn) st.length (λj=>st.getD j lH)).trans (qj (A _) (qj (qR ab) (qj (qR ab) (qB (by rw[ZE ab];simp) rfl))));rw[wp,PB];exact Pz.post (bR g h0 q) λnt=>.same (PA st (u9 a b s) _ rfl)
  |false =>
   refine Pz.fU 116 qh rfl ?_;exact run (qv7 t (iI s) (.ag a.c) (.ag b.c) (oC st) (iI (nu dn)) (iI (ofNat i)) (.ag x.c) (hC st))
 have f:(KI a b s (st,dn) x).1.length<=2*i+1:=by
  grind[KI]
 have hx:fE a b s (st,dn) x=(bif !decide ((iM a b s x).n=0) then(KI a b s (st,dn) x).1++[iM a b s x] else(KI a b s (st,dn) x).1,eD x a b || (KI a b s (st,dn) x).2):=rfl;show Pq 56 h0 _ _ _ _ .normal _ (vC l n a b s (i+1) (fE a b s (st,dn) x)) (hC (fE a b s (st,dn) x).1);rw[hx];generalize (KI a b s (st,dn) x)=L at *
 obtain⟨s1,d1⟩:=L;have f:s1.length<=2*i+1:=f;have r:cD 56 gL cS [t,iI s,.ag a.c,.ag b.c,oC s1,iI (nu d1),iI (ofNat i),.ag x.c] (hC s1) cS=some (.normal,[t,iI s,.ag a.c,.ag b.c,oC s1,iI (nu (eD x a b || d1)),iI (ofNat i),.ag (iM a b s x).c],hC s1):=by
  refine(qv8 a b x t (oC s1) (iI (ofNat i)) s (nu d1) (hC s1)).trans ?_;unfold iM eD;cases decide (x.ay=a.y)<;>cases decide (x.an=a.n)<;>cases decide (x.cy=b.y)<;>cases decide (x.cn=b.n)<;>rfl
 have D:Pq 56 h0 pQ cS [t,iI s,.ag a.c,.ag b.c,oC s1,iI (nu (eD x a b || d1)),iI (ofNat i),.ag (iM a b s x).c] (hC s1) .normal dr (vC l n a b s i (bif !decide ((iM a b s x).n=0) then s1++[iM a b s x] else s1,eD x a b || d1)) (hC (bif !decide ((iM a b s x).n=0) then s1++[iM a b s x] else s1)):=by
  have q:=qv9 (iM a b s x) t (.int .i64 s) (.ag a.c) (.ag b.c) (.int .i64 (nu (eD x a b || d1))) (.int .i64 (ofNat i)) s1.length (λj=>s1.getD j lH);cases z:!decide ((iM a b s x).n=0) with
  |true =>
   have q:=q.trans (qj z (qj (A _) (qj (qR ab) (qj (qR ab) (qB (by rw[ZE ab];simp) rfl)))));unfold vC;rw[wp,PB];exact Pz.post (bR g h0 q) λnt=>.same (PA s1 (iM a b s x) _ rfl)
  |false=>exact bR g h0 (q.trans (qB (by rw[z];simp) rfl))
 have q7:=λ(o d:T) (H:qa)=>vb7 t (iI s) (.ag a.c) (.ag b.c) o d i H;have q7:∀(o d:T) (H:qa),_:=λo d H=>by
  have:=q7 o d H;rw[dH ab] at this;omega
 exact ao J (ao (cO 1 (ao I (ao (run N) (ao E (ao (run r) D))))) (run (q7 _ _ _)))
def PC(a b:aw)(s:Int)(l:Nat->aU):∀i,(Ju (fE a b s) ([],false) l i).1.length<=2*i
 |0=>wc _
 |i+1=>by
  have h:=PC a b s l i;have d:=qok a b s (Ju (fE a b s) ([],false) l i) (l i);show(fE a b s (Ju (fE a b s) ([],false) l i) (l i)).1.length<=_;omega
def qol(l:List aU)(a b:aw)(s:Int)(M:l.length<=1000000):TO 56 [aQ l,.agg a.c,.agg b.c,iI s] (.new (aQ (Z0 l a b s))):=by
 have run:=λ{p l E h J H P e} (q:cD 56 p l E h J=some (e,H,P))=>aP [] q;have C:OO (KG qt):=qA qm (λ_ _ _ _ h=>(by cases h));have L:∀k:Nat,(k==k&&true)=true:=λk=>by simp
 let g:Nat->aU:=λj=>l.getD j lH
 have f:∀(a b:aw),Pq 56 [] [2,2] sE [aQ l,iI s,.ag a.c,.ag b.c] [] .ret [8] [oC (jF a b s (l.foldl (fE a b s) ([],false)))] (hC (jF a b s (l.foldl (fE a b s) ([],false)))):=by
  intro a b;have st:Pq 56 [] lD sE [aQ l,iI s,.ag a.c,.ag b.c] [] .normal [0,3,5,6,9] [aQ l,iI s,.ag a.c,.ag b.c,oC []] (hC []) :=
   Pz.post (run (vb3 _ _ _ _)) λnt=>ak.gh (hC []) (by intro b O;obtain rfl:=wL.1 O;exact⟨rfl,rfl⟩) (.rg (.rg (.rg (.rg (.cons (.inl (.own (k:=0) (b:=cB 0 0 _) (wN _) rfl rfl)) .nil))))) (cT.refl _)
  have D:Ju (fE a b s) ([],false) g l.length=l.foldl (fE a b s) ([],false):=qiK _ _ l lH;have B:=PC a b s g l.length;rw[D] at B;have lp:Pq 56 [] lT dr (vC g l.length a b s 0 ([],false)) (hC []) (.exit 0) sM [iI s,.ag a.c,.ag b.c,oC (l.foldl (fE a b s) ([],false)).1,iI (nu (l.foldl (fE a b s) ([],false)).2)] (hC (l.foldl (fE a b s) ([],false)).1) :=
   Pz.count qh (λi=>vC g l.length a b s i (Ju (fE a b s) ([],false) g i)) (λi=>hC (Ju (fE a b s) ([],false) g i).1) (n:=l.length) aq (λi N=>ql8 g l.length a b s i N M _ (PC a b s g i)) (by
    rw[D];exact ed (run ((qv4 g l.length l.length (iI s) (.ag a.c) (.ag b.c) (oC (l.foldl (fE a b s) ([],false)).1) (iI (nu (l.foldl (fE a b s) ([],false)).2)) (hC (l.foldl (fE a b s) ([],false)).1)).trans (qB (gW bP) rfl))))
  generalize l.foldl (fE a b s) ([],false)=p at *
  obtain⟨o,d⟩:=p;have B:o.length<=2*l.length:=B;have I:Pq 56 [] eK sM [iI s,.ag a.c,.ag b.c,oC o,iI (nu d)] (hC o) .normal [9] [oC (jF a b s (o,d))] (hC (jF a b s (o,d))):=by
   have q:=qwa a b s (nu d) o.length (λj=>o.getD j lH);unfold jF;cases d with
   |true=>exact bR C [] (q.trans (qB (by simp[nu]) rfl))
   |false =>
    have q:=q.trans (qj (by simp[nu]) (qj (L _) (qj (qR ab) (qj (qR ab) (qB (by rw[ZE ab];simp) rfl)))));show Pq 56 [] _ _ _ _ .normal [9] [oC (o++[u9 a b s])] (hC (o++[u9 a b s]));rw[PB];exact Pz.post (bR C [] q) λnt=>.same (PA o (u9 a b s) _ rfl)
  exact ao st (ao (run (vb4 _ _ _ _ _ _)) (ao (ao (run (vb5 _ _ _ _ _ _ _)) (cO 0 lp)) (ao I (run (qwb _ _)))))
 have all:Pq 56 [] [] lE [aQ l,.agg a.c,.agg b.c,iI s] [] .ret [8] [oC (Z0 l a b s)] (hC (Z0 l a b s)):=by
  refine ao (run (vb1 g l.length a b s)) ?_;have q:=vb2 (aQ l) a b s;unfold Z0 Ce;by_cases r:b.y<a.y
  .rw[wt r,Bool.true_or,wp];exact ao (run (q.trans (qj (wt r) rfl))) (f b a)
  .by_cases u:a.y=b.y
   .by_cases x:b.n<a.n
    .rw[dF r,wt u,wt x,xZ,wQ,wp];exact ao (run (q.trans (qB (gW r) (qj (wt u) (qj (wt x) rfl))))) (f b a)
    .rw[dF r,wt u,dF x,xZ,wQ,wq];exact ao (run (q.trans (qB (gW r) (qj (wt u) (qB (gW x) rfl))))) (f a b)
   .rw[dF r,dF u,xZ,xT,wq];exact ao (run (q.trans (qB (gW r) (qB (gW u) rfl)))) (f a b)
 generalize Z0 l a b s=o at *
 have t:=Pz.told (A:=ar) qY Tryz.func56 qh qh (l:=lE) rfl all
  ((qwc o.length (λj=>o.getD j lH)).trans (vA some (show(bif o.length==o.length&&Nat.ble (0+o.length) o.length then _ else _)=T.fresh true 5 o.length (λj=>(o.getD (0+j) lH).c) o.length none by rw[qR ab,wF];rfl)))
 refine(aD.iQ t).ma (.new (.view (.inl rfl) λj Q=>?_));rw[wo];exact .refl _
structure Wx where
 (sl cr he fa:T) (d:Int)
def wB(x:Wx):ap:=⟨0,7,1,λ_=>[x.sl,.own 1 0 0 6 none,.own 2 0 0 6 none,x.cr,x.he,x.fa,uI x.d],false,false,none⟩
def sU(x:Wx)(Y:ap)(t:ap)(ln v:Nat->Nat)(L:Nat->Nat->cQ)(rest:qa):qa:=wB x::Y::t::rB ln v L 0::rB ln v L 1::rB ln v L 2::rB ln v L 3::rB ln v L 4::rB ln v L 5::rest
def HW(x:Wx)(Y:Nat->bC)(ln v:Nat->Nat)(L:Nat->Nat->cQ)(rest:qa):qa:=sU x (yB Y) (tB ln v) ln v L rest
def ms(x:Wx)(Y:Nat->bC)(ln v:Nat->Nat)(L:Nat->Nat->cQ)(t:ap)(K:Nat)(b:ap)(rest:qa):qa:=wB x::yB Y::t::tC ln v L K b 0::tC ln v L K b 1::tC ln v L K b 2::tC ln v L K b 3::tC ln v L K b 4::tC ln v L K b 5::rest
def yK(K:Nat):T:=iI (ofNat K+1)
def yD(K:Nat):Int:=i64.wrap (ofNat K+1-1)
def yP(K:Nat):T:=.ptr 1 0 K 0
def fe(K:Nat)(ct:Int):T:=.ag [uI (u8.wrap (ofNat K+1)),iI ct]
def Cf(b:Int)(w:Bool):t7:=[uI b,.bool w,.view 2 0 (λj=>([]:List t7).getD j []) (some 0),.view 4 0 (λj=>([]:List t7).getD j []) (some 0)]
section
variable (x:Wx) (Y:Nat->bC) (ln v:Nat->Nat) (L:Nat->Nat->cQ) (rest H:qa) (K:Nat) (b:Int) (th:T) (ct:Int)
def PD:cD 48 [1] lE [p0,yK K,uI b,th] (HW x Y ln v L rest) [0,1,2,3,8]=some (.normal,[p0,yK K,uI b,th,rz],HW x Y ln v L rest):=qh
def PE:cD 48 eH [0,1,2,3,8] [p0,yK K,uI b,th,rz] (HW x Y ln v L rest) [0,1,2,3,8,9] =
 (bif decide (0<=yD K)&&decide (yD K<6) then some (.normal,[p0,yK K,uI b,th,rz,.ptr 1 0 (0+(yD K).toNat) 0],HW x Y ln v L rest) else none):=qh
def PF:cD 48 lD [0,1,2,3,8,9] [p0,yK K,uI b,th,rz,yP K] (HW x Y ln v L rest) dm =
 (bif K.blt 6 then some (.normal,[p0,yK K,uI b,th,rz,yP K,fe K (Y K).ct],HW x Y ln v L rest) else none):=qh
def qwd(d:K<6)(pe:Nat->bl)(i:Bool)(pl:Int)(w:Bool)(a:Nat->bC):cK (KG qt) 48 dd dm [p0,yK K,uI b,.ae,rz,yP K,fe K ct] (HW x (aA a K ⟨i,pl,ct,w,pe,0⟩) ln v L rest) gd =
 (bif w then(bif v K==v K&&true then bif (0+ln K).ble (ln K) then bif ((ln K+1)*57).ble 70368744177664 then bif (0+ln K+1).ble (ln K) then some (.normal,[rz,yP K,fe K ct],ms x (aA a K ⟨i,pl,ct,w,pe,0⟩) ln v L (lw ln v K (v K)) K (Px ln v L K (Cf b true)) rest) else
  some (.normal,[rz,yP K,fe K ct],ms x (aA a K ⟨i,pl,ct,w,pe,0⟩) ln v L (lw ln v K (v K+1)) K (rT ln v L K (Cf b true)) rest) else none else none else none)
  else(bif v K==v K&&true then bif (0+ln K).ble (ln K) then bif ((ln K+1)*57).ble 70368744177664 then bif (0+ln K+1).ble (ln K) then some (.normal,[rz,yP K,fe K ct],ms x (aA a K ⟨i,pl,ct,w,pe,0⟩) ln v L (lw ln v K (v K)) K (Px ln v L K (Cf b false)) rest) else
   some (.normal,[rz,yP K,fe K ct],ms x (aA a K ⟨i,pl,ct,w,pe,0⟩) ln v L (lw ln v K (v K+1)) K (rT ln v L K (Cf b false)) rest) else none else none else none)):=by
 cases ZH d
 all_goals kernel_rfl
def PG:cD 48 k7 gd [rz,yP K,fe K ct] (HW x Y ln v L rest) gd =
 (bif K.blt 6 then bif K.blt 6&&true&&true&&true then some (.normal,[rz,yP K,fe K ct],sU x (yG Y K [.bool (Y K).i,iI (Y K).pl,iI (i64.wrap ((Y K).ct+1)),.bool (Y K).w,bY (Y K).pe (Y K).np none]) (tB ln v) ln v L rest) else none else none):=qh
def PH:cD 48 eK gd [rz,yP K,fe K ct] (HW x Y ln v L rest) gd =
 (bif K.blt 6&&true&&true&&true then some (.normal,[rz,yP K,fe K ct],sU x (yG Y K [.bool (Y K).i,iI (Y K).pl,iI (Y K).ct,.bool false,bY (Y K).pe (Y K).np none]) (tB ln v) ln v L rest) else none):=qh
def PI:cD 48 lY gd [rz,yP K,fe K ct] (HW x Y ln v L rest) [8,10] =
 (bif K.blt 6&&true&&true&&true then some (.normal,[rz,fe K ct],sU x (yG Y K [.bool (Y K).i,iI (Y K).pl,iI (Y K).ct,.bool (Y K).w,.ae]) (tB ln v) ln v L rest) else none):=qh
def PJ:cD 48 s4 [8,10] [rz,fe K ct] H [8]=some (.ret,[fe K ct],H):=qh
end
def Ys.hw(q:Ys)(x:Wx)(v:Nat->Nat)(rest:qa):qa:=HW x (λe=>(q.Y e).y) (λe=>(q.tb e).length) v (λe j=>((q.tb e).getD j dP).l) rest
def Zs{x:Wx}{Y}{ln v}{L}{rest}{K}{c}{y}(d:eX c y.c){aa}{nt k}{l:t8}{vs:t7}:ak G16 aa nt l k vs (sU x (yG Y K c) (tB ln v) ln v L rest) vs (HW x (aA Y K y) ln v L rest):=by
 refine .nR rfl (λi a b g f=>by obtain rfl:=we (g.symm.trans f);exact .refl _) (.cons ⟨rfl,rfl,rfl⟩ (λh=>(by cases h)) (λ_ _=>.refl _) (.cons ⟨rfl,rfl,rfl⟩ (λh=>(by cases h)) (λe he=>?_) (.refl _)));show eX (Kj (e==K) c (Y e).c) (aA Y K y e).c;rw[kM];unfold aA;by_cases q:e=K
 .rw[wl q,show(e==K)=true by grind];exact d
 .rw[wh q,show(e==K)=false by grind];exact .refl _
def PK{x:Wx}{Y}{ln v}{L}{rest}{K}{c}{z}(B:eX c z.c){aa:t8}{nt k:Nat}{l:t8}{vs:t7} :
 ak G16 aa nt l k vs (ms x Y ln v L (lw ln v K (v K+1)) K (rT ln v L K c) rest) vs (HW x Y (aA ln K (ln K+1)) (aA v K (v K+1)) (mY L K (ln K) z) rest):=by
 have key:∀e,(rB (aA ln K (ln K+1)) (aA v K (v K+1)) (mY L K (ln K) z) e).mp=(tC ln v L K (rT ln v L K c) e).mp ∧
  (rB (aA ln K (ln K+1)) (aA v K (v K+1)) (mY L K (ln K) z) e).aj=(tC ln v L K (rT ln v L K c) e).aj ∧
  (rB (aA ln K (ln K+1)) (aA v K (v K+1)) (mY L K (ln K) z) e).sz=(tC ln v L K (rT ln v L K c) e).sz ∧
  (rB (aA ln K (ln K+1)) (aA v K (v K+1)) (mY L K (ln K) z) e).n=(tC ln v L K (rT ln v L K c) e).n ∧
  ∀j,j<(tC ln v L K (rT ln v L K c) e).n->eX ((tC ln v L K (rT ln v L K c) e).get j) ((rB (aA ln K (ln K+1)) (aA v K (v K+1)) (mY L K (ln K) z) e).get j):=by
  intro e;unfold tC;by_cases d:e=K
  .subst d;rw[wF,wp];refine⟨rfl,wl rfl,rfl,wl rfl,λj g=>?_⟩;have g:j<ln e+1:=g;show eX (bif j.blt (ln e) then(L e (0+j)).c else [c].getD (j-ln e) []) (mY L e (ln e) z e j).c;unfold mY;by_cases q:j=ln e
   .subst q;rw[wl ⟨rfl,rfl⟩,QZ (wc _),va];exact B
   .rw[wh (λh=>q h.2),qN ab,wo];exact .refl _
  .rw[show(e==K)=false by grind,wq];refine⟨rfl,wh d,rfl,wh d,λj g=>?_⟩;show eX (L e j).c (mY L K (ln K) z e j).c;unfold mY;rw[wh (λh=>d h.1)];exact .refl _
 have step:∀e,∀{h f:qa},bg h f->bg (tC ln v L K (rT ln v L K c) e::h) (rB (aA ln K (ln K+1)) (aA v K (v K+1)) (mY L K (ln K) z) e::f):=λe _ _ A=>by
  obtain⟨u,s,k3,r,o⟩:=key e;exact .cons ⟨s,k3,r⟩ (λh=>(by cases h)) o A u
 refine .nR rfl (λi a b C f=>by obtain rfl:=we (C.symm.trans f);exact .refl _) (.cons ⟨rfl,rfl,rfl⟩ (λh=>(by cases h)) (λ_ _=>.refl _) (.cons ⟨rfl,rfl,rfl⟩ (λh=>(by cases h)) (λ_ _=>.refl _) (.cons ⟨rfl,rfl,rfl⟩ (λh=>(by cases h)) (λe he=>?_)
  (step 0 (step 1 (step 2 (step 3 (step 4 (step 5 (.refl _))))))))))
 show eX [bif e==K then T.own (3+K) (v K+1) 0 (ln K+1) none else .own (3+e) (v e) 0 (ln e) none] [T.own (3+e) (aA v K (v K+1) e) 0 (aA ln K (ln K+1) e) none];unfold aA;by_cases d:e=K
 .rw[wl d,wl d,show(e==K)=true by grind,d];exact .refl _
 .rw[wh d,wh d,show(e==K)=false by grind];exact .refl _
def PL(q:Ys)(x:Wx)(v)(rest)(K)(b)(th) :
 HW x (aA (λe=>(q.Y e).y) K (q.Y K).next.y) (aA (λe=>(q.tb e).length) K ((q.tb K).length+1)) (aA v K (v K+1)) (mY (λe j=>((q.tb e).getD j dP).l) K (q.tb K).length ((q.Y K).lp b th).l) rest=(q.loop K b th).hw x (aA v K (v K+1)) rest:=by
 have h:=qob q .ae .ae 0 v K b th;have f:=vA Sx.Y h;have d:=vA Sx.ln h;have a:=vA Sx.L h;show HW x (((q.sx .ae .ae 0 v).loop K b (λj=>th.getD j bA) th.length).Y) (((q.sx .ae .ae 0 v).loop K b (λj=>th.getD j bA) th.length).ln) (aA v K (v K+1)) (((q.sx .ae .ae 0 v).loop K b (λj=>th.getD j bA) th.length).L) rest=_;rw[f,d,a];rfl
def PM(q:Ys)(x)(v)(rest)(K)(b:Int)(o:K<6)(hp:(q.Y K).pe=[])(hi:(q.Y K).i=true)(h0:0<=(q.Y K).ct)(h1:(q.Y K).ct<1000000)(hn:(q.tb K).length<=1000000) :
 aR au G16 48 [p0,yK K,uI b,.ae] (q.hw x v rest) (.agg [uI (ofNat K+1),iI (q.Y K).ct]) ((q.loop K b []).hw x (aA v K (v K+1)) rest):=by
 have hD:yD K=ofNat K:=by
  unfold yD;rw[show ofNat K+1-1=ofNat K by omega,Qv bP bP]
 have h8:u8.wrap (ofNat K+1)=ofNat K+1:=nY bP bP
 let Y:Nat->bC:=λe=>(q.Y e).y
 let ln:Nat->Nat:=λe=>(q.tb e).length
 let L:Nat->Nat->cQ:=λe j=>((q.tb e).getD j dP).l
 have eY:aA Y K ⟨(q.Y K).i,(q.Y K).pl,(q.Y K).ct,(q.Y K).w,λj=>([]:List bl).getD j dV,0⟩ = Y:=funext λe=>by
  show(if e=K then _ else Y e)=Y e;grind[Yn.y]
 have Z:=aP (q.hw x v rest) (PD x Y ln v L rest K b .ae);have J:=PE x Y ln v L rest K b .ae;rw[hD,show 0+(ofNat K).toNat=K by simp] at J;have X:=aP (q.hw x v rest) (J.trans (qj (gV o) rfl));have W:=aP (q.hw x v rest) ((PF x Y ln v L rest K b .ae).trans (qj (qN o) rfl));have Q:cK (KG qt) 48 dd dm [p0,yK K,uI b,.ae,rz,yP K,fe K (q.Y K).ct] (HW x Y ln v L rest) gd=some (.normal,[rz,yP K,fe K (q.Y K).ct],ms x Y ln v L (lw ln v K (v K+1)) K (rT ln v L K (Cf b (q.Y K).w)) rest):=by
  have z:=qwd x ln v L rest K b (q.Y K).ct o (λj=>([]:List bl).getD j dV) (q.Y K).i (q.Y K).pl (q.Y K).w Y;rw[eY] at z;have hl:ln K<=1000000:=hn;refine z.trans ?_;have fin:∀w,(bif v K==v K&&true then bif (0+ln K).ble (ln K) then bif ((ln K+1)*57).ble 70368744177664 then bif (0+ln K+1).ble (ln K) then some (Ex.normal,[rz,yP K,fe K (q.Y K).ct],ms x Y ln v L (lw ln v K (v K)) K (Px ln v L K (Cf b w)) rest) else
   some (.normal,[rz,yP K,fe K (q.Y K).ct],ms x Y ln v L (lw ln v K (v K+1)) K (rT ln v L K (Cf b w)) rest) else none else none else none)=some (Ex.normal,[rz,yP K,fe K (q.Y K).ct],ms x Y ln v L (lw ln v K (v K+1)) K (rT ln v L K (Cf b w)) rest):=λw =>
   qj aq (qj (qR ab) (qj (qR ab) (qB (by rw[ZE ab];simp) rfl)))
  grind
 have V:=Pz.post (bR (qA qm (λ_ _ _ _ h=>(by cases h))) (q.hw x v rest) Q) (v2:=[rz,yP K,fe K (q.Y K).ct]) (h2:=HW x Y (aA ln K (ln K+1)) (aA v K (v K+1)) (mY L K (ln K) ((q.Y K).lp b []).l) rest) λnt =>
  PK (c:=Cf b (q.Y K).w) (z:=((q.Y K).lp b []).l) (.rg (.rg (.cons (.view (.inr rfl) λj u=>absurd u (vy j)) (.cons (by
   show bU (.view 4 0 _ (some 0)) (bY (λj=>(q.Y K).pe.getD j dV) (q.Y K).pe.length none);rw[hp];exact .view (.inr rfl) λj u=>absurd u (vy j)) .nil))))
 have key:∀(a:Nat->bC) (g:Nat->Nat) (k:Nat->Nat->cQ) (d:Nat->Nat),(a K).i=true->(a K).ct=(q.Y K).ct->(a K).pl=(q.Y K).pl →
  Pq 48 (q.hw x v rest) tS gd [rz,yP K,fe K (q.Y K).ct] (HW x a g d k rest) .ret [8] [fe K (q.Y K).ct] (HW x (aA a K (q.Y K).next.y) g d k rest):=by
  intro a g k d P O N;have e1:i64.wrap ((a K).ct+1)=(q.Y K).ct+1:=by rw[O];exact Qv ab ab
  have I:=PG x a g d k rest K (q.Y K).ct;rw[e1] at I;have pe:=Pz.post (aP (q.hw x v rest) (I.trans (qj (qN o) (qj (by rw[qN o];rfl) rfl)))) (v2:=[rz,yP K,fe K (q.Y K).ct]) (h2:=HW x (aA a K ⟨true,(q.Y K).pl,(q.Y K).ct+1,(a K).w,(a K).pe,(a K).np⟩) g d k rest) λnt=>Zs (by rw[P,N];exact .refl _);have H:=PH x (aA a K ⟨true,(q.Y K).pl,(q.Y K).ct+1,(a K).w,(a K).pe,(a K).np⟩) g d k rest K (q.Y K).ct;have D:∀(f:Nat->bC) (z:bC),aA f K z K=z:=λf z=>wl rfl;have C:∀(f:Nat->bC) (z s:bC),aA (aA f K z) K s=aA f K s:=λf z s=>funext λe=>by
   show(if e=K then s else if e=K then z else f e)=if e=K then s else f e;grind
  rw[D] at H;have U:=Pz.post (aP (q.hw x v rest) (H.trans (qj (by rw[qN o];rfl) rfl))) (v2:=[rz,yP K,fe K (q.Y K).ct]) (h2:=HW x (aA a K ⟨true,(q.Y K).pl,(q.Y K).ct+1,false,(a K).pe,(a K).np⟩) g d k rest) λnt=>by
   rw[←C a ⟨true,(q.Y K).pl,(q.Y K).ct+1,(a K).w,(a K).pe,(a K).np⟩ ⟨true,(q.Y K).pl,(q.Y K).ct+1,false,(a K).pe,(a K).np⟩];exact Zs (c:=(bC.mk true (q.Y K).pl ((q.Y K).ct+1) false (a K).pe (a K).np).c) (y:=⟨true,(q.Y K).pl,(q.Y K).ct+1,false,(a K).pe,(a K).np⟩) (.refl _)
  have E:=PI x (aA a K ⟨true,(q.Y K).pl,(q.Y K).ct+1,false,(a K).pe,(a K).np⟩) g d k rest K (q.Y K).ct;rw[D] at E;have S:=Pz.post (aP (q.hw x v rest) (E.trans (qj (by rw[qN o];rfl) rfl))) (v2:=[rz,fe K (q.Y K).ct]) (h2:=HW x (aA a K (q.Y K).next.y) g d k rest) λnt=>by
   rw[←C a ⟨true,(q.Y K).pl,(q.Y K).ct+1,false,(a K).pe,(a K).np⟩ (q.Y K).next.y];exact Zs (c:=[.bool true,iI (q.Y K).pl,iI ((q.Y K).ct+1),.bool false,.ae]) (y:=(q.Y K).next.y) (.rg (.rg (.rg (.rg (.cons (.eZ _ _ (.inl rfl)) .nil)))))
  have R:=aP (q.hw x v rest) (PJ (HW x (aA a K (q.Y K).next.y) g d k rest) K (q.Y K).ct);exact ao pe (ao U (ao S R))
 have M:=key Y (aA ln K (ln K+1)) (mY L K (ln K) ((q.Y K).lp b []).l) (aA v K (v K+1)) hi rfl rfl;have e2:HW x (aA Y K (q.Y K).next.y) (aA ln K (ln K+1)) (aA v K (v K+1)) (mY L K (ln K) ((q.Y K).lp b []).l) rest=(q.loop K b []).hw x (aA v K (v K+1)) rest:=PL q x v rest K b [];rw[e2] at M;have t:=Pz.fG (A:=ar) qY Tryz.func48 qh qh (l:=lE) rfl (ao Z (ao X (ao W (ao V M)))) (r:=.agg [uI (u8.wrap (ofNat K+1)),iI (q.Y K).ct]) rfl;rw[h8] at t;exact t
def PN(v n:Nat)(g:Nat->aw):ap:=.mk v 2 n (λj=>(g j).c) true false none
def G9(l:List aB)(c:Option Nat)(v n i:Nat):t7:=[bQ l c,.own 0 v 0 n none,iI (ofNat i)]
def Wf(l:List aB)(c:Option Nat)(v n i:Nat)(g:Nat->aw):cD 29 c7 ss (G9 l c v n i) [PN v n g] ss =
( bif decide (ofNat i<ofNat l.length) then gD (decide (0<=ofNat i)&&decide (ofNat i<ofNat l.length))<|gD (v==v&&true)<|gD (((0:Nat)+n).ble n)<|bif (l.getD i (aB.mk (0:Int) [])).l.length==(0:Nat) then zN [bQ l c,.own 0 v 0 n
 none,iI (i64.wrap (ofNat i+1))] [PN v n g] else
 gD (((n+(l.getD i (aB.mk (0:Int) [])).l.length)*(17:Nat)).ble 70368744177664)<|bif ((0:Nat)+n+(l.getD i (aB.mk (0:Int) [])).l.length).ble n then zN [bQ l c,.own 0 v 0 (n+(l.getD i (aB.mk (0:Int) [])).l.length)
 none,iI (i64.wrap (ofNat i+1))] [.mk v 2 n (λj=>bif ((0:Nat)+n).ble j&&j.blt (0+n+(l.getD i (aB.mk (0:Int) [])).l.length) then((l.getD i (aB.mk (0:Int) [])).l.getD (j-((0:Nat)+n)) (aw.mk (0:Int) (0:Int))).c
 else(g j).c) true false
 none] else
 zN [bQ l c,.own 0 (v+1) (0:Nat) (n+(l.getD i (aB.mk (0:Int) [])).l.length)
 none,iI (i64.wrap (ofNat i+1))] [.mk (v+1) (2:Nat) (n+(l.getD i (aB.mk (0:Int) [])).l.length) (λj=>bif j.blt n then(g ((0:Nat)+j)).c
 else((l.getD i (aB.mk (0:Int) [])).l.getD (j-n) (aw.mk (0:Int) (0:Int))).c) true false
 none] else
 zX 0 (G9 l c v n i) [PN v n g]):=qh
def qwe(l:List aB)(c:Option Nat):cD 29 [1] [0] [bQ l c] [] [0]=some (.normal,[bQ l c],[]):=qh
def qwf(l:List aB)(c:Option Nat):cD 29 eH [0] [bQ l c] [] tR=some (.normal,[bQ l c,.ae],[]):=qh
def qwg(l:List aB)(c:Option Nat)(v n:Nat)(h:qa):cD 29 mQ tR [bQ l c,.own 0 v 0 n none] h ss=some (.normal,G9 l c v n 0,h):=qh
def qwh(v n:Nat)(h:qa):cD 29 [2,2,2] [3] [.own 0 v 0 n none] h [2]=some (.ret,[.own 0 v 0 n none],h):=qh
def sv(l:List aB):Nat->Nat
 |0=>0
 |i+1=>if (l.getD i aO).l.length=0 then sv l i else sv l i+1
def lU(l:List aB)(i:Nat):List aw:=bH (l.take i)
def qma(l:List aB){i:Nat}(h:i<l.length):lU l (i+1)=lU l i++(l.getD i aO).l:=by
 unfold lU bH;rw[List.take_succ,wi h,vh,xJ,wg,wi h];simp
def YU{α:Type}(a b:List α)(d:α)(j:Nat):(a++b).getD j d=if j<a.length then a.getD j d else b.getD (j-a.length) d:=by
 rw[wg,wg,wg];grind
def Wg(l:List aB)(c:Option Nat)(h1:l.length<=1000000)(h2:(bH l).length<=1000000):TO 29 [bQ l c] (.new (bB (bH l))):=by
 have u:∀i,(lU l i).length<=(bH l).length:=λi=>by
  have:bH l=lU l i++bH (l.drop i):=by
   unfold lU bH;rw[←xJ,←vh,xE]
  rw[this,wC];omega
 have D:=aP [] (qwe l c);have C:=Pz.post (aP [] (qwf l c)) (v2:=[bQ l c,.own 0 0 0 0 none]) (h2:=[Bw 0 []]) λnt =>
  .gh [Bw 0 []] (by simp[Bw]) (.rg (.cons (.inl (.own (k:=0) (b:=Bw 0 []) (wc _) rfl rfl)) .nil)) (.refl _)
 have B:=aP [] (qwg l c 0 0 [Bw 0 []]);have o:=Pz.count (P:=au) (G:=G16) (A:=ar) (f:=29) (h0:=[]) (p:=hV) (l:=ss) (e:=.exit 0) qh (λi=>G9 l c (sv l i) (lU l i).length i) (λi=>[Bw (sv l i) (lU l i)]) (n:=l.length) aq (λi a=>by
  have q:=Wf l c (sv l i) (lU l i).length i (λj=>(lU l i).getD j bA);have e:=qma l a;have M:=u (i+1);have N:=u i;have L:(lU l (i+1)).length=(lU l i).length+(l.getD i aO).l.length:=by rw[e,wC]
  rw[dH ab] at q;by_cases z:(l.getD i aO).l.length=0
  .have H:lU l (i+1)=lU l i:=by rw[e,List.length_eq_zero_iff.1 z,vu]
   rw[show sv l (i+1)=sv l i from wl z,H];exact aP _ (q.trans (qj rx (qj (gV a) (qj aq (qj (qR ab) (qj rx rfl))))))
  .rw[show sv l (i+1)=sv l i+1 from wh z];have I:0<(l.getD i ⟨0,[]⟩).l.length:=Nat.pos_of_ne_zero z;refine Pz.post (aP _ (q.trans (qj rx (qj (gV a) (qj aq (qj (qR ab) (qB rx (qj (qR rx) (qB (by rw[ZE (by omega)];simp) rfl))))))))) (v2:=G9 l c (sv l i+1) (lU l (i+1)).length (i+1)) (h2:=[Bw (sv l i+1) (lU l (i+1))]) λnt=>?_;rw[e,wC];refine .same (.cons ⟨rfl,rfl,by show(lU l i++(l.getD i aO).l).length=_;rw[wC];rfl,id,λj s=>?_⟩ .nil);have s:j<(lU l i).length+(l.getD i aO).l.length:=s;show((lU l i++(l.getD i aO).l).getD j bA).c=bif j.blt (lU l i).length then((lU l i).getD (0+j) bA).c else((l.getD i aO).l.getD (j-(lU l i).length) bA).c;rw[YU,wo];by_cases d:j<(lU l i).length
   .rw[wl d,qN d];rfl
   .rw[wh d,QZ ab];rfl)
  (Pz.only (aP _ ((Wf l c (sv l l.length) (lU l l.length).length l.length (λj=>(lU l l.length).getD j bA)).trans (qB aq rfl))) (l2:=[3]) rfl)
 have E:lU l l.length=bH l:=by unfold lU;rw[xh]
 rw[E] at o;have pe:=aP [] (qwh (sv l l.length) (bH l).length [Bw (sv l l.length) (bH l)]);have t:=Pz.told (A:=ar) qY Tryz.func29 qh qh (l:=[0]) rfl (ao D (ao C (ao (ao B (cO 0 o)) pe)))
  (r:=bif (true&&(sv l l.length==sv l l.length&&Nat.ble (0+(bH l).length) (bH l).length)) then .fresh true 2 ((bH l).length-0) (λj=>((bH l).getD (0+j) bA).c) (bH l).length none else .undef) rfl
 rw[wF,qR (show 0+(bH l).length<=(bH l).length by omega)] at t;have g:=t.iQ;simp only[wo] at g;exact g
def Cg:ap:=⟨0,5,6,λ_=>[.bool false,iI 0,iI 0,.bool false,.ae],false,false,none⟩
def Dh:ap:=⟨0,1,6,λ_=>[.ae],false,false,none⟩
def wzB(i j:Nat):ap:=⟨0,7,1,λe=>Kj (e==0) [.ae,.own i 0 0 6 (some 6),.own j 0 0 6 (some 6),.ae,.ae,.ae,uI 0] bE,false,false,none⟩
def Fs(y:Int)(n:Int)(k:Nat):t7:=[uI y,iI n,.ag bE,.ptr k 0 0 0]
def sV(i j k m:Nat):ap:=bif m==i then Cg else bif m==j then Dh else wzB i j
def oc(y n:Int)(i j k:Nat):t7×qa:=(Fs y n k,[sV i j k 0,sV i j k 1,sV i j k 2])
def Wl(y n:Int):List (t7×qa):=[oc y n 2 1 0,oc y n 2 1 0,oc y n 1 2 0,oc y n 2 0 1,oc y n 2 0 1,oc y n 2 0 1,oc y n 1 0 2,oc y n 1 0 2,oc y n 1 0 2,oc y n 1 0 2,oc y n 1 0 2,oc y n 0 2 1,oc y n 0 1 2,oc y n 0 1 2,oc y n 0 1 2]
def qsY(y n:Int):Dg au qt G16 (ar 17).aa (Ha au 17) (YV au 17 eH) mv (YV au 17 eH).size (Array.replicate (YV au 17 eH).size false) (qJ [0,1,4] [uI y,iI n,.ag bE] []) [] some=some (Wl y n):=qh
def L5(y i:Int)(H:qa)(_:t7)(_:qa):Option (T×qa):=some (.agg [uI y,iI i],H)
def x9(i:Nat):Wx:=⟨.own 9 i 0 i none,.ae,.ae,.ae,0⟩
def bZ(v n:Nat)(g:Nat->t7):ap:=.mk v 2 n g false false none
def L6{R:Type}:Nat->Bool->Option R->Option R
 |0,_,x=>x
 |n+1,c,x=>bif c then L6 n c x else none
def Wm{R:Type}{c:Bool}(h:c=true)(x:Option R):∀n,L6 n c x=x
 |0=>rfl
 |n+1=>by
  show(bif c then L6 n c x else none)=x;rw[h,wp,←h];exact Wm h x n
def tG(y:Int)(n i:Nat):t7:=[uI y,iI (ofNat n),.ag bE,p0,iI (ofNat i)]
inductive rV:Nat->Prop|a:rV 0|b:rV 1|c:rV 2|d:rV 3|e:rV 4|f:rV 5|g:rV 6|h:rV 7|i:rV 8|j:rV 9|k:rV 10|l:rV 11|m:rV 12|n:rV 13|o:rV 14|p:rV 15
def Qb:∀{i:Nat},i<16->rV i|0,_=>.a|1,_=>.b|2,_=>.c|3,_=>.d|4,_=>.e|5,_=>.f|6,_=>.g|7,_=>.h|8,_=>.i|9,_=>.j|10,_=>.k|11,_=>.l|12,_=>.m|13,_=>.n|14,_=>.o|15,_=>.p|n+16,h=>absurd h ab
def wU(i:Nat):ap:=⟨0,7,1,λe=>Kj (e==0) [.own 9 (i+1) 0 (i+1) none,.own 1 0 0 6 none,.own 2 0 0 6 none,.ae,.ae,.ae,uI 0] [.own 9 i 0 i none,.own 1 0 0 6 none,.own 2 0 0 6 none,.ae,.ae,.ae,uI 0],false,false,none⟩
def slG(i:Nat)(y:Int)(g:Nat->t7):ap:=bZ (i+1) (i+1) λj=>bif j.blt i then g (0+j) else [[uI 0,.view 2 1 (λj=>[[uI y,iI (ofNat i)]].getD j []) (some 1)]].getD (j-i) []
set_option maxHeartbeats 0 in
def qwi(w)(q d:Ys)(v a:Nat->Nat)(g:Nat->t7)(y:Int)(n i:Nat)(e:i<16):Dg au (KG (qt.bW 48 (kH w (L5 y (ofNat i) (d.hw (x9 i) a [bZ i i g]))))) G16 (ar 17).aa (Ha au 17) (YV au 17 m4) k6 (YV au 17 m4).size (Array.replicate (YV au 17 m4).size false) (qJ k6 (tG y n i) (q.hw (x9 i) v [bZ i i g])) [] some =
 L6 10 (qx (w [p0,iI (i64.wrap y),uI 0,.ae] (q.hw (x9 i) v [bZ i i g]) (.agg [uI y,iI (ofNat i)]) (d.hw (x9 i) a [bZ i i g]))) (some (List.replicate 28 (tG y n i,wU i::(d.hw (x9 i) a [slG i y g]).tail))):=by
 cases Qb e
 all_goals kernel_rfl
section
variable (y n:Int) (K:Nat) (m i:Nat) (h H:qa) (q:Ys) (v:Nat->Nat) (x:Wx) (rest:qa) (Y:Nat->bC) (ln:Nat->Nat) (L:Nat->Nat->cQ)
def qwj:cD 17 [1] ir [uI y,iI n] [] [0,1,4]=some (.normal,[uI y,iI n,.ag bE],[]):=qh
def qwk:cD 17 lD mv [yI K,iI n,.ag bE,p0] (HW x Y ln v L rest) mv =
 (bif decide (0<=yJ K)&&decide (yJ K<6) then bif (0+(yJ K).toNat).blt 6&&true&&true&&true then some (.normal,[yI K,iI n,.ag bE,p0],sU x (yG Y (0+(yJ K).toNat) [.bool true,iI 179,iI 0,.bool true,.ae]) (tB ln v) ln v L rest) else none else none):=qh
def qwl:cD 17 s5 mv [yI K,iI (ofNat m),.ag bE,p0] h k6=some (.normal,tG (ofNat K+1) m 0,h):=qh
def Wn:cD 17 [1,1,0,0,2,1,2,2,2] k6 (tG y m i) h s8=(bif decide (ofNat i<ofNat m) then some (.normal,tG y m i++[.bool true],h) else some (.normal,tG y m i++[.bool false],h)):=qh
def qs0:cD 17 [3,2,1,0,0,2,1,2,2,2] s8 (tG y m i++[.bool true]) h k6=some (.normal,tG y m i,h):=qh
def qs1:cD 17 [4,2,1,0,0,2,1,2,2,2] s8 (tG y m i++[.bool false]) h tk=some (.exit 0,[.ag bE,p0],h):=qh
def qwm:cD 17 [2,2,0,0,2,1,2,2,2] k6 (tG y m i) h k6=some (.normal,[uI y,iI (ofNat m),.ag bE,p0,iI (i64.wrap (ofNat i+1))],h):=qh
def qwn(p)(z)(k a):cK (qt.add 29 (qH p (qvM (aX z k none)))) 17 k7 tk [.ag bE,p0] (HW ⟨.own 9 a 0 a none,.ae,.ae,.ae,0⟩ Y ln v L rest) tk =
 (bif qx (p [zr (HW ⟨.own 9 a 0 a none,.ae,.ae,.ae,0⟩ Y ln v L rest) (.own 9 a 0 a none)] (.new (aX z k none))) then some (.normal,[.ag bE,p0],.mk 0 7 1 (λe=>Kj (e==0) [.own 9 a 0 a none,.own 1 0 0 6 none,.own 2 0 0 6 none,.ae,aX z k none,.ae,uI 0] [.own 9 a 0 a none,.own 1 0 0 6 none,.own 2 0 0 6 none,.ae,.ae,.ae,uI 0]) false false none::(HW ⟨.own 9 a 0 a none,.ae,.ae,.ae,0⟩ Y ln v L rest).tail) else none):=qh
def qwo:cD 17 sf tk [.ag bE,p0] (HW x Y ln v L rest) [4]=some (.ret,[.ag [x.sl,.own 1 0 0 6 none,.own 2 0 0 6 none,x.cr,x.he,x.fa,uI x.d]],HW x Y ln v L rest):=qh
end
def nv(b:ap)(X:Nat->ap)(y t:ap)(R:Nat->ap)(r:qa):qa:=b::X 0::X 1::X 2::X 3::X 4::X 5::X 6::X 7::X 8::X 9::X 10::X 11::X 12::X 13::X 14::X 15::y::t::R 0::R 1::R 2::R 3::R 4::R 5::r
def bu(w:bJ):T:=.ag (w.cc none)
def oO(a y t:Nat)(cr he fa:T)(d:Int):T:=.ag [.own 0 a 0 a none,.own 17 y 0 y none,.own 18 t 0 t none,cr,he,fa,uI d]
def cq1(w:bJ):cD 22 [1] [0] [.agg (w.cc none)] [] eH =
( zN [bu w,.ag [.ae,.ae,.ae,.ae,.ae,.ae,uI 0]] []):=qh
def cq2(w:bJ):cD 22 eH eH [bu w,.ag bE] [] db =
( zN [bu w,.ag [.ae,.ae,.ae,.ae,.ae,.ae,uI 0],.ag [.ae,.ae,.ae,.ae,.ae,.ae,uI w.d]] []):=qh
def cq3(a b c:T)(H):cD 22 mQ db [a,b,c] H eI =
( zN [a,b,c,iI 0] H):=qh
def cq4(w:bJ)(b c:T)(i:Nat)(H):cD 22 k4 eI [bu w,b,c,iI (ofNat i)] H eI =
( bif decide (ofNat i<ofNat w.sl.length) then zN [bu w,b,c,iI (.ofNat i)] H else
 zX 0 [bu w,b,c,iI (.ofNat i)] H):=qh
def qwp(w:bJ)(b c:T)(i:Nat)(H):cD 22 k4 eI [bu w,b,c,iI (ofNat i)] H db =
( bif decide (ofNat i<ofNat w.sl.length) then zN [bu w,b,c] H else
 zX 0 [bu w,b,c] H):=qh
def cq5(w:bJ)(i y t)(d)(g)(X R)(Y a):cK (KG qt) 22 [0,1,2,0,0,2,1,2,2] eI [bu w,.ag bE,oO i y t .ae .ae .ae d,iI (ofNat i)] (nv (bZ i i g) X Y a R []) eI =
( gD (decide (0<=ofNat i)&&decide (ofNat i<ofNat w.sl.length))<|gD (decide (0<=ofNat i)&&decide (ofNat i<ofNat w.sl.length))<|bif (w.sl.getD i (aB.mk (0:Int) [])).l.length==(0:Nat) then gD (i==i&&true)<|gD (((0:Nat)+i).ble i)<|gD (((i+(1:Nat))*(33:Nat)).ble 70368744177664)<|bif ((0:Nat)+i+(1:Nat)).ble i then zN [bu w,.ag [.ae,.ae,.ae,.ae,.ae,.ae,uI 0],.ag [.own 0 i 0 (i+1)
 none,.own 17 y 0 y
 none,.own 18 t 0 t
 none,.ae,.ae,.ae,uI d],iI (.ofNat i)] [bZ i i λj=>bif ((0:Nat)+i).ble j&&j.blt (0+i+1) then [[uI (w.sl.getD i (aB.mk (0:Int) [])).b,T.view 2 0 (λj=>[]) (some 0)]].getD (j-(0+i)) []
 else g j,X (0:Nat),X (1:Nat),X (2:Nat),X (3:Nat),X (4:Nat),X (5:Nat),X (6:Nat),X (7:Nat),X (8:Nat),X (9:Nat),X (10:Nat),X (11:Nat),X (12:Nat),X (13:Nat),X (14:Nat),X (15:Nat),Y,a,R (0:Nat),R (1:Nat),R (2:Nat),R (3:Nat),R (4:Nat),R (5:Nat)] else
 zN [bu w,.ag [.ae,.ae,.ae,.ae,.ae,.ae,uI 0],.ag [.own 0 (i+1) (0:Nat) (i+1)
 none,.own 17 y 0 y
 none,.own 18 t 0 t
 none,.ae,.ae,.ae,uI d],iI (.ofNat i)] [bZ (i+1) (i+1) λj=>bif j.blt i then g (0+j)
 else [[uI (w.sl.getD i (aB.mk (0:Int) [])).b,T.view 2 0 (λj=>[]) (some 0)]].getD (j-i) [],X (0:Nat),X (1:Nat),X (2:Nat),X (3:Nat),X (4:Nat),X (5:Nat),X (6:Nat),X (7:Nat),X (8:Nat),X (9:Nat),X (10:Nat),X (11:Nat),X (12:Nat),X (13:Nat),X (14:Nat),X (15:Nat),Y,a,R (0:Nat),R (1:Nat),R (2:Nat),R (3:Nat),R (4:Nat),R (5:Nat)] else
 gD (Nat.blt 0 ((0:Nat)+(w.sl.getD i (aB.mk (0:Int) [])).l.length)&&(((0:Nat)+(w.sl.getD i (aB.mk (0:Int) [])).l.length)*(17:Nat)).ble 70368744177664)<|gD (i==i&&true)<|gD (((0:Nat)+i).ble i)<|gD (((i+(1:Nat))*(33:Nat)).ble 70368744177664)<|bif ((0:Nat)+i+(1:Nat)).ble i then zN [bu w,.ag [.ae,.ae,.ae,.ae,.ae,.ae,uI 0],.ag [.own 0 i 0 (i+1)
 none,.own 17 y 0 y
 none,.own 18 t 0 t
 none,.ae,.ae,.ae,uI d],iI (.ofNat i)] [bZ i i λj=>bif ((0:Nat)+i).ble j&&j.blt (0+i+1) then [[uI (w.sl.getD i (aB.mk (0:Int) [])).b,T.own 25 0 0 ((0:Nat)+(w.sl.getD i (aB.mk (0:Int) [])).l.length)
 none]].getD ((0:Nat)+(j-(0+i))) []
 else g j,X (0:Nat),X (1:Nat),X (2:Nat),X (3:Nat),X (4:Nat),X (5:Nat),X (6:Nat),X (7:Nat),X (8:Nat),X (9:Nat),X (10:Nat),X (11:Nat),X (12:Nat),X (13:Nat),X (14:Nat),X (15:Nat),Y,a,R (0:Nat),R (1:Nat),R (2:Nat),R (3:Nat),R (4:Nat),R (5:Nat),jB ((0:Nat)+(w.sl.getD i (aB.mk (0:Int) [])).l.length) (w.sl.getD i (aB.mk (0:Int) [])).l,.mk 0 2 1 (λj=>[[uI (w.sl.getD i (aB.mk (0:Int) [])).b,T.own 25 0 0 ((0:Nat)+(w.sl.getD i (aB.mk (0:Int) [])).l.length)
 none]].getD j []) false true
 none] else
 zN [bu w,.ag [.ae,.ae,.ae,.ae,.ae,.ae,uI 0],.ag [.own 0 (i+1) (0:Nat) (i+1)
 none,.own 17 y 0 y
 none,.own 18 t 0 t
 none,.ae,.ae,.ae,uI d],iI (.ofNat i)] [bZ (i+1) (i+1) λj=>bif j.blt i then g (0+j)
 else [[uI (w.sl.getD i (aB.mk (0:Int) [])).b,T.own 25 0 0 ((0:Nat)+(w.sl.getD i (aB.mk (0:Int) [])).l.length)
 none]].getD ((0:Nat)+(j-i)) [],X (0:Nat),X (1:Nat),X (2:Nat),X (3:Nat),X (4:Nat),X (5:Nat),X (6:Nat),X (7:Nat),X (8:Nat),X (9:Nat),X (10:Nat),X (11:Nat),X (12:Nat),X (13:Nat),X (14:Nat),X (15:Nat),Y,a,R (0:Nat),R (1:Nat),R (2:Nat),R (3:Nat),R (4:Nat),R (5:Nat),jB ((0:Nat)+(w.sl.getD i (aB.mk (0:Int) [])).l.length) (w.sl.getD i (aB.mk (0:Int) [])).l,.mk 0 2 1 (λj=>[[uI (w.sl.getD i (aB.mk (0:Int) [])).b,T.own 25 0 0 ((0:Nat)+(w.sl.getD i (aB.mk (0:Int) [])).l.length)
 none]].getD j []) false true
 none]):=qh
def cq6(a b c:T)(i)(H):cD 22 pF eI [a,b,c,iI (ofNat i)] H eI =
( zN [a,b,c,iI (i64.wrap (ofNat i+1))] H):=qh
def Ed(i:Nat):t8:=0::((List.range 16).map (λk=>bif k==i then 25 else 1+k)++[17,18,19,20,21,22,23,24])
def Bz:t8:=List.range 25
def qme(i j:Nat)(d:i<16)(a:j<16)(e:j≠i)(h:qa)(aj off len:Nat)(cap:Option Nat):qO (Ed i) h (.own (1+j) aj off len cap) = .own (1+j) aj off len cap:=by
 cases Qb d
 all_goals
  cases Qb a
  all_goals first|rfl|exact absurd rfl e
def Wo(j:Nat)(a:j<16)(h:qa)(aj off len:Nat)(cap:Option Nat):qO Bz h (.own (1+j) aj off len cap) = .own (1+j) aj off len cap:=by
 cases Qb a
 all_goals rfl
def qkX(i:Nat)(a:i<16)(h:qa)(aj off len:Nat)(cap:Option Nat):qO (Ed i) h (.own 25 aj off len cap) = .own (1+i) aj off len cap:=by
 cases Qb a
 all_goals rfl
section
variable (A:Nat->Bool) (w:bJ)
def bD(j:Nat):aB:=w.sl.getD j aO
def iU(j:Nat):t7:=[uI (bD w j).b,bif A j then .own (1+j) 0 0 (bD w j).l.length none else bB (bD w j).l]
def XA(i k:Nat):ap:=.mk 0 2 (bif A k&&Nat.blt k i then(bD w k).l.length else 0) (λe=>((bD w k).l.getD e bA).c) true false none
def YG:ap:=.mk 0 5 0 (λ_=>[]) true false none
def TG:ap:=.mk 0 1 0 (λ_=>[]) true false none
def RG(_:Nat):ap:=.mk 0 4 0 (λ_=>[]) true false none
def qwq(i:Nat):ap:=.mk 0 2 1 (λj=>[[uI (bD w i).b,.own 25 0 0 (0+(bD w i).l.length) none]].getD j []) false true none
def Hb(i j:Nat):t7:=bif j.blt i then iU A w (0+j) else [[uI (bD w i).b,.own 25 0 0 (0+(bD w i).l.length) none]].getD (0+(j-i)) []
def Ft(i:Nat):qa:=nv (bZ (i+1) (i+1) (Hb A w i)) (XA A w i) YG TG RG [jB (0+(bD w i).l.length) (bD w i).l,qwq w i]
def qs2{i:Nat}(a:i<16)(d:A i=true)(h:qa)(j:Nat)(e:j<i+1):iU A w j=(Hb A w i j).map (qO (Ed i) h):=by
 unfold Hb;by_cases c:j=i
 .subst c;rw[QZ (wc _),va,wq];show iU A w j=[qO (Ed j) h (uI (bD w j).b),qO (Ed j) h (.own 25 0 0 (0+(bD w j).l.length) none)];rw[qkX j a,wo];unfold iU;rw[d];rfl
 .rw[qN ab,wp,wo];unfold iU;cases A j with
  |false=>rfl
  |true =>
   show [uI (bD w j).b,T.own (1+j) 0 0 (bD w j).l.length none]=[uI (bD w j).b,qO (Ed i) h (.own (1+j) 0 0 (bD w j).l.length none)];rw[qme i j a ab c]
def qs3{i:Nat}(f:i<16)(a:A i=false)(j:Nat)(d:j<i+1):iU A w j=(Hb A w i j).map (qO Bz (Ft A w i)):=by
 unfold Hb;by_cases c:j=i
 .subst c;rw[QZ (wc _),va,wq];show iU A w j=[uI (bD w j).b,bif Nat.ble (0+(0+(bD w j).l.length)) (0+(bD w j).l.length) then T.view 2 (0+(bD w j).l.length) (λe=>((bD w j).l.getD (0+e) bA).c) none else .undef];rw[qR ab,wp,wo];unfold iU;rw[a,wq];simp only[wo];rfl
 .rw[qN ab,wp,wo];unfold iU;cases A j with
  |false=>rfl
  |true =>
   show [uI (bD w j).b,T.own (1+j) 0 0 (bD w j).l.length none]=[uI (bD w j).b,qO Bz (Ft A w i) (.own (1+j) 0 0 (bD w j).l.length none)];rw[Wo j ab]
def qs4{i k:Nat}(a:A k=true)(h:k<i):(XA A w i k).n=(bD w k).l.length:=by
 show(bif A k&&Nat.blt k i then(bD w k).l.length else 0)=_;rw[a,qN h];rfl
def Wp{i k:Nat}(a:A k=false):(XA A w i k).n=0:=by
 show(bif A k&&Nat.blt k i then(bD w k).l.length else 0)=_;rw[a];rfl
def Fu(d:Int)(i:Nat):t7:=[bu w,.ag bE,oO (i+1) 0 0 .ae .ae .ae d,iI (ofNat i)]
def qs5{aa:t8}{nt:Nat}{l:t8}(d:Int){i:Nat}(a:i<16)(e:A i=true):ak G16 aa nt l 0 (Fu w d i) (Ft A w i) (Fu w d i) (nv (bZ (i+1) (i+1) (iU A w)) (XA A w (i+1)) YG TG RG []):=by
 have cl:=qs2 A w a e (Ft A w i);have hn:(XA A w (i+1) i).n=0+(bD w i).l.length:=by rw[qs4 A w e ab,wo]
 cases Qb a
 all_goals
  refine ak.cu (Ed _) rfl rfl rfl (.cons ⟨rfl,rfl,rfl,λh=>h,cl⟩ ?_ rfl)
  repeat (first|exact .nil|refine .cons ⟨rfl,rfl,rfl,λh=>h,λ_ _=>rfl⟩ ?_ rfl|refine .cons ⟨rfl,rfl,hn,λh=>h,λ_ _=>rfl⟩ ?_ rfl)
end
section
variable (A:Nat->Bool) (w:bJ)
def qs6{aa:t8}{nt:Nat}{l:t8}(d:Int){i:Nat}(e:i<16)(a:A i=false):ak G16 aa nt l 0 (Fu w d i) (Ft A w i) (Fu w d i) (nv (bZ (i+1) (i+1) (iU A w)) (XA A w (i+1)) YG TG RG []):=by
 have cl:=qs3 A w e a;have hn:(XA A w (i+1) i).n=(XA A w i i).n:=by rw[Wp A w a,Wp A w a]
 cases Qb e
 all_goals
  refine ak.cu Bz rfl rfl rfl (.cons ⟨rfl,rfl,rfl,λh=>h,cl⟩ ?_ rfl)
  repeat (first|exact .nil|refine .cons ⟨rfl,rfl,rfl,λh=>h,λ_ _=>rfl⟩ ?_ rfl|refine .cons ⟨rfl,rfl,hn,λh=>h,λ_ _=>rfl⟩ ?_ rfl)
def qwr{aa:t8}{nt:Nat}{l:t8}(d:Int){i:Nat}(a:i<16):ak G16 aa nt l 0 (Fu w d i) (Ft A w i) (Fu w d i) (nv (bZ (i+1) (i+1) (iU A w)) (XA A w (i+1)) YG TG RG []):=by
 cases e:A i with
 |true=>exact qs5 A w d a e
 |false=>exact qs6 A w d a e
def L7(d:Int)(i:Nat):t7:=[bu w,.ag bE,oO i 0 0 .ae .ae .ae d,iI (ofNat i)]
def uA(i:Nat):qa:=nv (bZ i i (iU A w)) (XA A w i) YG TG RG []
def qmg(d:Int)(i:Nat)(o:i<w.sl.length)(x:w.sl.length<=16)(u:∀j,j<w.sl.length->1<=(bD w j).l.length/\(bD w j).l.length<=1000) :
 Pq 22 [] c7 eI (L7 w d i) (uA A w i) .normal eI (L7 w d (i+1)) (uA A w (i+1)):=by
 have run:=λ{p l f h k g s e} (q:cD 22 p l f h k=some (e,g,s))=>aP [] q;have r:OO (KG qt):=qA qm (λ_ _ _ _ h=>(by cases h));obtain⟨n1,n2⟩:=u i o;have a:(decide ((0:Int)<=ofNat i)&&decide (ofNat i<ofNat w.sl.length))=true:=by grind
 have q:=(cq5 w i 0 0 d (iU A w) (XA A w i) RG YG TG).trans (qj a (qj a (qB (by
  show ¬((bD w i).l.length==0)=true;rw[vm];omega) (qj (by
  show(Nat.blt 0 (0+(bD w i).l.length)&&Nat.ble ((0+(bD w i).l.length)*17) 70368744177664)=true;rw[qN ab,qR ab];rfl) (qj aq (qj (qR ab) (qj (qR ab) (qB (by rw[ZE ab];simp) rfl))))))))
 have q6:=cq6 (bu w) (.ag bE) (oO (i+1) 0 0 .ae .ae .ae d) i (uA A w (i+1));rw[dH ab] at q6;exact ao (run ((cq4 w (.ag bE) (oO i 0 0 .ae .ae .ae d) i (uA A w i)).trans (qj (wt bP) rfl)))
  (ao (cO 1 (Pz.post (bR r [] q) λnt=>qwr A w d ab)) (run q6))
def qmh(g:w.sl.length<=16)(s:∀j,j<w.sl.length->1<=(bD w j).l.length/\(bD w j).l.length<=1000) :
 Pq 22 [] tV eI (L7 w w.d 0) (uA A w 0) .normal db [bu w,.ag bE,oO w.sl.length 0 0 .ae .ae .ae w.d] (uA A w w.sl.length):=by
 have run:=λ{p l a h k f r e} (q:cD 22 p l a h k=some (e,f,r))=>aP [] q;exact cO 0 (Pz.count qh (λi=>L7 w w.d i) (λi=>uA A w i) (n:=w.sl.length) aq (λi o=>qmg A w w.d i o g s)
  (ed (run ((qwp w (.ag bE) (oO w.sl.length 0 0 .ae .ae .ae w.d) w.sl.length (uA A w w.sl.length)).trans (qB aq rfl)))))
end
def Yf(k:Nat)(Y:Nat->bC):ap:=.mk k 5 k (λe=>(Y e).c) false false none
def cr1(a b c:T)(H):cD 22 s5 db [a,b,c] H fx =
( zN [a,b,c,iI 0] H):=qh
def cr2(w)(b c:T)(i)(H):cD 22 [1,0,0,2,1,2,2,2] fx [bu w,b,c,iI (ofNat i)] H fx =
( bif decide (ofNat i<6) then zN [bu w,b,c,iI (.ofNat i)] H else
 zX 2 [bu w,b,c,iI (.ofNat i)] H):=qh
def qws(w)(b c:T)(i)(H):cD 22 [1,0,0,2,1,2,2,2] fx [bu w,b,c,iI (ofNat i)] H db =
( bif decide (ofNat i<6) then zN [bu w,b,c] H else
 zX 2 [bu w,b,c] H):=qh
def cr3(w)(b c:T)(i)(H):cD 22 [1,0,1,2,0,0,2,1,2,2,2] fx [bu w,b,c,iI (ofNat i)] H lr =
( gD (decide (0<=ofNat i)&&decide (ofNat i<6))<|zN [bu w,b,c,iI (.ofNat i),.ag [.bool (w.q.Y i).i,iI (w.q.Y i).pl,iI (w.q.Y i).ct,.bool (w.q.Y i).w,lR (w.q.Y i).pe]] H):=qh
def cr4(w)(y:bC)(a k t i)(d)(S e f)(X R):cK (KG qt) 22 r6 lr [bu w,.ag bE,oO a k t .ae .ae .ae d,iI (ofNat i),.ag y.c] (nv S X e f R []) lr =
( bif y.np==(0:Nat) then zN [bu w,.ag [.ae,.ae,.ae,.ae,.ae,.ae,uI 0],.ag [.own 0 a 0 a
 none,.own 17 k 0 k
 none,.own 18 t 0 t
 none,.ae,.ae,.ae,uI d],iI (.ofNat i),.ag [.bool y.i,iI y.pl,iI y.ct,.bool y.w,.view 4 0 (λj=>[]) (some 0)]] [S,X (0:Nat),X (1:Nat),X (2:Nat),X (3:Nat),X (4:Nat),X (5:Nat),X (6:Nat),X (7:Nat),X (8:Nat),X (9:Nat),X (10:Nat),X (11:Nat),X (12:Nat),X (13:Nat),X (14:Nat),X (15:Nat),e,f,R (0:Nat),R (1:Nat),R (2:Nat),R (3:Nat),R (4:Nat),R (5:Nat)] else
 gD (Nat.blt 0 (0+y.np)&&(((0:Nat)+y.np)*(25:Nat)).ble 70368744177664)<|zN [bu w,.ag [.ae,.ae,.ae,.ae,.ae,.ae,uI 0],.ag [.own 0 a 0 a
 none,.own 17 k 0 k
 none,.own 18 t 0 t
 none,.ae,.ae,.ae,uI d],iI (.ofNat i),.ag [.bool y.i,iI y.pl,iI y.ct,.bool y.w,.own 25 0 0 (0+y.np)
 none]] [S,X (0:Nat),X (1:Nat),X (2:Nat),X (3:Nat),X (4:Nat),X (5:Nat),X (6:Nat),X (7:Nat),X (8:Nat),X (9:Nat),X (10:Nat),X (11:Nat),X (12:Nat),X (13:Nat),X (14:Nat),X (15:Nat),e,f,R (0:Nat),R (1:Nat),R (2:Nat),R (3:Nat),R (4:Nat),R (5:Nat),Fo (0+y.np) y.pe]):=qh
def cr5(w)(y:bC)(a k t i)(d)(S e)(Y)(X R):cK (KG qt) 22 r8 lr [bu w,.ag bE,oO a k t .ae .ae .ae d,iI (ofNat i),.ag y.c] (nv S X (Yf k Y) e R []) fx =
( gD (k==k&&true)<|gD (((0:Nat)+k).ble k)<|gD (((k+(1:Nat))*(57:Nat)).ble 70368744177664)<|bif ((0:Nat)+k+(1:Nat)).ble k then zN [bu w,.ag [.ae,.ae,.ae,.ae,.ae,.ae,uI 0],.ag [.own 0 a 0 a
 none,.own 17 k 0 (k+1)
 none,.own 18 t 0 t
 none,.ae,.ae,.ae,uI d],iI (.ofNat i)] [S,X (0:Nat),X (1:Nat),X (2:Nat),X (3:Nat),X (4:Nat),X (5:Nat),X (6:Nat),X (7:Nat),X (8:Nat),X (9:Nat),X (10:Nat),X (11:Nat),X (12:Nat),X (13:Nat),X (14:Nat),X (15:Nat),.mk k 5 k (λj=>bif ((0:Nat)+k).ble j&&j.blt (0+k+1) then [y.c].getD (j-(0+k)) []
 else(Y j).c) false false
 none,e,R (0:Nat),R (1:Nat),R (2:Nat),R (3:Nat),R (4:Nat),R (5:Nat)] else
 zN [bu w,.ag [.ae,.ae,.ae,.ae,.ae,.ae,uI 0],.ag [.own 0 a 0 a
 none,.own 17 (k+1) (0:Nat) (k+1)
 none,.own 18 t 0 t
 none,.ae,.ae,.ae,uI d],iI (.ofNat i)] [S,X (0:Nat),X (1:Nat),X (2:Nat),X (3:Nat),X (4:Nat),X (5:Nat),X (6:Nat),X (7:Nat),X (8:Nat),X (9:Nat),X (10:Nat),X (11:Nat),X (12:Nat),X (13:Nat),X (14:Nat),X (15:Nat),.mk (k+1) (5:Nat) (k+1) (λj=>bif j.blt k then(Y ((0:Nat)+j)).c
 else [y.c].getD (j-k) []) false false
 none,e,R (0:Nat),R (1:Nat),R (2:Nat),R (3:Nat),R (4:Nat),R (5:Nat)]):=qh
def cr6(a b c:T)(i)(H):cD 22 [2,2,0,0,2,1,2,2,2] fx [a,b,c,iI (ofNat i)] H fx =
( zN [a,b,c,iI (i64.wrap (ofNat i+1))] H):=qh
def cr7(a b c:T)(H):cD 22 mP db [a,b,c] H lM =
( zN [a,b,c,iI 0] H):=qh
def cr8(w)(b c:T)(i)(H):cD 22 er lM [bu w,b,c,iI (ofNat i)] H lM =
( bif decide (ofNat i<6) then zN [bu w,b,c,iI (.ofNat i)] H else
 zX 4 [bu w,b,c,iI (.ofNat i)] H):=qh
def qwt(w)(b c:T)(i)(H):cD 22 er lM [bu w,b,c,iI (ofNat i)] H db =
( bif decide (ofNat i<6) then zN [bu w,b,c] H else
 zX 4 [bu w,b,c] H):=qh
def cra(a b c:T)(i)(H):cD 22 kn lM [a,b,c,iI (ofNat i)] H lM =
( zN [a,b,c,iI (i64.wrap (ofNat i+1))] H):=qh
def jG{l m:t7}(h:eX l m):nQ (.ag l) (.ag m):=.inr (.inl ⟨l,m,rfl,rfl,h⟩)
section
variable (A:Nat->Bool) (w:bJ)
def YF(e:Nat):bC:=(w.q.Y e).y
def PP:ap:=.mk 0 1 0 (λ_=>[]) false false none
def re(k:Nat)(r:qa):qa:=nv (bZ w.sl.length w.sl.length (iU A w)) (XA A w w.sl.length) (Yf k (YF w)) PP RG r
def qkZ{aa:t8}{nt k:Nat}{l:t8}{vs:t7}:ak G16 aa nt l k vs (uA A w w.sl.length) vs (re A w 0 []):=by
 refine .same (.cons ⟨rfl,rfl,rfl,λh=>h,λ_ _=>rfl⟩ ?_ rfl)
 repeat (first|exact .nil|refine .cons ⟨rfl,rfl,rfl,λh=>h,λ_ _=>rfl⟩ ?_ rfl|refine .cons ⟨rfl,rfl,rfl,(λh=>by cases h),λj a=>absurd a (vy j)⟩ ?_ rfl)
def Wq(h:qa)(j:Nat)(a:j<16):iU A w j=(iU A w j).map (qO Bz h):=by
 unfold iU;cases A j with
 |false=>rfl
 |true =>
  show [uI (bD w j).b,T.own (1+j) 0 0 (bD w j).l.length none]=[uI (bD w j).b,qO Bz h (.own (1+j) 0 0 (bD w j).l.length none)];rw[Wo j a]
def o6(k:Nat)(d:Int):T:=oO w.sl.length k 0 .ae .ae .ae d
def qmi{aa:t8}{nt:Nat}{l:t8}(f:w.sl.length<=16)(k i:Nat)(y:bC):ak G16 aa nt l 0 [bu w,.ag bE,o6 w k w.d,iI (ofNat i),.ag [.bool y.i,iI y.pl,iI y.ct,.bool y.w,.own 25 0 0 (0+y.np) none]] (re A w k [Fo (0+y.np) y.pe])
 [bu w,.ag bE,o6 w k w.d,iI (ofNat i),.ag y.c] (re A w k []):=by
 refine ak.cu Bz rfl ?_ rfl (.cons ⟨rfl,rfl,rfl,λh=>h,λj a=>Wq A w _ j (by have:j<w.sl.length:=a;omega)⟩ ?_ rfl)
 .show [bu w,.ag bE,o6 w k w.d,iI (ofNat i),.ag [.bool y.i,iI y.pl,iI y.ct,.bool y.w,bif Nat.ble (0+(0+y.np)) (0+y.np) then T.view 4 (0+y.np) (λe=>(y.pe (0+e)).c) none else .undef]]=_;rw[qR ab,wp,wo];simp only[wo];rfl
 .repeat (first|exact .nil|refine .cons ⟨rfl,rfl,rfl,λh=>h,λ_ _=>rfl⟩ ?_ rfl)
def qiM(x:w.sl.length<=16)(hp:∀e,(w.q.Y e).pe.length<=1000000)(k:Nat)(H:k<6) :
 Pq 22 [] mf fx [bu w,.ag bE,o6 w k w.d,iI (ofNat k)] (re A w k []) .normal fx [bu w,.ag bE,o6 w (k+1) w.d,iI (ofNat (k+1))] (re A w (k+1) []):=by
 have run:=λ{p l g h B i D e} (q:cD 22 p l g h B=some (e,i,D))=>aP [] q;have a:OO (KG qt):=qA qm (λ_ _ _ _ h=>(by cases h));have u:=run ((cr2 w (.ag bE) (o6 w k w.d) k (re A w k [])).trans (qj (wt bP) rfl));have s:=run ((cr3 w (.ag bE) (o6 w k w.d) k (re A w k [])).trans (qj rx rfl));have r:Pq 22 [] r6 lr [bu w,.ag bE,o6 w k w.d,iI (ofNat k),.ag (YF w k).c] (re A w k []) .normal lr [bu w,.ag bE,o6 w k w.d,iI (ofNat k),.ag (YF w k).c] (re A w k []):=by
  have q:=cr4 w (YF w k) w.sl.length k 0 k w.d (bZ w.sl.length w.sl.length (iU A w)) (Yf k (YF w)) PP (XA A w w.sl.length) RG;have E:(YF w k).np<=1000000:=hp k;by_cases z:(YF w k).np=0
  ·refine Pz.post (bR a [] (q.trans (qj rx rfl))) λnt=>.sl (.rg (.rg (.rg (.rg (.cons (jG (.rg (.rg (.rg (.rg (.cons (by
    show bU (.view 4 0 (λj=>[]) (some 0)) (bY (YF w k).pe (YF w k).np none);rw[z];exact .view (.inr rfl) λj f=>absurd f (vy j)) .nil)))))) .nil))))) (.refl _)
  .exact Pz.post (bR a [] (q.trans (qB rx (qj (by rw[qN ab,qR ab];rfl) rfl)))) λnt=>qmi A w x k k (YF w k)
 have o:Pq 22 [] r8 lr [bu w,.ag bE,o6 w k w.d,iI (ofNat k),.ag (YF w k).c] (re A w k []) .normal fx [bu w,.ag bE,o6 w (k+1) w.d,iI (ofNat k)] (re A w (k+1) []):=by
  have q:=(cr5 w (YF w k) w.sl.length k 0 k w.d (bZ w.sl.length w.sl.length (iU A w)) PP (YF w) (XA A w w.sl.length) RG).trans (qj aq (qj (qR ab) (qj (qR ab) (qB (by rw[ZE ab];simp) rfl))));have C:∀j,j<k+1->(YF w j).c=bif j.blt k then(YF w (0+j)).c else [(YF w k).c].getD (j-k) []:=λj f=>by
   by_cases c:j=k
   .grind
   .rw[qN ab,wo];rfl
  refine Pz.post (bR a [] q) λnt=>.same ?_
  repeat (first|exact .nil|refine .cons ⟨rfl,rfl,rfl,λh=>h,λ_ _=>rfl⟩ ?_ rfl|refine .cons ⟨rfl,rfl,rfl,λh=>h,C⟩ ?_ rfl)
 have q6:=cr6 (bu w) (.ag bE) (o6 w (k+1) w.d) k (re A w (k+1) []);rw[dH ab] at q6;exact ao u (ao (cO 3 (ao s (ao r o))) (run q6))
def qmj(g:w.sl.length<=16)(hp:∀e,(w.q.Y e).pe.length<=1000000):Pq 22 [] dd db [bu w,.ag bE,o6 w 0 w.d] (re A w 0 []) .normal db [bu w,.ag bE,o6 w 6 w.d] (re A w 6 []):=by
 have run:=λ{p l a h i f o e} (q:cD 22 p l a h i=some (e,f,o))=>aP [] q;exact ao (run (cr1 _ _ _ _)) (cO 2 (Pz.count qh (λk=>[bu w,.ag bE,o6 w k w.d,iI (ofNat k)]) (λk=>re A w k []) (n:=6) aq (λk j=>qiM A w g hp k j)
  (ed (run ((qws w (.ag bE) (o6 w 6 w.d) 6 (re A w 6 [])).trans (qB aq rfl))))))
end
def ct1(w)(a k t i)(d)(S f)(e)(X R):cD 22 sI lM [bu w,.ag bE,oO a k t .ae .ae .ae d,iI (ofNat i)] (nv S X f (.mk t 1 t e false false none) R []) lM =
( gD (decide (0<=ofNat i)&&decide (ofNat i<6))<|bif (w.q.tb i).length==(0:Nat) then gD (t==t&&true)<|gD (((0:Nat)+t).ble t)<|gD (((t+(1:Nat))*(25:Nat)).ble 70368744177664)<|bif ((0:Nat)+t+(1:Nat)).ble t then zN [bu w,.ag [.ae,.ae,.ae,.ae,.ae,.ae,uI 0],.ag [.own 0 a 0 a
 none,.own 17 k 0 k
 none,.own 18 t 0 (t+1)
 none,.ae,.ae,.ae,uI d],iI (.ofNat i)] [S,X (0:Nat),X (1:Nat),X (2:Nat),X (3:Nat),X (4:Nat),X (5:Nat),X (6:Nat),X (7:Nat),X (8:Nat),X (9:Nat),X (10:Nat),X (11:Nat),X (12:Nat),X (13:Nat),X (14:Nat),X (15:Nat),f,.mk t 1 t (λj=>bif ((0:Nat)+t).ble j&&j.blt (0+t+1) then [[T.own 25 0 0 0 (some 0)]].getD ((0:Nat)+(j-(0+t))) []
 else e j) false false
 none,R (0:Nat),R (1:Nat),R (2:Nat),R (3:Nat),R (4:Nat),R (5:Nat),.mk 0 4 0 (λj=>[]) true true
 none,.mk 0 1 1 (λj=>[[T.own 25 0 0 0 (some 0)]].getD j []) false true
 none] else
 zN [bu w,.ag [.ae,.ae,.ae,.ae,.ae,.ae,uI 0],.ag [.own 0 a 0 a
 none,.own 17 k 0 k
 none,.own 18 (t+1) (0:Nat) (t+1)
 none,.ae,.ae,.ae,uI d],iI (.ofNat i)] [S,X (0:Nat),X (1:Nat),X (2:Nat),X (3:Nat),X (4:Nat),X (5:Nat),X (6:Nat),X (7:Nat),X (8:Nat),X (9:Nat),X (10:Nat),X (11:Nat),X (12:Nat),X (13:Nat),X (14:Nat),X (15:Nat),f,.mk (t+1) (1:Nat) (t+1) (λj=>bif j.blt t then e (0+j)
 else [[T.own 25 0 0 0 (some 0)]].getD ((0:Nat)+(j-t)) []) false false
 none,R (0:Nat),R (1:Nat),R (2:Nat),R (3:Nat),R (4:Nat),R (5:Nat),.mk 0 4 0 (λj=>[]) true true
 none,.mk 0 1 1 (λj=>[[T.own 25 0 0 0 (some 0)]].getD j []) false true
 none] else
 gD ((((0:Nat)+(w.q.tb i).length)*(57:Nat)).ble 70368744177664)<|bif ((0:Nat)+(w.q.tb i).length).ble 0 then gD (((0:Nat)+(w.q.tb i).length).ble 0)<|gD (t==t&&true)<|gD (((0:Nat)+t).ble t)<|gD (((t+(1:Nat))*(25:Nat)).ble 70368744177664)<|bif ((0:Nat)+t+(1:Nat)).ble t then zN [bu w,.ag [.ae,.ae,.ae,.ae,.ae,.ae,uI 0],.ag [.own 0 a 0 a
 none,.own 17 k 0 k
 none,.own 18 t 0 (t+1)
 none,.ae,.ae,.ae,uI d],iI (.ofNat i)] [S,X (0:Nat),X (1:Nat),X (2:Nat),X (3:Nat),X (4:Nat),X (5:Nat),X (6:Nat),X (7:Nat),X (8:Nat),X (9:Nat),X (10:Nat),X (11:Nat),X (12:Nat),X (13:Nat),X (14:Nat),X (15:Nat),f,.mk t 1 t (λj=>bif ((0:Nat)+t).ble j&&j.blt (0+t+1) then [[T.own 25 0 0 ((0:Nat)+(w.q.tb i).length) (some 0)]].getD ((0:Nat)+(j-(0+t))) []
 else e j) false false
 none,R (0:Nat),R (1:Nat),R (2:Nat),R (3:Nat),R (4:Nat),R (5:Nat),.mk 0 4 0 (λj=>bif Nat.ble 0 j&&j.blt ((0:Nat)+(w.q.tb i).length) then [uI ((w.q.tb i).getD j (Lp.mk (0:Int) false [] [])).b,.bool ((w.q.tb i).getD j (Lp.mk (0:Int) false [] [])).w,bB ((w.q.tb i).getD j (Lp.mk (0:Int) false [] [])).th,lR ((w.q.tb i).getD j (Lp.mk (0:Int) false [] [])).ps]
 else []) ((w.q.tb i).length.ble 8&&(List.range (w.q.tt.ln (ofNat i).toNat)).all λj=>((λj=>(w.q.tt.L (ofNat i).toNat j).c) j).all qK) true
 none,.mk 0 1 1 (λj=>[[T.own 25 0 0 ((0:Nat)+(w.q.tb i).length) (some 0)]].getD j []) false true
 none] else
 zN [bu w,.ag [.ae,.ae,.ae,.ae,.ae,.ae,uI 0],.ag [.own 0 a 0 a
 none,.own 17 k 0 k
 none,.own 18 (t+1) (0:Nat) (t+1)
 none,.ae,.ae,.ae,uI d],iI (.ofNat i)] [S,X (0:Nat),X (1:Nat),X (2:Nat),X (3:Nat),X (4:Nat),X (5:Nat),X (6:Nat),X (7:Nat),X (8:Nat),X (9:Nat),X (10:Nat),X (11:Nat),X (12:Nat),X (13:Nat),X (14:Nat),X (15:Nat),f,.mk (t+1) (1:Nat) (t+1) (λj=>bif j.blt t then e (0+j)
 else [[T.own 25 0 0 ((0:Nat)+(w.q.tb i).length) (some 0)]].getD ((0:Nat)+(j-t)) []) false false
 none,R (0:Nat),R (1:Nat),R (2:Nat),R (3:Nat),R (4:Nat),R (5:Nat),.mk 0 4 0 (λj=>bif Nat.ble 0 j&&j.blt ((0:Nat)+(w.q.tb i).length) then [uI ((w.q.tb i).getD j (Lp.mk (0:Int) false [] [])).b,.bool ((w.q.tb i).getD j (Lp.mk (0:Int) false [] [])).w,bB ((w.q.tb i).getD j (Lp.mk (0:Int) false [] [])).th,lR ((w.q.tb i).getD j (Lp.mk (0:Int) false [] [])).ps]
 else []) ((w.q.tb i).length.ble 8&&(List.range (w.q.tt.ln (ofNat i).toNat)).all λj=>((λj=>(w.q.tt.L (ofNat i).toNat j).c) j).all qK) true
 none,.mk 0 1 1 (λj=>[[T.own 25 0 0 ((0:Nat)+(w.q.tb i).length) (some 0)]].getD j []) false true
 none] else
 gD (t==t&&true)<|gD (((0:Nat)+t).ble t)<|gD (((t+(1:Nat))*(25:Nat)).ble 70368744177664)<|bif ((0:Nat)+t+(1:Nat)).ble t then zN [bu w,.ag [.ae,.ae,.ae,.ae,.ae,.ae,uI 0],.ag [.own 0 a 0 a
 none,.own 17 k 0 k
 none,.own 18 t 0 (t+1)
 none,.ae,.ae,.ae,uI d],iI (.ofNat i)] [S,X (0:Nat),X (1:Nat),X (2:Nat),X (3:Nat),X (4:Nat),X (5:Nat),X (6:Nat),X (7:Nat),X (8:Nat),X (9:Nat),X (10:Nat),X (11:Nat),X (12:Nat),X (13:Nat),X (14:Nat),X (15:Nat),f,.mk t 1 t (λj=>bif ((0:Nat)+t).ble j&&j.blt (0+t+1) then [[T.own 26 0 0 ((0:Nat)+(w.q.tb i).length)
 none]].getD ((0:Nat)+(j-(0+t))) []
 else e j) false false
 none,R (0:Nat),R (1:Nat),R (2:Nat),R (3:Nat),R (4:Nat),R (5:Nat),.mk 0 4 0 (λj=>[]) true true
 none,.mk 0 4 ((0:Nat)+(w.q.tb i).length) (λj=>[uI ((w.q.tb i).getD j (Lp.mk (0:Int) false [] [])).b,.bool ((w.q.tb i).getD j (Lp.mk (0:Int) false [] [])).w,bB ((w.q.tb i).getD j (Lp.mk (0:Int) false [] [])).th,lR ((w.q.tb i).getD j (Lp.mk (0:Int) false [] [])).ps]) ((w.q.tb i).length.ble 8&&(List.range (w.q.tt.ln (ofNat i).toNat)).all λj=>((λj=>(w.q.tt.L (ofNat i).toNat j).c) j).all qK) false
 none,.mk 0 1 1 (λj=>[[T.own 26 0 0 ((0:Nat)+(w.q.tb i).length)
 none]].getD j []) false true
 none] else
 zN [bu w,.ag [.ae,.ae,.ae,.ae,.ae,.ae,uI 0],.ag [.own 0 a 0 a
 none,.own 17 k 0 k
 none,.own 18 (t+1) (0:Nat) (t+1)
 none,.ae,.ae,.ae,uI d],iI (.ofNat i)] [S,X (0:Nat),X (1:Nat),X (2:Nat),X (3:Nat),X (4:Nat),X (5:Nat),X (6:Nat),X (7:Nat),X (8:Nat),X (9:Nat),X (10:Nat),X (11:Nat),X (12:Nat),X (13:Nat),X (14:Nat),X (15:Nat),f,.mk (t+1) (1:Nat) (t+1) (λj=>bif j.blt t then e (0+j)
 else [[T.own 26 0 0 ((0:Nat)+(w.q.tb i).length)
 none]].getD ((0:Nat)+(j-t)) []) false false
 none,R (0:Nat),R (1:Nat),R (2:Nat),R (3:Nat),R (4:Nat),R (5:Nat),.mk 0 4 0 (λj=>[]) true true
 none,.mk 0 4 ((0:Nat)+(w.q.tb i).length) (λj=>[uI ((w.q.tb i).getD j (Lp.mk (0:Int) false [] [])).b,.bool ((w.q.tb i).getD j (Lp.mk (0:Int) false [] [])).w,bB ((w.q.tb i).getD j (Lp.mk (0:Int) false [] [])).th,lR ((w.q.tb i).getD j (Lp.mk (0:Int) false [] [])).ps]) ((w.q.tb i).length.ble 8&&(List.range (w.q.tt.ln (ofNat i).toNat)).all λj=>((λj=>(w.q.tt.L (ofNat i).toNat j).c) j).all qK) false
 none,.mk 0 1 1 (λj=>[[T.own 26 0 0 ((0:Nat)+(w.q.tb i).length)
 none]].getD j []) false true
 none]):=qh
def BA(i x:Nat):t8:=List.range 19++(List.range 6).map (λe=>bif e==i then x else 19+e)
def qom(i x j:Nat)(d:i<6)(a:j<6)(e:j≠i)(hx:x=25∨x=26)(h:qa)(aj off len:Nat)(cap:Option Nat):qO (BA i x) h (.own (19+j) aj off len cap) = .own (19+j) aj off len cap:=by
 obtain rfl|rfl:=hx
 all_goals
  cases ZH d
  all_goals
   cases ZH a
   all_goals first|rfl|exact absurd rfl e
def qon(i x:Nat)(a:i<6)(hx:x=25∨x=26)(h:qa)(aj off len:Nat)(cap:Option Nat):qO (BA i x) h (.own x aj off len cap) = .own (19+i) aj off len cap:=by
 obtain rfl|rfl:=hx
 all_goals
  cases ZH a
  all_goals rfl
def qmk(i x j:Nat)(d:i<6)(a:j<16)(hx:x=25∨x=26)(h:qa)(aj off len:Nat)(cap:Option Nat):qO (BA i x) h (.own (1+j) aj off len cap) = .own (1+j) aj off len cap:=by
 obtain rfl|rfl:=hx
 all_goals
  cases ZH d
  all_goals
   cases Qb a
   all_goals rfl
section
variable (A:Nat->Bool) (w:bJ)
def mK(j:Nat):t7:=[.own (19+j) 0 0 (w.q.tb j).length none]
def RS(i e:Nat):ap:=.mk 0 4 (bif e.blt i then(w.q.tb e).length else 0) (λj=>(((w.q.tb e).getD j dP).l).c) false false none
def cR(i:Nat)(g:Nat->t7):ap:=.mk i 1 i g false false none
def Ee(i:Nat)(g:Nat->t7)(R:Nat->ap)(r:qa):qa:=nv (bZ w.sl.length w.sl.length (iU A w)) (XA A w w.sl.length) (Yf 6 (YF w)) (cR i g) R r
def hT(i:Nat):qa:=Ee A w i (mK w) (RS w i) []
def qml{aa:t8}{nt k:Nat}{l:t8}{vs:t7}:ak G16 aa nt l k vs (re A w 6 []) vs (hT A w 0):=by
 refine .same (.cons ⟨rfl,rfl,rfl,λh=>h,λ_ _=>rfl⟩ ?_ rfl)
 repeat (first|exact .nil|refine .cons ⟨rfl,rfl,rfl,λh=>h,λ_ _=>rfl⟩ ?_ rfl|refine .cons ⟨rfl,rfl,rfl,(λh=>by cases h),λj a=>absurd a (vy j)⟩ ?_ rfl)
def o7(i:Nat):T:=oO w.sl.length 6 i .ae .ae .ae w.d
def Hd(i x len:Nat)(cap:Option Nat)(j:Nat):t7:=bif j.blt i then mK w (0+j) else [[T.own x 0 0 len cap]].getD (0+(j-i)) []
def Wr{i x:Nat}(d:i<6)(hx:x=25∨x=26)(h:qa)(j:Nat)(a:j<16):iU A w j=(iU A w j).map (qO (BA i x) h):=by
 unfold iU;cases A j with
 |false=>rfl
 |true =>
  show [uI (bD w j).b,T.own (1+j) 0 0 (bD w j).l.length none]=[uI (bD w j).b,qO (BA i x) h (.own (1+j) 0 0 (bD w j).l.length none)];rw[qmk i x j d a hx]
def Ws{i x len:Nat}{cap:Option Nat}(a:i<6)(hx:x=25∨x=26)(h:qa)(j:Nat)(d:j<i+1):(bif j==i then [T.own (19+j) 0 0 len cap] else mK w j)=(Hd w i x len cap j).map (qO (BA i x) h):=by
 unfold Hd;by_cases c:j=i
 .subst c;rw[wF,wp,QZ (wc _),va,wq];show _=[qO (BA j x) h (.own x 0 0 len cap)];rw[qon j x a hx]
 .rw[show(j==i)=false by grind,wq,qN ab,wp,wo];show mK w j=[qO (BA i x) h (.own (19+j) 0 0 (w.q.tb j).length none)];rw[qom i x j a ab c hx];rfl
def PR:ap:=.mk 0 4 0 (λ_=>[]) true true none
def qwu(i:Nat)(F:Bool):ap:=.mk 0 4 (0+(w.q.tb i).length) (λj=>(((w.q.tb i).getD j dP).l).c) F false none
def PS(x len:Nat)(cap:Option Nat):ap:=.mk 0 1 1 (λj=>[[T.own x 0 0 len cap]].getD j []) false true none
def vT(i k:Nat):t7:=[bu w,.ag bE,o7 w i,iI (ofNat k)]
def qqE{aa:t8}{nt:Nat}{l:t8}(o:w.sl.length<=16){i:Nat}(d:i<6)(F:Bool)(len:Nat)(e:(w.q.tb i).length=len)(z:0<len) :
 ak G16 aa nt l 0 (vT w (i+1) i) (Ee A w (i+1) (Hd w i 26 (0+len) none) (RS w i) [PR,qwu w i F,PS 26 (0+len) none]) (vT w (i+1) i) (hT A w (i+1)):=by
 have k:=λh=>Wr A w (i:=i) (x:=26) d (.inr rfl) h;have g:=λh=>Ws w (i:=i) (x:=26) (len:=0+len) (cap:=none) d (.inr rfl) h;have f:∀j,j<i+1->mK w j=(bif j==i then [T.own (19+j) 0 0 (0+len) none] else mK w j):=λj a=>by
  by_cases c:j=i
  .subst c;rw[wF,wp,wo,←e];rfl
  grind
 have hn:(RS w (i+1) i).n=0+(w.q.tb i).length:=by
  show(bif i.blt (i+1) then _ else 0)=_;rw[qN ab,wo];rfl
 cases ZH d
 all_goals
  cases F
  all_goals
   refine ak.cu (BA _ 26) rfl rfl rfl (.cons ⟨rfl,rfl,rfl,λh=>h,λj a=>k _ j (by have:j<w.sl.length:=a;omega)⟩ ?_ rfl)
   repeat (first|exact .nil|refine .cons ⟨rfl,rfl,rfl,λh=>h,λ_ _=>rfl⟩ ?_ rfl|refine .cons ⟨rfl,rfl,rfl,λh=>h,λj a=>(f j a).trans (g _ j a)⟩ ?_ rfl|refine .cons ⟨rfl,rfl,hn,(λh=>by first|exact h|cases h),λ_ _=>rfl⟩ ?_ rfl)
end
section
variable (A:Nat->Bool) (w:bJ)
def He(i j:Nat):t7:=bif j==i then [T.own (19+j) 0 0 0 (some 0)] else mK w j
def qqF{aa:t8}{nt:Nat}{l:t8}(s:w.sl.length<=16){i:Nat}(e:i<6)(k:(w.q.tb i).length=0) :
 ak G16 aa nt l 0 (vT w (i+1) i) (Ee A w (i+1) (Hd w i 25 0 (some 0)) (RS w i) [PR,PS 25 0 (some 0)]) (vT w (i+1) i) (hT A w (i+1)):=by
 have r:=λh=>Wr A w (i:=i) (x:=25) e (.inl rfl) h;have d:=λh=>Ws w (i:=i) (x:=25) (len:=0) (cap:=some 0) e (.inl rfl) h;have hn:(RS w (i+1) i).n=0:=by
  show(bif i.blt (i+1) then _ else 0)=_;rw[qN ab];exact k
 have s1:ak G16 aa nt l 0 (vT w (i+1) i) (Ee A w (i+1) (Hd w i 25 0 (some 0)) (RS w i) [PR,PS 25 0 (some 0)]) (vT w (i+1) i) (Ee A w (i+1) (He w i) (RS w (i+1)) []):=by
  cases ZH e
  all_goals
   refine ak.cu (BA _ 25) rfl rfl rfl (.cons ⟨rfl,rfl,rfl,λh=>h,λj a=>r _ j (by have:j<w.sl.length:=a;omega)⟩ ?_ rfl)
   repeat (first|exact .nil|refine .cons ⟨rfl,rfl,rfl,λh=>h,λ_ _=>rfl⟩ ?_ rfl|refine .cons ⟨rfl,rfl,rfl,λh=>h,λj a=>d _ j a⟩ ?_ rfl|refine .cons ⟨rfl,rfl,hn,(λh=>by cases h),λj a=>absurd a (vy j)⟩ ?_ rfl)
 refine .trans s1 (.sW ?_);refine dQ.one (p:=bZ w.sl.length w.sl.length (iU A w)::XA A w w.sl.length 0::XA A w w.sl.length 1::XA A w w.sl.length 2::XA A w w.sl.length 3::XA A w w.sl.length 4::XA A w w.sl.length 5::XA A w w.sl.length 6::XA A w w.sl.length 7::XA A w w.sl.length 8::XA A w w.sl.length 9::XA A w w.sl.length 10::XA A w w.sl.length 11::XA A w w.sl.length 12::XA A w w.sl.length 13::XA A w w.sl.length 14::XA A w w.sl.length 15::[Yf 6 (YF w)])
  (q:=RS w (i+1) 0::RS w (i+1) 1::RS w (i+1) 2::RS w (i+1) 3::RS w (i+1) 4::[RS w (i+1) 5]) (b:=cR (i+1) (He w i)) (b2:=cR (i+1) (mK w)) ⟨rfl,rfl,rfl,rfl⟩ rfl λj a=>?_
 have a:j<i+1:=a;show(mK w j).length=(He w i j).length/\∀(o:Nat) c d,(He w i j)[o]?=some c->(mK w j)[o]?=some d->rL _ c d;unfold He;by_cases c:j=i
 .subst c;rw[wF,wp];refine⟨rfl,λo c d g f=>?_⟩;cases o with
  |succ o=>grind
  |zero =>
   obtain rfl:=we g;obtain rfl:=we f;refine .inr ⟨19+j,0,0,0,0,RS w (j+1) j,rfl,by show T.own (19+j) 0 0 (w.q.tb j).length none=_;rw[k],?_,by rw[hn];omega⟩;cases ZH e
   all_goals rfl
 .rw[show(j==i)=false by grind,wq];exact⟨rfl,λo c d g f=>by rw[g] at f;obtain rfl:=we f;exact .refl _⟩
def qk0(a:w.sl.length<=16)(u:∀e,(w.q.tb e).length<=1000000)(i:Nat)(f:i<6) :
 Pq 22 [] ew lM (vT w i i) (hT A w i) .normal lM (vT w (i+1) (i+1)) (hT A w (i+1)):=by
 have run:=λ{p l j h s k x e} (q:cD 22 p l j h s=some (e,k,x))=>aP [] q;have r:=run ((cr8 w (.ag bE) (o7 w i) i (hT A w i)).trans (qj (wt bP) rfl));have g:(decide ((0:Int)<=ofNat i)&&decide (ofNat i<(6:Int)))=true:=by grind
 have q:=ct1 w w.sl.length 6 i i w.d (bZ w.sl.length w.sl.length (iU A w)) (Yf 6 (YF w)) (mK w) (XA A w w.sl.length) (RS w i);have B:=u i;have o:Pq 22 [] sI lM (vT w i i) (hT A w i) .normal lM (vT w (i+1) i) (hT A w (i+1)):=by
  by_cases z:(w.q.tb i).length=0
  .have q:=q.trans (qj g (qj rx (qj aq (qj (qR ab) (qj (qR ab) (qB (by rw[ZE ab];simp) rfl))))));exact Pz.post (run q) λnt=>qqF A w a f z
  .have q:=q.trans (qj g (qB rx (qj (qR ab) (qB (by rw[ZE ab];simp) (qj aq (qj (qR ab) (qj (qR ab) (qB (by rw[ZE ab];simp) rfl))))))));exact Pz.post (run q) λnt=>qqE A w a f _ (w.q.tb i).length rfl ab
 have q6:=cra (bu w) (.ag bE) (o7 w (i+1)) i (hT A w (i+1));rw[dH ab] at q6;exact ao r (ao (cO 5 o) (run q6))
def qmn(f:w.sl.length<=16)(i:∀e,(w.q.tb e).length<=1000000):Pq 22 [] k7 db [bu w,.ag bE,o7 w 0] (hT A w 0) .normal db [bu w,.ag bE,o7 w 6] (hT A w 6):=by
 have run:=λ{p l a h g d o e} (q:cD 22 p l a h g=some (e,d,o))=>aP [] q;exact ao (run (cr7 _ _ _ _)) (cO 4 (Pz.count qh (λk=>vT w k k) (λk=>hT A w k) (n:=6) aq (λk j=>qk0 A w f i k j)
  (ed (run ((qwt w (.ag bE) (o7 w 6) 6 (hT A w 6)).trans (qB aq rfl))))))
end
def cu1(w:bJ)(a k t:Nat)(d:Int)(S Y e:ap)(X R:Nat->ap):cD 22 eK db [bu w,.ag bE,oO a k t .ae .ae .ae d] (nv S X Y e R []) db =
( bif w.cr.length==(0:Nat) then zN [bu w,.ag [.ae,.ae,.ae,.ae,.ae,.ae,uI 0],.ag [.own 0 a 0 a
 none,.own 17 k 0 k
 none,.own 18 t 0 t
 none,.ae,.ae,.ae,uI d]] [S,X (0:Nat),X (1:Nat),X (2:Nat),X (3:Nat),X (4:Nat),X (5:Nat),X (6:Nat),X (7:Nat),X (8:Nat),X (9:Nat),X (10:Nat),X (11:Nat),X (12:Nat),X (13:Nat),X (14:Nat),X (15:Nat),Y,e,R (0:Nat),R (1:Nat),R (2:Nat),R (3:Nat),R (4:Nat),R (5:Nat)] else
 gD ((w.cr.length*(41:Nat)).ble 70368744177664)<|zN [bu w,.ag [.ae,.ae,.ae,.ae,.ae,.ae,uI 0],.ag [.own 0 a 0 a
 none,.own 17 k 0 k
 none,.own 18 t 0 t
 none,.own 25 0 0 w.cr.length
 none,.ae,.ae,uI d]] [S,X (0:Nat),X (1:Nat),X (2:Nat),X (3:Nat),X (4:Nat),X (5:Nat),X (6:Nat),X (7:Nat),X (8:Nat),X (9:Nat),X (10:Nat),X (11:Nat),X (12:Nat),X (13:Nat),X (14:Nat),X (15:Nat),Y,e,R (0:Nat),R (1:Nat),R (2:Nat),R (3:Nat),R (4:Nat),R (5:Nat),cB (0:Nat) w.cr.length λj=>w.cr.getD j (aU.mk (0:Int) (0:Int) (0:Int) (0:Int) (0:Int))]):=qh
def cu2(w:bJ)(a k t:Nat)(d:Int)(S Y e:ap)(X R:Nat->ap):cD 22 lY db [bu w,.ag bE,oO a k t (aQ w.cr) .ae .ae d] (nv S X Y e R []) db =
( bif w.he.length==(0:Nat) then zN [bu w,.ag [.ae,.ae,.ae,.ae,.ae,.ae,uI 0],.ag [.own 0 a 0 a
 none,.own 17 k 0 k
 none,.own 18 t 0 t
 none,aQ w.cr,.ae,.ae,uI d]] [S,X (0:Nat),X (1:Nat),X (2:Nat),X (3:Nat),X (4:Nat),X (5:Nat),X (6:Nat),X (7:Nat),X (8:Nat),X (9:Nat),X (10:Nat),X (11:Nat),X (12:Nat),X (13:Nat),X (14:Nat),X (15:Nat),Y,e,R (0:Nat),R (1:Nat),R (2:Nat),R (3:Nat),R (4:Nat),R (5:Nat)] else
 gD ((w.he.length*(17:Nat)).ble 70368744177664)<|zN [bu w,.ag [.ae,.ae,.ae,.ae,.ae,.ae,uI 0],.ag [.own 0 a 0 a
 none,.own 17 k 0 k
 none,.own 18 t 0 t
 none,aQ w.cr,.own 25 0 0 w.he.length
 none,.ae,uI d]] [S,X (0:Nat),X (1:Nat),X (2:Nat),X (3:Nat),X (4:Nat),X (5:Nat),X (6:Nat),X (7:Nat),X (8:Nat),X (9:Nat),X (10:Nat),X (11:Nat),X (12:Nat),X (13:Nat),X (14:Nat),X (15:Nat),Y,e,R (0:Nat),R (1:Nat),R (2:Nat),R (3:Nat),R (4:Nat),R (5:Nat),Bw (0:Nat) w.he]):=qh
def cu3(w:bJ)(a k t:Nat)(d:Int)(S Y e:ap)(X R:Nat->ap):cD 22 si db [bu w,.ag bE,oO a k t (aQ w.cr) (bB w.he) .ae d] (nv S X Y e R []) ta =
( bif w.fa.length==(0:Nat) then zN [.ag [.ae,.ae,.ae,.ae,.ae,.ae,uI 0],.ag [.own 0 a 0 a
 none,.own 17 k 0 k
 none,.own 18 t 0 t
 none,aQ w.cr,bB w.he,.ae,uI d]] [S,X (0:Nat),X (1:Nat),X (2:Nat),X (3:Nat),X (4:Nat),X (5:Nat),X (6:Nat),X (7:Nat),X (8:Nat),X (9:Nat),X (10:Nat),X (11:Nat),X (12:Nat),X (13:Nat),X (14:Nat),X (15:Nat),Y,e,R (0:Nat),R (1:Nat),R (2:Nat),R (3:Nat),R (4:Nat),R (5:Nat)] else
 gD ((w.fa.length*(17:Nat)).ble 70368744177664)<|zN [.ag [.ae,.ae,.ae,.ae,.ae,.ae,uI 0],.ag [.own 0 a 0 a
 none,.own 17 k 0 k
 none,.own 18 t 0 t
 none,aQ w.cr,bB w.he,.own 25 0 0 w.fa.length
 none,uI d]] [S,X (0:Nat),X (1:Nat),X (2:Nat),X (3:Nat),X (4:Nat),X (5:Nat),X (6:Nat),X (7:Nat),X (8:Nat),X (9:Nat),X (10:Nat),X (11:Nat),X (12:Nat),X (13:Nat),X (14:Nat),X (15:Nat),Y,e,R (0:Nat),R (1:Nat),R (2:Nat),R (3:Nat),R (4:Nat),R (5:Nat),Bw (0:Nat) w.fa]):=qh
def cu4(w:bJ)(a k t:Nat)(d:Int)(H:qa):cD 22 sg ta [.ag bE,oO a k t (aQ w.cr) (bB w.he) (bB w.fa) d] H [2] =
( zR [.ag [.own 0 a 0 a
 none,.own 17 k 0 k
 none,.own 18 t 0 t
 none,aQ w.cr,bB w.he,bB w.fa,uI d]] H):=qh
def cu5(w:bJ)(a k t:Nat)(d:Int)(H:qa):YX au G16 (ar 22).aa Tryz.f22 (qJ [2] [oO a k t (aQ w.cr) (bB w.he) (bB w.fa) d] H) (λv=>some (v,H)) =
( some ((.agg [.own 0 a 0 a
 none,.own 17 k 0 k
 none,.own 18 t 0 t
 none,aQ w.cr,bB w.he,bB w.fa,uI d],H))):=qh
section
variable (A:Nat->Bool) (w:bJ)
def qoq(h)(j)(a:j<6):mK w j=(mK w j).map (qO Bz h):=by
 cases ZH a
 all_goals rfl
def PU{aa}{nt}{l}(e:w.sl.length<=16)(b){vs aW}(d:vs.map (nO Bz (Ee A w 6 (mK w) (RS w 6) [b]))=aW):ak G16 aa nt l 0 vs (Ee A w 6 (mK w) (RS w 6) [b]) aW (hT A w 6):=by
 refine ak.cu Bz rfl d rfl (.cons ⟨rfl,rfl,rfl,λh=>h,λj a=>Wq A w _ j (by have:j<w.sl.length:=a;omega)⟩ ?_ rfl)
 repeat (first|exact .nil|refine .cons ⟨rfl,rfl,rfl,λh=>h,λ_ _=>rfl⟩ ?_ rfl|refine .cons ⟨rfl,rfl,rfl,λh=>h,λj a=>qoq w _ j a⟩ ?_ rfl)
def o8(cr he fa:T):T:=oO w.sl.length 6 6 cr he fa w.d
def qqG(a:w.sl.length<=16)(B:w.cr.length<=1000000)(u:w.he.length<=1000000)(x:w.fa.length<=1000000) :
 Pq 22 [] sf db [bu w,.ag bE,o8 w .ae .ae .ae] (hT A w 6) .ret [2] [o8 w (aQ w.cr) (bB w.he) (bB w.fa)] (hT A w 6):=by
 have run:=λ{p l f h r g s e} (q:cD 22 p l f h r=some (e,g,s))=>aP [] q
 let S:=bZ w.sl.length w.sl.length (iU A w)
 have o:Pq 22 [] eK db [bu w,.ag bE,o8 w .ae .ae .ae] (hT A w 6) .normal db [bu w,.ag bE,o8 w (aQ w.cr) .ae .ae] (hT A w 6):=by
  have q:=cu1 w w.sl.length 6 6 w.d S (Yf 6 (YF w)) (cR 6 (mK w)) (XA A w w.sl.length) (RS w 6);by_cases z:w.cr.length=0
  ·refine Pz.post (run (q.trans (qj rx rfl))) λnt=>.sl (.rg (.rg (.cons (jG (.rg (.rg (.rg (.cons (by
    show bU .ae (mb (λj=>w.cr.getD j lH) w.cr.length none);rw[z];exact .eZ _ _ (.inl rfl)) (.refl _)))))) .nil))) (.refl _)
  ·exact Pz.post (run (q.trans (qB rx (qj (qR ab) rfl)))) λnt=>PU A w a _ (by
    show [bu w,.ag bE,.ag [.own 0 w.sl.length 0 w.sl.length none,.own 17 6 0 6 none,.own 18 6 0 6 none,bif Nat.ble (0+w.cr.length) w.cr.length then T.view 5 w.cr.length (λe=>(w.cr.getD (0+e) lH).c) none else .undef,.ae,.ae,uI w.d]]=_;rw[qR ab,wp];simp only[wo];rfl)
 have k:Pq 22 [] lY db [bu w,.ag bE,o8 w (aQ w.cr) .ae .ae] (hT A w 6) .normal db [bu w,.ag bE,o8 w (aQ w.cr) (bB w.he) .ae] (hT A w 6):=by
  have q:=cu2 w w.sl.length 6 6 w.d S (Yf 6 (YF w)) (cR 6 (mK w)) (XA A w w.sl.length) (RS w 6);by_cases z:w.he.length=0
  ·refine Pz.post (run (q.trans (qj rx rfl))) λnt=>.sl (.rg (.rg (.cons (jG (.rg (.rg (.rg (.rg (.cons (by
    show bU .ae (aX (λj=>w.he.getD j bA) w.he.length none);rw[z];exact .eZ _ _ (.inl rfl)) (.refl _))))))) .nil))) (.refl _)
  ·exact Pz.post (run (q.trans (qB rx (qj (qR ab) rfl)))) λnt=>PU A w a _ (by
    show [bu w,.ag bE,.ag [.own 0 w.sl.length 0 w.sl.length none,.own 17 6 0 6 none,.own 18 6 0 6 none,aQ w.cr,bif Nat.ble (0+w.he.length) w.he.length then T.view 2 w.he.length (λe=>(w.he.getD (0+e) bA).c) none else .undef,.ae,uI w.d]]=_;rw[qR ab,wp];simp only[wo];rfl)
 have i:Pq 22 [] si db [bu w,.ag bE,o8 w (aQ w.cr) (bB w.he) .ae] (hT A w 6) .normal ta [.ag bE,o8 w (aQ w.cr) (bB w.he) (bB w.fa)] (hT A w 6):=by
  have q:=cu3 w w.sl.length 6 6 w.d S (Yf 6 (YF w)) (cR 6 (mK w)) (XA A w w.sl.length) (RS w 6);by_cases z:w.fa.length=0
  ·refine Pz.post (run (q.trans (qj rx rfl))) λnt=>.sl (.rg (.cons (jG (.rg (.rg (.rg (.rg (.rg (.cons (by
    show bU .ae (aX (λj=>w.fa.getD j bA) w.fa.length none);rw[z];exact .eZ _ _ (.inl rfl)) (.refl _)))))))) .nil)) (.refl _)
  ·exact Pz.post (run (q.trans (qB rx (qj (qR ab) rfl)))) λnt=>PU A w a _ (by
    show [T.ag bE,T.ag [.own 0 w.sl.length 0 w.sl.length none,.own 17 6 0 6 none,.own 18 6 0 6 none,aQ w.cr,bB w.he,bif Nat.ble (0+w.fa.length) w.fa.length then T.view 2 w.fa.length (λe=>(w.fa.getD (0+e) bA).c) none else .undef,uI w.d]]=_;rw[qR ab,wp];simp only[wo];rfl)
 exact ao o (ao k (ao i (run (cu4 w w.sl.length 6 6 w.d (hT A w 6)))))
def qmo:Pq 22 [] eH eH [bu w,.ag bE] [] .normal db [bu w,.ag bE,oO 0 0 0 .ae .ae .ae w.d] (uA A w 0):=by
 refine Pz.post (aP [] (cq2 w)) λnt=>?_;have e:∀k,(XA A w 0 k).n=0:=λk=>by
  show(bif A k&&Nat.blt k 0 then _ else 0)=_;rw[QZ (wN _),Bool.and_false];rfl
 refine ak.gh (uA A w 0) (λb a=>?_) (iL.rg (iL.rg (iL.cons (oe.ag (.cons (.own (b:=bZ 0 0 (iU A w)) (wN _) rfl rfl) (.cons (.own (k:=17) (b:=YG) (wN _) rfl rfl) (.cons (.own (k:=18) (b:=TG) (wN _) rfl rfl) (.refl _))))) .nil))) (cT.refl _);simp only[uA,nv,wJ,xl,or_false] at a;rcases a with h|h|h|h|h|h|h|h|h|h|h|h|h|h|h|h|h|h|h|h|h|h|h|h|h
 all_goals
  subst h
  first|exact⟨rfl,rfl⟩|exact⟨e _,rfl⟩
def PV(a:w.sl.length<=16)(C:∀j,j<w.sl.length->1<=(bD w j).l.length/\(bD w j).l.length<=1000)(hp:∀e,(w.q.Y e).pe.length<=1000000)(r:∀e,(w.q.tb e).length<=1000000)(x:w.cr.length<=1000000)(s:w.he.length<=1000000)(u:w.fa.length<=1000000) :
 aR au G16 22 [.agg (w.cc none)] [] (.agg [.own 0 w.sl.length 0 w.sl.length none,.own 17 6 0 6 none,.own 18 6 0 6 none,aQ w.cr,bB w.he,bB w.fa,uI w.d]) (hT A w 6):=by
 have run:=λ{p l f h o g B e} (q:cD 22 p l f h o=some (e,g,B))=>aP [] q;have k:Pq 22 [] lD db [bu w,.ag bE,oO 0 0 0 .ae .ae .ae w.d] (uA A w 0) .normal db [bu w,.ag bE,o6 w 0 w.d] (re A w 0 []) :=
  ao (run (cq3 _ _ _ _)) (Pz.post (qmh A w a C) λnt=>qkZ A w)
 have i:=Pz.post (qmj A w a hp) λnt=>qml A w;exact Pz.fG (A:=ar) qY Tryz.func22 qh qh (l:=[0]) rfl
  (ao (run (cq1 w)) (ao (qmo A w) (ao k (ao i (ao (qmn A w a r) (qqG A w a x s u)))))) (cu5 w w.sl.length 6 6 w.d (hT A w 6))
end
def BC(B:Nat->Int)(N:Nat)(C:Nat->Nat)(M k:Nat):am:=pZ B N (pY C M k) (Qq B N C M k)
def Hj{B:Nat->Int}{N:Nat}{C:Nat->Nat}{M:Nat}(k:Nat):∀r,k<r->(Qq B N C M r).g k=BC B N C M k
 |0,h=>absurd h (vy k)
 |r+1,h=>by
  show aA (Qq B N C M r).g r (BC B N C M r) k=_;unfold aA;by_cases c:k=r
  .rw[wl c,c]
  .rw[wh c];exact Hj k r ab
def Ma{B:Nat->Int}{N:Nat}(hB:∀j,j<N->1<=B j/\B j<=3){C:Nat->Nat}{M R:Nat}(a:∀j,j<R->(Qq B N C M j).i<N):∀r,r<=R →
 zh (λj=>((Qq B N C M R).g j).n) r=((Qq B N C M r).i:Int)/\zh (λj=>((Qq B N C M R).g j).m) r=((Qq B N C M r).m:Int)
 |0,_=>⟨rfl,rfl⟩
 |r+1,h=>by
  obtain⟨e,d⟩:=Ma hB a r ab;have p:=G4 hB (pY C M r) (Qq B N C M r) (a r ab);have f:=am.sQ (BC B N C M r) p.ok;have k:=am.sR (BC B N C M r) p.ok;refine⟨?_,?_⟩
  .show zh _ r+((Qq B N C M R).g r).n=(((Qq B N C M r).i+(BC B N C M r).nN:Nat):Int);rw[e,Hj r R ab];grind[am.nN]
  .show zh _ r+((Qq B N C M R).g r).m=(((Qq B N C M r).m+(BC B N C M r).mN:Nat):Int);rw[d,Hj r R ab];grind[am.mN]
def Cp.AU(c:Cp)(i:Nat):rE (c.rw i) (c.rn i)=0/\uy (c.rw i) (c.rn i)=((c.ld i).1:Int)/\Ca (c.rw i) (c.rn i)=((c.ld (i+1)).1:Int):=by
 obtain⟨u,f,a⟩:=c.mZ i;obtain⟨A,x,_⟩:=c.mZ (i+1);obtain⟨o,e,s,r⟩:=c.gP i;obtain⟨_,_,k⟩:=jX (c.C i) (c.mi i) f a;obtain⟨s1,d⟩:=Ma a k (c.rn i) (wc _);have n1:uy (c.rw i) (c.rn i)=((c.ld i).1:Int):=by
  have:uy (c.rw i) (c.rn i)=((c.st i).i:Int):=s1;rw[this,e]
 have m1:Ca (c.rw i) (c.rn i)=((c.ld (i+1)).1:Int):=d;refine⟨?_,n1,m1⟩;have B:C4 (c.rw i) (c.rn i)=true:=(LR _ _).2 λj g=>o.v j g;grind[G0,rE]
def Cp.Ef(c:Cp)(i k:Nat)(a:k<c.rn i):∃p:Nat,(p:Int)=zh (λj=>(c.rw i j).n) k/\p+(c.rw i k).nN<=(c.ld i).1/\(c.rw i k).Ok/\dX (c.rw i k)=true/\mr (c.rw i k) (λe=>(c.ld i).2 (p+e)) (c.rw i k).nN=0/\1<=(c.rw i k).y/\(c.rw i k).y<=3:=by
 obtain⟨x,r,f⟩:=c.mZ i;obtain⟨o,e,u,s⟩:=c.gP i;obtain⟨_,_,g⟩:=jX (c.C i) (c.mi i) r f;obtain⟨s1,_⟩:=Ma f g k (Nat.le_of_lt a);have p:=G4 f (pY (c.C i) (c.mi i) k) (Qq (c.ld i).2 (c.ld i).1 (c.C i) (c.mi i) k) (g k a);have d:c.rw i k=BC (c.ld i).2 (c.ld i).1 (c.C i) (c.mi i) k:=Hj k (c.rn i) a;refine⟨(Qq (c.ld i).2 (c.ld i).1 (c.C i) (c.mi i) k).i,s1.symm,?_,?_,?_,?_,(o.y k).1,(o.y k).2⟩
 .rw[d];have:=p.n;have:=g k a;show _+(pZ _ _ _ _).nN<=_;omega
 .rw[d];exact p.ok
 .rw[d];exact p.v
 .rw[d];exact p.e
structure Rw where
 (o n:Nat) (vs bn:Nat->Nat) (sl:Nat->List aB)
def Rw.out(r:Rw):ap:=.mk r.o 1 r.n (λj=>[.own (10+j) (r.vs j) 0 (r.sl j).length none]) false false none
def Rw.row(r:Rw)(k:Nat):ap:=.mk (r.vs k) 2 (r.bn k) (λj=>((r.sl k).getD j aO).c) false false none
def Rw.h(r:Rw)(z:qa):qa:=r.out::r.row 0::r.row 1::r.row 2::r.row 3::r.row 4::r.row 5::r.row 6::r.row 7::r.row 8::r.row 9::r.row 10::r.row 11::r.row 12::r.row 13::r.row 14::r.row 15::z
def mL(n:Nat)(th:Nat->aw):ap:=.mk 0 2 n (λj=>(th j).c) true false none
def Mb(C:t7):ap:=.mk 0 4 1 (λj=>[C].getD j []) false true none
section
variable (x:Wx) (Y:Nat->bC) (ln v:Nat->Nat) (L:Nat->Nat->cQ) (r:Rw) (K:Nat) (b ct:Int) (th:Nat->aw) (n m:Nat) (pe:Nat->bl) (i:Bool) (pl:Int) (w:Bool)
def mC(b:Int)(w:Bool)(c d:T):t7:=[uI b,.bool w,c,d]
def rf(ln v:Nat->Nat)(L:Nat->Nat->cQ)(K:Nat)(C:t7):ap:=⟨v K+1,4,ln K+1,λj=>bif j.blt (ln K) then(L K (0+j)).c else [C].getD (0+(j-ln K)) [],false,false,none⟩
def rNo(ln v:Nat->Nat)(L:Nat->Nat->cQ)(K:Nat)(C:t7):ap:=⟨v K,4,ln K,λj=>bif Nat.ble (0+ln K) j&&j.blt (0+ln K+1) then [C].getD (0+(j-(0+ln K))) [] else(L K j).c,false,false,none⟩
def Fw(x:Wx)(Y:Nat->bC)(ln v:Nat->Nat)(L:Nat->Nat->cQ)(r:Rw)(K:Nat)(ct:Int)(C:t7)(E:qa):Option (Ex×t7×qa) :=
 bif v K==v K&&true then bif (0+ln K).ble (ln K) then bif ((ln K+1)*57).ble 70368744177664 then bif (0+ln K+1).ble (ln K) then some (.normal,[rz,yP K,fe K ct],ms x Y ln v L (lw ln v K (v K)) K (rNo ln v L K C) (r.h E)) else
  some (.normal,[rz,yP K,fe K ct],ms x Y ln v L (lw ln v K (v K+1)) K (rf ln v L K C) (r.h E)) else none else none else none
def qs8(a:K<6):cK (KG qt) 48 dd dm [p0,yK K,uI b,aX th (n+1) none,rz,yP K,fe K ct] (HW x (aA Y K ⟨i,pl,ct,w,pe,m+1⟩) ln v L (r.h [])) gd =
 (bif Nat.blt 0 (0+(n+1))&&((0+(n+1))*17).ble 70368744177664 then bif Nat.blt 0 (0+(m+1))&&((0+(m+1))*25).ble 70368744177664 then
  Fw x (aA Y K ⟨i,pl,ct,w,pe,m+1⟩) ln v L r K ct (mC b w (.own 26 0 0 (0+(n+1)) none) (.own 27 0 0 (0+(m+1)) none)) [mL (0+(n+1)) th,Fo (0+(m+1)) pe,Mb (mC b w (.own 26 0 0 (0+(n+1)) none) (.own 27 0 0 (0+(m+1)) none))] else none else none):=by
 cases w
 all_goals
  cases ZH a
  all_goals kernel_rfl
def Dj:T:=.view 2 0 (λj=>([]:List t7).getD j []) (some 0)
def Hk:T:=.view 4 0 (λj=>([]:List t7).getD j []) (some 0)
def qs9(a:K<6):cK (KG qt) 48 dd dm [p0,yK K,uI b,aX th (n+1) none,rz,yP K,fe K ct] (HW x (aA Y K ⟨i,pl,ct,w,pe,0⟩) ln v L (r.h [])) gd =
 (bif Nat.blt 0 (0+(n+1))&&((0+(n+1))*17).ble 70368744177664 then
  Fw x (aA Y K ⟨i,pl,ct,w,pe,0⟩) ln v L r K ct (mC b w (.own 26 0 0 (0+(n+1)) none) Hk) [mL (0+(n+1)) th,Mb (mC b w (.own 26 0 0 (0+(n+1)) none) Hk)] else none):=by
 cases w
 all_goals
  cases ZH a
  all_goals kernel_rfl
def qta(a:K<6):cK (KG qt) 48 dd dm [p0,yK K,uI b,.ae,rz,yP K,fe K ct] (HW x (aA Y K ⟨i,pl,ct,w,pe,m+1⟩) ln v L (r.h [])) gd =
 (bif Nat.blt 0 (0+(m+1))&&((0+(m+1))*25).ble 70368744177664 then
  Fw x (aA Y K ⟨i,pl,ct,w,pe,m+1⟩) ln v L r K ct (mC b w Dj (.own 26 0 0 (0+(m+1)) none)) [Fo (0+(m+1)) pe,Mb (mC b w Dj (.own 26 0 0 (0+(m+1)) none))] else none):=by
 cases w
 all_goals
  cases ZH a
  all_goals kernel_rfl
end
def Jc:t8:=List.range 26
def ZC{σ:t8}{h:qa}{x:T}(hx:aF x=true):qO σ h x=x:=by
 cases x<;>first|rfl|(simp[aF,zV] at hx;done)|(unfold qO;grind)
structure Wx.Im(x:Wx):Prop where
 sl:aF x.sl=true
 cr:aF x.cr=true
 he:aF x.he=true
 fa:aF x.fa=true
def qor(r:Rw)(h:qa)(j:Nat)(a:j<16):[T.own (10+j) (r.vs j) 0 (r.sl j).length none]=[T.own (10+j) (r.vs j) 0 (r.sl j).length none].map (qO Jc h):=by
 cases Qb a
 all_goals rfl
def qos(ln v:Nat->Nat)(K m:Nat)(a:K<6)(h:qa)(e:Nat)(he:e<6):(lw ln v K m).get e=((lw ln v K m).get e).map (qO Jc h):=by
 cases ZH a
 all_goals
  cases ZH he
  all_goals rfl
def qqH(x:Wx)(hx:x.Im)(h:qa):[x.sl,.own 1 0 0 6 none,.own 2 0 0 6 none,x.cr,x.he,x.fa,uI x.d]=[x.sl,.own 1 0 0 6 none,.own 2 0 0 6 none,x.cr,x.he,x.fa,uI x.d].map (qO Jc h):=by
 show _=[qO Jc h x.sl,.own 1 0 0 6 none,.own 2 0 0 6 none,qO Jc h x.cr,qO Jc h x.he,qO Jc h x.fa,uI x.d];rw[ZC hx.sl,ZC hx.cr,ZC hx.he,ZC hx.fa]
def qot(ln v:Nat->Nat)(L:Nat->Nat->cQ)(K:Nat)(C a:t7)(h:qa)(hC:C.map (qO Jc h)=a)(j:Nat)(d:j<ln K+1):(rT ln v L K a).get j=((rf ln v L K C).get j).map (qO Jc h):=by
 show(bif j.blt (ln K) then(L K (0+j)).c else [a].getD (j-ln K) [])=(bif j.blt (ln K) then(L K (0+j)).c else [C].getD (0+(j-ln K)) []).map (qO Jc h);by_cases c:j<ln K
 .rw[qN c];rfl
 .obtain rfl:j=ln K:=by omega
  rw[QZ (wc _),va,←hC];rfl
def qqI{aa:t8}{nt:Nat}{l:t8}{k:Nat}(B:k<=26)(x:Wx)(hx:x.Im)(Y:Nat->bC)(ln v:Nat->Nat)(L:Nat->Nat->cQ)(r:Rw)(hr:r.n<=16)(K:Nat)(f:K<6)(C d:t7)(E:qa){vs aW:t7}
 (i:zA k Jc (ms x Y ln v L (lw ln v K (v K+1)) K (rf ln v L K C) (r.h E))=true)
 (g:vs.map (nO Jc (ms x Y ln v L (lw ln v K (v K+1)) K (rf ln v L K C) (r.h E)))=aW) (hC:C.map (qO Jc (ms x Y ln v L (lw ln v K (v K+1)) K (rf ln v L K C) (r.h E)))=d) :
 ak G16 aa nt l k vs (ms x Y ln v L (lw ln v K (v K+1)) K (rf ln v L K C) (r.h E)) aW (ms x Y ln v L (lw ln v K (v K+1)) K (rT ln v L K d) (r.h [])):=by
 have A:=qqH x hx;have u:=λh e (he:e<6)=>qos ln v K (v K+1) f h e he;have s:=qot ln v L K C d _ hC;have o:=λh j (a:j<r.n)=>qor r h j ab;cases ZH f
 all_goals
  refine ak.cu Jc i g rfl (.cons ⟨rfl,rfl,rfl,λh=>h,λ_ _=>A _⟩ ?_ rfl)
  repeat (first|exact .nil|refine .cons ⟨rfl,rfl,rfl,λh=>h,λ_ _=>rfl⟩ ?_ rfl|refine .cons ⟨rfl,rfl,rfl,λh=>h,λj a=>u _ j a⟩ ?_ rfl|refine .cons ⟨rfl,rfl,rfl,λh=>h,λj a=>s j a⟩ ?_ rfl|refine .cons ⟨rfl,rfl,rfl,λh=>h,λj a=>o _ j a⟩ ?_ rfl)
def Mc(Y:Nat->bC)(K:Nat)(z:bC)(h:Y K=z):aA Y K z=Y:=funext λe=>by
 show(if e=K then z else Y e)=Y e;grind
def Md{x:Wx}{Y:Nat->bC}{ln v}{L}{r}{K}{ct}{C}{E}(a:ln K<=1000000):Fw x Y ln v L r K ct C E=some (.normal,[rz,yP K,fe K ct],ms x Y ln v L (lw ln v K (v K+1)) K (rf ln v L K C) (r.h E)):=by
 unfold Fw;exact qj aq (qj (qR ab) (qj (qR ab) (qB (by rw[ZE ab];simp) rfl)))
def qqJ(q:Ys)(x:Wx)(hx:x.Im)(v)(r:Rw)(hr:r.n<=16)(K:Nat)(b:Int)(u:K<6)(th:List aw)(g:T)(R:(th=[]/\g = .ae/\(q.Y K).pe≠[])∨(th≠[]/\g=bB th))(hn:(q.tb K).length<=1000000)(S:th.length<=1000000)(hp:(q.Y K).pe.length<=1000000) :
 Pq 48 (q.hw x v (r.h [])) dd dm [p0,yK K,uI b,g,rz,yP K,fe K (q.Y K).ct] (q.hw x v (r.h [])) .normal gd [rz,yP K,fe K (q.Y K).ct]
  (HW x (λe=>(q.Y e).y) (aA (λe=>(q.tb e).length) K ((q.tb K).length+1)) (aA v K (v K+1)) (mY (λe j=>((q.tb e).getD j dP).l) K (q.tb K).length ((q.Y K).lp b th).l) (r.h [])):=by
 let Y:Nat->bC:=λe=>(q.Y e).y
 let ln:Nat->Nat:=λe=>(q.tb e).length
 let L:Nat->Nat->cQ:=λe j=>((q.tb e).getD j dP).l
 have A:ln K<=1000000:=hn;have J:OO (KG qt):=qA qm (λ_ _ _ _ h=>(by cases h))
 let a:Nat->bl:=λj=>(q.Y K).pe.getD j dV
 let d:Nat->aw:=λj=>th.getD j bA
 have f:∀(C s:t7) (E:qa),cK (KG qt) 48 dd dm [p0,yK K,uI b,g,rz,yP K,fe K (q.Y K).ct] (HW x Y ln v L (r.h [])) gd=some (.normal,[rz,yP K,fe K (q.Y K).ct],ms x Y ln v L (lw ln v K (v K+1)) K (rf ln v L K C) (r.h E)) →
  C.map (qO Jc (ms x Y ln v L (lw ln v K (v K+1)) K (rf ln v L K C) (r.h E)))=s->zA 26 Jc (ms x Y ln v L (lw ln v K (v K+1)) K (rf ln v L K C) (r.h E))=true->eX s ((q.Y K).lp b th).l.c →
  Pq 48 (q.hw x v (r.h [])) dd dm [p0,yK K,uI b,g,rz,yP K,fe K (q.Y K).ct] (q.hw x v (r.h [])) .normal gd [rz,yP K,fe K (q.Y K).ct]
  (HW x Y (aA ln K (ln K+1)) (aA v K (v K+1)) (mY L K (ln K) ((q.Y K).lp b th).l) (r.h [])):=λC s E P O N M =>
  Pz.post (bR J (q.hw x v (r.h [])) P) λnt=>.trans (qqI (k:=26) (wc _) x hx Y ln v L r hr K u C s E N rfl O) (PK (c:=s) (z:=((q.Y K).lp b th).l) M)
 rcases R with⟨rfl,rfl,H⟩|⟨H,rfl⟩
 .obtain⟨m,o⟩:∃m,(q.Y K).pe.length=m+1:=⟨(q.Y K).pe.length-1,by have:(q.Y K).pe.length≠0:=λh=>H (vU h);omega⟩;have z:=qta x Y ln v L r K b (q.Y K).ct m a (q.Y K).i (q.Y K).pl (q.Y K).w u;rw[Mc Y K _ (show Y K=⟨(q.Y K).i,(q.Y K).pl,(q.Y K).ct,(q.Y K).w,a,m+1⟩ by show(q.Y K).y=_;unfold Yn.y;rw[o]),Md A] at z;have z:=z.trans (qj (by rw[qN ab,qR ab];rfl) rfl);refine f _ (mC b (q.Y K).w Dj (bY a (m+1) none)) _ z ?_ rfl ?_
  .show [uI b,.bool (q.Y K).w,Dj,bif Nat.ble (0+(0+(m+1))) (0+(m+1)) then T.view 4 (0+(m+1)) (λe=>(a (0+e)).c) none else .undef]=_;rw[qR ab,wp];simp only[wo];rfl
  .refine .rg (.rg (.cons (.view (.inr rfl) λj B=>absurd B (vy j)) (.cons ?_ .nil)));show bU (bY a (m+1) none) (bY (λj=>(q.Y K).pe.getD j dV) (q.Y K).pe.length none);rw[o];exact .refl _
 .obtain⟨n,D⟩:∃n,th.length=n+1:=⟨th.length-1,by have:th.length≠0:=λh=>H (vU h);omega⟩;have Q:bB th=aX d (n+1) none:=by unfold bB;rw[D]
  rw[Q] at f ⊢;by_cases I:(q.Y K).pe=[]
  .have z:=qs9 x Y ln v L r K b (q.Y K).ct d n a (q.Y K).i (q.Y K).pl (q.Y K).w u;rw[Mc Y K _ (show Y K=⟨(q.Y K).i,(q.Y K).pl,(q.Y K).ct,(q.Y K).w,a,0⟩ by show(q.Y K).y=_;unfold Yn.y;rw[show(q.Y K).pe.length=0 by rw[I];rfl]),Md A] at z;have z:=z.trans (qj (by rw[qN ab,qR ab];rfl) rfl);refine f _ (mC b (q.Y K).w (aX d (n+1) none) Hk) _ z ?_ rfl ?_
   .show [uI b,.bool (q.Y K).w,bif Nat.ble (0+(0+(n+1))) (0+(n+1)) then T.view 2 (0+(n+1)) (λe=>(d (0+e)).c) none else .undef,Hk]=_;rw[qR ab,wp];simp only[wo];rfl
   .refine .rg (.rg (.cons ?_ (.cons ?_ .nil)))
    .show bU (aX d (n+1) none) (aX (λj=>th.getD j bA) th.length none);rw[D];exact .refl _
    .show bU Hk (bY (λj=>(q.Y K).pe.getD j dV) (q.Y K).pe.length none);rw[I];exact .view (.inr rfl) λj B=>absurd B (vy j)
  .obtain⟨m,o⟩:∃m,(q.Y K).pe.length=m+1:=⟨(q.Y K).pe.length-1,by have:(q.Y K).pe.length≠0:=λh=>I (vU h);omega⟩;have z:=qs8 x Y ln v L r K b (q.Y K).ct d n m a (q.Y K).i (q.Y K).pl (q.Y K).w u;rw[Mc Y K _ (show Y K=⟨(q.Y K).i,(q.Y K).pl,(q.Y K).ct,(q.Y K).w,a,m+1⟩ by show(q.Y K).y=_;unfold Yn.y;rw[o]),Md A] at z;have z:=z.trans (qj (by rw[qN ab,qR ab];rfl) (qj (by rw[qN ab,qR ab];rfl) rfl));refine f _ (mC b (q.Y K).w (aX d (n+1) none) (bY a (m+1) none)) _ z ?_ rfl ?_
   .show [uI b,.bool (q.Y K).w,bif Nat.ble (0+(0+(n+1))) (0+(n+1)) then T.view 2 (0+(n+1)) (λe=>(d (0+e)).c) none else .undef,bif Nat.ble (0+(0+(m+1))) (0+(m+1)) then T.view 4 (0+(m+1)) (λe=>(a (0+e)).c) none else .undef]=_;rw[qR ab,wp,qR ab,wp];simp only[wo];rfl
   .refine .rg (.rg (.cons ?_ (.cons ?_ .nil)))
    .show bU (aX d (n+1) none) (aX (λj=>th.getD j bA) th.length none);rw[D];exact .refl _
    .show bU (bY a (m+1) none) (bY (λj=>(q.Y K).pe.getD j dV) (q.Y K).pe.length none);rw[o];exact .refl _
def Wy(q:Ys)(x)(hx:x.Im)(v:Nat->Nat)(r:Rw)(hr:r.n<=16)(K:Nat)(b:Int)(u:K<6)(th:List aw)(s:T)(Bq:(th=[]/\s = .ae/\(q.Y K).pe≠[])∨(th≠[]/\s=bB th))(hi:(q.Y K).i=true)(h0:0<=(q.Y K).ct)(h1:(q.Y K).ct<1000000)(hn:(q.tb K).length<=1000000)(ht:th.length<=1000000)(hp:(q.Y K).pe.length<=1000000) :
 aR au G16 48 [p0,yK K,uI b,s] (q.hw x v (r.h [])) (.agg [uI (ofNat K+1),iI (q.Y K).ct]) ((q.loop K b th).hw x (aA v K (v K+1)) (r.h [])):=by
 let a:qa:=r.h []
 have hD:yD K=ofNat K:=by
  unfold yD;rw[show ofNat K+1-1=ofNat K by omega,Qv bP bP]
 have h8:u8.wrap (ofNat K+1)=ofNat K+1:=nY bP bP
 let Y:Nat->bC:=λe=>(q.Y e).y
 let ln:Nat->Nat:=λe=>(q.tb e).length
 let L:Nat->Nat->cQ:=λe j=>((q.tb e).getD j dP).l
 have Z:=aP (q.hw x v a) (PD x Y ln v L a K b s);have J:=PE x Y ln v L a K b s;rw[hD,show 0+(ofNat K).toNat=K by simp] at J;have X:=aP (q.hw x v a) (J.trans (qj (gV u) rfl));have W:=aP (q.hw x v a) ((PF x Y ln v L a K b s).trans (qj (qN u) rfl));have V:=qqJ q x hx v r hr K b u th s Bq hn ht hp
 have key:∀(d:Nat->bC) (k:Nat->Nat) (o:Nat->Nat->cQ) (g:Nat->Nat),(d K).i=true->(d K).ct=(q.Y K).ct->(d K).pl=(q.Y K).pl →
  Pq 48 (q.hw x v a) tS gd [rz,yP K,fe K (q.Y K).ct] (HW x d k g o a) .ret [8] [fe K (q.Y K).ct] (HW x (aA d K (q.Y K).next.y) k g o a):=by
  intro d k o g Q P O;have e1:i64.wrap ((d K).ct+1)=(q.Y K).ct+1:=by rw[P];exact Qv ab ab
  have I:=PG x d k g o a K (q.Y K).ct;rw[e1] at I;have pe:=Pz.post (aP (q.hw x v a) (I.trans (qj (qN u) (qj (by rw[qN u];rfl) rfl)))) (v2:=[rz,yP K,fe K (q.Y K).ct]) (h2:=HW x (aA d K ⟨true,(q.Y K).pl,(q.Y K).ct+1,(d K).w,(d K).pe,(d K).np⟩) k g o a) λnt=>Zs (by rw[Q,O];exact .refl _);have H:=PH x (aA d K ⟨true,(q.Y K).pl,(q.Y K).ct+1,(d K).w,(d K).pe,(d K).np⟩) k g o a K (q.Y K).ct;have D:∀(f:Nat->bC) (z:bC),aA f K z K=z:=λf z=>wl rfl;have C:∀(f:Nat->bC) (z B:bC),aA (aA f K z) K B=aA f K B:=λf z B=>funext λe=>by
   show(if e=K then B else if e=K then z else f e)=if e=K then B else f e;grind
  rw[D] at H;have U:=Pz.post (aP (q.hw x v a) (H.trans (qj (by rw[qN u];rfl) rfl))) (v2:=[rz,yP K,fe K (q.Y K).ct]) (h2:=HW x (aA d K ⟨true,(q.Y K).pl,(q.Y K).ct+1,false,(d K).pe,(d K).np⟩) k g o a) λnt=>by
   rw[←C d ⟨true,(q.Y K).pl,(q.Y K).ct+1,(d K).w,(d K).pe,(d K).np⟩ ⟨true,(q.Y K).pl,(q.Y K).ct+1,false,(d K).pe,(d K).np⟩];exact Zs (c:=(bC.mk true (q.Y K).pl ((q.Y K).ct+1) false (d K).pe (d K).np).c) (y:=⟨true,(q.Y K).pl,(q.Y K).ct+1,false,(d K).pe,(d K).np⟩) (.refl _)
  have E:=PI x (aA d K ⟨true,(q.Y K).pl,(q.Y K).ct+1,false,(d K).pe,(d K).np⟩) k g o a K (q.Y K).ct;rw[D] at E;have S:=Pz.post (aP (q.hw x v a) (E.trans (qj (by rw[qN u];rfl) rfl))) (v2:=[rz,fe K (q.Y K).ct]) (h2:=HW x (aA d K (q.Y K).next.y) k g o a) λnt=>by
   rw[←C d ⟨true,(q.Y K).pl,(q.Y K).ct+1,false,(d K).pe,(d K).np⟩ (q.Y K).next.y];exact Zs (c:=[.bool true,iI (q.Y K).pl,iI ((q.Y K).ct+1),.bool false,.ae]) (y:=(q.Y K).next.y) (.rg (.rg (.rg (.rg (.cons (.eZ _ _ (.inl rfl)) .nil)))))
  have R:=aP (q.hw x v a) (PJ (HW x (aA d K (q.Y K).next.y) k g o a) K (q.Y K).ct);exact ao pe (ao U (ao S R))
 have M:=key Y (aA ln K (ln K+1)) (mY L K (ln K) ((q.Y K).lp b th).l) (aA v K (v K+1)) hi rfl rfl;have e2:HW x (aA Y K (q.Y K).next.y) (aA ln K (ln K+1)) (aA v K (v K+1)) (mY L K (ln K) ((q.Y K).lp b th).l) a=(q.loop K b th).hw x (aA v K (v K+1)) a:=PL q x v a K b th;rw[e2] at M;have t:=Pz.fG (A:=ar) qY Tryz.func48 qh qh (l:=lE) rfl (ao Z (ao X (ao W (ao V M)))) (r:=.agg [uI (u8.wrap (ofNat K+1)),iI (q.Y K).ct]) rfl;rw[h8] at t;exact t
section
variable (x:Wx) (Y:Nat->bC) (ln v:Nat->Nat) (L:Nat->Nat->cQ) (r:Rw) (K:Nat) (b ct:Int) (m:Nat) (pe:Nat->bl) (i:Bool) (pl:Int) (w:Bool)
def qqK(g0:ap)(a:K<6):cK (KG qt) 48 dd dm [p0,yK K,uI b,.ae,rz,yP K,fe K ct] (HW x (aA Y K ⟨i,pl,ct,w,pe,m+1⟩) ln v L (r.h [g0])) gd =
 (bif Nat.blt 0 (0+(m+1))&&((0+(m+1))*25).ble 70368744177664 then
  Fw x (aA Y K ⟨i,pl,ct,w,pe,m+1⟩) ln v L r K ct (mC b w Dj (.own 27 0 0 (0+(m+1)) none)) [g0,Fo (0+(m+1)) pe,Mb (mC b w Dj (.own 27 0 0 (0+(m+1)) none))] else none):=by
 cases w
 all_goals
  cases ZH a
  all_goals kernel_rfl
end
def Jd:t8:=List.range 27
def qmq(r:Rw)(h:qa)(j:Nat)(a:j<16):[T.own (10+j) (r.vs j) 0 (r.sl j).length none]=[T.own (10+j) (r.vs j) 0 (r.sl j).length none].map (qO Jd h):=by
 cases Qb a
 all_goals rfl
def qmr(ln v)(K m:Nat)(a:K<6)(h:qa)(e:Nat)(he:e<6):(lw ln v K m).get e=((lw ln v K m).get e).map (qO Jd h):=by
 cases ZH a
 all_goals
  cases ZH he
  all_goals rfl
def qou(x:Wx)(hx:x.Im)(h:qa):[x.sl,.own 1 0 0 6 none,.own 2 0 0 6 none,x.cr,x.he,x.fa,uI x.d]=[x.sl,.own 1 0 0 6 none,.own 2 0 0 6 none,x.cr,x.he,x.fa,uI x.d].map (qO Jd h):=by
 show _=[qO Jd h x.sl,.own 1 0 0 6 none,.own 2 0 0 6 none,qO Jd h x.cr,qO Jd h x.he,qO Jd h x.fa,uI x.d];rw[ZC hx.sl,ZC hx.cr,ZC hx.he,ZC hx.fa]
def qms(ln v)(L)(K:Nat)(C a:t7)(h:qa)(hC:C.map (qO Jd h)=a)(j:Nat)(d:j<ln K+1):(rT ln v L K a).get j=((rf ln v L K C).get j).map (qO Jd h):=by
 show(bif j.blt (ln K) then(L K (0+j)).c else [a].getD (j-ln K) [])=(bif j.blt (ln K) then(L K (0+j)).c else [C].getD (0+(j-ln K)) []).map (qO Jd h);by_cases c:j<ln K
 .rw[qN c];rfl
 .obtain rfl:j=ln K:=by omega
  rw[QZ (wc _),va,←hC];rfl
def qov{aa:t8}{nt:Nat}{l:t8}{k:Nat}(I:k<=27)(x:Wx)(hx:x.Im)(Y:Nat->bC)(ln v:Nat->Nat)(L:Nat->Nat->cQ)(r:Rw)(hr:r.n<=16)(K:Nat)(o:K<6)(C g:t7)(f:Nat)(d:Nat->aw)(E:qa){vs aW:t7}
 (u:zA k Jd (ms x Y ln v L (lw ln v K (v K+1)) K (rf ln v L K C) (r.h (mL f d::E)))=true)
 (s:vs.map (nO Jd (ms x Y ln v L (lw ln v K (v K+1)) K (rf ln v L K C) (r.h (mL f d::E))))=aW) (hC:C.map (qO Jd (ms x Y ln v L (lw ln v K (v K+1)) K (rf ln v L K C) (r.h (mL f d::E))))=g) :
 ak G16 aa nt l k vs (ms x Y ln v L (lw ln v K (v K+1)) K (rf ln v L K C) (r.h (mL f d::E))) aW (ms x Y ln v L (lw ln v K (v K+1)) K (rT ln v L K g) (r.h [mL f d])):=by
 have H:=qou x hx;have D:=λh e (he:e<6)=>qmr ln v K (v K+1) o h e he;have B:=qms ln v L K C g _ hC;have A:=λh j (a:j<r.n)=>qmq r h j ab;cases ZH o
 all_goals
  refine ak.cu Jd u s rfl (.cons ⟨rfl,rfl,rfl,λh=>h,λ_ _=>H _⟩ ?_ rfl)
  repeat (first|exact .nil|refine .cons ⟨rfl,rfl,rfl,λh=>h,λ_ _=>rfl⟩ ?_ rfl|refine .cons ⟨rfl,rfl,rfl,λh=>h,λj a=>D _ j a⟩ ?_ rfl|refine .cons ⟨rfl,rfl,rfl,λh=>h,λj a=>B j a⟩ ?_ rfl|refine .cons ⟨rfl,rfl,rfl,λh=>h,λj a=>A _ j a⟩ ?_ rfl)
def qow(q:Ys)(x:Wx)(hx:x.Im)(v:Nat->Nat)(r:Rw)(hr:r.n<=16)(K:Nat)(b:Int)(u:K<6)(d:Nat)(a:Nat->aw)(N:(q.Y K).pe≠[])(hn:(q.tb K).length<=1000000)(hp:(q.Y K).pe.length<=1000000) :
 Pq 48 (q.hw x v (r.h [mL d a])) dd dm [p0,yK K,uI b,T.ae,rz,yP K,fe K (q.Y K).ct] (q.hw x v (r.h [mL d a])) .normal gd [rz,yP K,fe K (q.Y K).ct]
  (HW x (λe=>(q.Y e).y) (aA (λe=>(q.tb e).length) K ((q.tb K).length+1)) (aA v K (v K+1)) (mY (λe j=>((q.tb e).getD j dP).l) K (q.tb K).length ((q.Y K).lp b []).l) (r.h [mL d a])):=by
 let Y:Nat->bC:=λe=>(q.Y e).y
 let ln:Nat->Nat:=λe=>(q.tb e).length
 let L:Nat->Nat->cQ:=λe j=>((q.tb e).getD j dP).l
 have B:ln K<=1000000:=hn;have A:OO (KG qt):=qA qm (λ_ _ _ _ h=>(by cases h))
 let f:Nat->bl:=λj=>(q.Y K).pe.getD j dV
 have o:∀(C g:t7) (E:qa),cK (KG qt) 48 dd dm [p0,yK K,uI b,T.ae,rz,yP K,fe K (q.Y K).ct] (HW x Y ln v L (r.h [mL d a])) gd=some (.normal,[rz,yP K,fe K (q.Y K).ct],ms x Y ln v L (lw ln v K (v K+1)) K (rf ln v L K C) (r.h (mL d a::E))) →
  C.map (qO Jd (ms x Y ln v L (lw ln v K (v K+1)) K (rf ln v L K C) (r.h (mL d a::E))))=g->zA 27 Jd (ms x Y ln v L (lw ln v K (v K+1)) K (rf ln v L K C) (r.h (mL d a::E)))=true->eX g ((q.Y K).lp b []).l.c →
  Pq 48 (q.hw x v (r.h [mL d a])) dd dm [p0,yK K,uI b,T.ae,rz,yP K,fe K (q.Y K).ct] (q.hw x v (r.h [mL d a])) .normal gd [rz,yP K,fe K (q.Y K).ct]
  (HW x Y (aA ln K (ln K+1)) (aA v K (v K+1)) (mY L K (ln K) ((q.Y K).lp b []).l) (r.h [mL d a])):=λC g E M J I H =>
  Pz.post (bR A (q.hw x v (r.h [mL d a])) M) λnt=>.trans (qov (k:=27) (wc _) x hx Y ln v L r hr K u C g d a E I rfl J) (PK (c:=g) (z:=((q.Y K).lp b []).l) H)
 .obtain⟨m,s⟩:∃m,(q.Y K).pe.length=m+1:=⟨(q.Y K).pe.length-1,by have:(q.Y K).pe.length≠0:=λh=>N (vU h);omega⟩;have z:=qqK x Y ln v L r K b (q.Y K).ct m f (q.Y K).i (q.Y K).pl (q.Y K).w (mL d a) u;rw[Mc Y K _ (show Y K=⟨(q.Y K).i,(q.Y K).pl,(q.Y K).ct,(q.Y K).w,f,m+1⟩ by show(q.Y K).y=_;unfold Yn.y;rw[s]),Md B] at z;have z:=z.trans (qj (by rw[qN ab,qR ab];rfl) rfl);refine o _ (mC b (q.Y K).w Dj (bY f (m+1) none)) _ z ?_ rfl ?_
  .show [uI b,.bool (q.Y K).w,Dj,bif Nat.ble (0+(0+(m+1))) (0+(m+1)) then T.view 4 (0+(m+1)) (λe=>(f (0+e)).c) none else .undef]=_;rw[qR ab,wp];simp only[wo];rfl
  .refine .rg (.rg (.cons (.view (.inr rfl) λj D=>absurd D (vy j)) (.cons ?_ .nil)));show bU (bY f (m+1) none) (bY (λj=>(q.Y K).pe.getD j dV) (q.Y K).pe.length none);rw[s];exact .refl _
def qqL(q:Ys)(x:Wx)(hx:x.Im)(v:Nat->Nat)(r:Rw)(hr:r.n<=16)(K:Nat)(b:Int)(s:K<6)(C:Nat)(B:Nat->aw)(bh:(q.Y K).pe≠[])(hi:(q.Y K).i=true)(h0:0<=(q.Y K).ct)(h1:(q.Y K).ct<1000000)(hn:(q.tb K).length<=1000000)(hp:(q.Y K).pe.length<=1000000) :
 aR au G16 48 [p0,yK K,uI b,T.ae] (q.hw x v (r.h [mL C B])) (.agg [uI (ofNat K+1),iI (q.Y K).ct]) ((q.loop K b []).hw x (aA v K (v K+1)) (r.h [mL C B])):=by
 let a:qa:=r.h [mL C B]
 have hD:yD K=ofNat K:=by
  unfold yD;rw[show ofNat K+1-1=ofNat K by omega,Qv bP bP]
 have h8:u8.wrap (ofNat K+1)=ofNat K+1:=nY bP bP
 let Y:Nat->bC:=λe=>(q.Y e).y
 let ln:Nat->Nat:=λe=>(q.tb e).length
 let L:Nat->Nat->cQ:=λe j=>((q.tb e).getD j dP).l
 have pa:=aP (q.hw x v a) (PD x Y ln v L a K b T.ae);have M:=PE x Y ln v L a K b T.ae;rw[hD,show 0+(ofNat K).toNat=K by simp] at M;have Z:=aP (q.hw x v a) (M.trans (qj (gV s) rfl));have X:=aP (q.hw x v a) ((PF x Y ln v L a K b T.ae).trans (qj (qN s) rfl));have W:=qow q x hx v r hr K b s C B bh hn hp
 have key:∀(d:Nat->bC) (k:Nat->Nat) (o:Nat->Nat->cQ) (g:Nat->Nat),(d K).i=true->(d K).ct=(q.Y K).ct->(d K).pl=(q.Y K).pl →
  Pq 48 (q.hw x v a) tS gd [rz,yP K,fe K (q.Y K).ct] (HW x d k g o a) .ret [8] [fe K (q.Y K).ct] (HW x (aA d K (q.Y K).next.y) k g o a):=by
  intro d k o g R Q P;have e1:i64.wrap ((d K).ct+1)=(q.Y K).ct+1:=by rw[Q];exact Qv ab ab
  have J:=PG x d k g o a K (q.Y K).ct;rw[e1] at J;have pe:=Pz.post (aP (q.hw x v a) (J.trans (qj (qN s) (qj (by rw[qN s];rfl) rfl)))) (v2:=[rz,yP K,fe K (q.Y K).ct]) (h2:=HW x (aA d K ⟨true,(q.Y K).pl,(q.Y K).ct+1,(d K).w,(d K).pe,(d K).np⟩) k g o a) λnt=>Zs (by rw[R,P];exact .refl _);have I:=PH x (aA d K ⟨true,(q.Y K).pl,(q.Y K).ct+1,(d K).w,(d K).pe,(d K).np⟩) k g o a K (q.Y K).ct;have E:∀(f:Nat->bC) (z:bC),aA f K z K=z:=λf z=>wl rfl;have D:∀(f:Nat->bC) (z u:bC),aA (aA f K z) K u=aA f K u:=λf z u=>funext λe=>by
   show(if e=K then u else if e=K then z else f e)=if e=K then u else f e;grind
  rw[E] at I;have V:=Pz.post (aP (q.hw x v a) (I.trans (qj (by rw[qN s];rfl) rfl))) (v2:=[rz,yP K,fe K (q.Y K).ct]) (h2:=HW x (aA d K ⟨true,(q.Y K).pl,(q.Y K).ct+1,false,(d K).pe,(d K).np⟩) k g o a) λnt=>by
   rw[←D d ⟨true,(q.Y K).pl,(q.Y K).ct+1,(d K).w,(d K).pe,(d K).np⟩ ⟨true,(q.Y K).pl,(q.Y K).ct+1,false,(d K).pe,(d K).np⟩];exact Zs (c:=(bC.mk true (q.Y K).pl ((q.Y K).ct+1) false (d K).pe (d K).np).c) (y:=⟨true,(q.Y K).pl,(q.Y K).ct+1,false,(d K).pe,(d K).np⟩) (.refl _)
  have H:=PI x (aA d K ⟨true,(q.Y K).pl,(q.Y K).ct+1,false,(d K).pe,(d K).np⟩) k g o a K (q.Y K).ct;rw[E] at H;have U:=Pz.post (aP (q.hw x v a) (H.trans (qj (by rw[qN s];rfl) rfl))) (v2:=[rz,fe K (q.Y K).ct]) (h2:=HW x (aA d K (q.Y K).next.y) k g o a) λnt=>by
   rw[←D d ⟨true,(q.Y K).pl,(q.Y K).ct+1,false,(d K).pe,(d K).np⟩ (q.Y K).next.y];exact Zs (c:=[.bool true,iI (q.Y K).pl,iI ((q.Y K).ct+1),.bool false,.ae]) (y:=(q.Y K).next.y) (.rg (.rg (.rg (.rg (.cons (.eZ _ _ (.inl rfl)) .nil)))))
  have S:=aP (q.hw x v a) (PJ (HW x (aA d K (q.Y K).next.y) k g o a) K (q.Y K).ct);exact ao pe (ao V (ao U S))
 have N:=key Y (aA ln K (ln K+1)) (mY L K (ln K) ((q.Y K).lp b []).l) (aA v K (v K+1)) hi rfl rfl;have e2:HW x (aA Y K (q.Y K).next.y) (aA ln K (ln K+1)) (aA v K (v K+1)) (mY L K (ln K) ((q.Y K).lp b []).l) a=(q.loop K b []).hw x (aA v K (v K+1)) a:=PL q x v a K b [];rw[e2] at N;have t:=Pz.fG (A:=ar) qY Tryz.func48 qh qh (l:=lE) rfl (ao pa (ao Z (ao X (ao W N)))) (r:=.agg [uI (u8.wrap (ofNat K+1)),iI (q.Y K).ct]) rfl;rw[h8] at t;exact t
def Me(s:am)(a b c:T)(H:qa):cD 98 [1] lE [a,.agg s.c,b,c] H [0,2,3,5] =
( zN [a,b,c,.ag s.c] H):=qh
def Mf(s:am)(a b c:T)(H:qa):cD 98 eH [0,2,3,5] [a,b,c,.ag s.c] H qe =
( zN [a,b,c,.ag s.c,iI (i64.wrap s.y)] H):=qh
def Mg(s:am)(a b c d:T)(H:qa):cD 98 mQ qe [a,b,c,.ag s.c,d] H [0,2,3,5,9,17] =
( bif decide (s.k=3) then zN [a,b,c,.ag s.c,d,.bool true] H else
 zN [a,b,c,.ag s.c,d,.bool false] H):=qh
def PW(s:am)(a b c d:T)(H:qa):cD 98 s5 qe [a,b,c,.ag s.c,d] H [0,2,3,5,9,26] =
( bif decide (s.k=6) then zN [a,b,c,.ag s.c,d,.bool true] H else
 zN [a,b,c,.ag s.c,d,.bool false] H):=qh
def Wz(s:am)(a b c d:T)(H:qa):cD 98 mP qe [a,b,c,.ag s.c,d] H [0,2,3,9,44] =
( bif decide (s.k=7) then zN [a,b,c,d,.bool true] H else
 zN [a,b,c,d,.bool false] H):=qh
def qwv(a b c d:T)(H:qa):cD 98 [1,1,2,2,2,2,2] tT [a,b,c,d] H gj =
( zN [a,b,c,d,iI 0] H):=qh
def PX(a i:Int):qa:=[.mk 0 2 1 (λj=>[[uI a,iI i]].getD j []) true true none,.mk 0 2 1 (λj=>[[uI 0,.own 26 0 0 1 (some 1)]].getD j []) false true none]
def sa4(w:t7->qa->T->qa->Prop)(q e:Ys)(x:Wx)(v d:Nat->Nat)(r:Rw)(y a i:Int):cK (qt.bW 48 (kH w (L5 a i (e.hw x d (r.h []))))) 98 [1,3,2,1,2,2] [0,9] [p0,iI y] (q.hw x v (r.h [])) [8] =
 (bif qx (w [p0,iI y,uI 0,.ae] (q.hw x v (r.h [])) (.agg [uI a,iI i]) (e.hw x d (r.h []))) then some (.normal,[.own 27 0 0 1 (some 1)],e.hw x d (r.h (PX a i))) else none):=qh
def Hf(o:ap)(f:Nat->ap)(z:qa):qa:=o::f 0::f 1::f 2::f 3::f 4::f 5::f 6::f 7::f 8::f 9::f 10::f 11::f 12::f 13::f 14::f 15::z
def Hg(g:Nat->ap)(o:ap)(f:Nat->ap)(z:qa):qa:=g 0::g 1::g 2::g 3::g 4::g 5::g 6::g 7::g 8::Hf o f z
def fX(f:Nat->ap)(k:Nat)(b:ap)(j:Nat):ap:=bif j==k then b else f j
def tkX(N:Nat)(a i:Int)(l:Nat->aw):ap:=.mk 0 2 N (λj=>bif Nat.ble (0+N) j&&j.blt (0+N+1) then List.map Qk ([[uI a,iI i]].getD (j-(0+N)) []) else(l j).c) true false none
def Fx(N:Nat)(a i:Int)(l:Nat->aw):ap:=.mk 1 2 (N+1) (λj=>bif j.blt N then(l (0+j)).c else List.map Qk ([[uI a,iI i]].getD (j-N) [])) true false none
noncomputable def WA(p q:t7->T->Prop)(c e:T):bv:=(qt.add 24 (qH p λ_=>some c)).add 99 (qH q λ_=>some (.new e))
def Hy(x:Wx)(y:ap)(g:Nat->ap)(o:ap)(f:Nat->ap)(z:qa):qa:=wB x::y::g 2::g 3::g 4::g 5::g 6::g 7::g 8::Hf o f z
def gX(a d:Nat)(sl:List aB):ap:=.mk a 2 d (λj=>(sl.getD j aO).c) false false none
def om(K:Nat):Nat:=0+(yD K).toNat
def sa8(p q:t7->T->Prop)(x:Wx)(Y:Nat->bC)(g:Nat->ap)(o:ap)(f:Nat->ap)(k:Nat)(j:k<16)(a d len K:Nat)(sl:List aB)(l1 l2:List bl)(e:Int) :
 cK (WA p q (lR l1) (lR l2)) 98 [1,3,2,1,2,2,2,2] tT [p0,.own (10+k) a 0 len none,iI e,yK K] (Hy x (yB Y) g o (fX f k (gX a d sl)) []) [2] =
 (bif decide (0<=yD K)&&decide (yD K<6) then bif (om K).blt 6 then bif a==a&&true then bif decide ((0:Int)<ofNat len) then bif a==a&&true then bif Nat.blt 0 d then
  bif qx (p [.agg (sl.getD 0 aO).c,iI e] (lR l1)) then bif qx (q [bY (Y (om K)).pe (Y (om K)).np none,lR l1] (.new (lR l2))) then
  bif decide (0<=yD K)&&decide (yD K<6) then bif (om K).blt 6&&true&&true&&true then
  some (.normal,[.own (10+k) a 0 len none],Hy x (yG Y (om K) [.bool (Y (om K)).i,iI (Y (om K)).pl,iI (Y (om K)).ct,.bool (Y (om K)).w,lR l2]) g o (fX f k (gX a d sl)) [])
  else none else none else none else none else none else none else none else none else none else none):=by
 cases Qb j
 all_goals kernel_rfl
def rwK(d f j:Nat)(sl:List aB)(a b:Int):ap:=.mk d 2 f (λe=>[uI (bif e==0+j then(sl.getD (0+j) aO).b else(sl.getD e aO).b),
 bif e==0+j then .view 2 1 (λj=>[[uI a,iI b]].getD j []) (some 1) else bB (sl.getD e aO).l]) false false none
def dj(j len:Nat):Bool:=decide ((0:Int)<=ofNat j)&&decide (ofNat j<ofNat len)
def qww(w:t7->qa->T->qa->Prop)(g g':Nat->ap)(o:ap)(f:Nat->ap)(k:Nat)(s:k<16)(d e len j:Nat)(sl:List aB)(y a b r i:Int) :
 cK (KG (qt.bW 48 (kH w (L5 a b (Hg g' o (fX f k (gX d e sl)) []))))) 98 qb k5 [p0,.own (10+k) d 0 len none,iI r,iI y,iI i,iI (ofNat j)] (Hg g o (fX f k (gX d e sl)) []) gj =
 (bif d==d&&true then bif dj j len then bif d==d&&true then bif d==d&&true then bif (0+j).blt e then bif d==d&&true then bif dj j len then bif d==d&&true then bif d==d&&true then bif (0+j).blt e then
  bif qx (w (p0::iI y::(sl.getD (0+j) aO).c) (Hg g o (fX f k (gX d e sl)) []) (.agg [uI a,iI b]) (Hg g' o (fX f k (gX d e sl)) [])) then
  bif d==d&&true then bif dj j len then bif d==d&&true then bif d==d&&true then bif (0+j).blt e&&true&&true&&true then
  some (.normal,[p0,.own (10+k) d 0 len none,iI r,iI y,iI i],Hg g' o (fX f k (rwK d e j sl a b)) [])
  else none else none else none else none else none else none else none else none else none else none else none else none else none else none else none else none):=by
 cases Qb s
 all_goals kernel_rfl
def qwx(k v len:Nat)(H:qa):cD 98 [2,3,2,1,2,2] [8] [.own k v 0 len none] H [8] =
( zR [.own k v 0 len
 none] H):=qh
def qwy(k v len:Nat)(H:qa):cD 98 [2,3,2,1,2,2,2] [2] [.own k v 0 len none] H [8] =
( zR [.own k v 0 len
 none] H):=qh
def qwz(k v len:Nat)(H:qa):cD 98 [2,3,2,1,2,2,2,2] [2] [.own k v 0 len none] H [8] =
( zR [.own k v 0 len
 none] H):=qh
def qwA(k v len:Nat)(H:qa):cD 98 sw [2] [.own k v 0 len none] H [8] =
( zR [.own k v 0 len
 none] H):=qh
def qwB(a b c d:T)(i:Int)(H:qa):cD 98 [1,0,1,2,0,0,2,1,2,2,2,2,2] gj [a,b,c,d,iI i] H k5 =
( zN [a,b,c,d,iI i,iI i] H):=qh
def qwC(a b c d:T)(i:Nat)(H:qa):cD 98 [2,2,0,0,2,1,2,2,2,2,2] gj [a,b,c,d,iI (ofNat i)] H gj =
( zN [a,b,c,d,iI (i64.wrap (ofNat i+1))] H):=qh
def PY(a b c s d e:T)(H:qa):cD 98 [4,2,1,2,2] [0,2,3,5,9,17] [a,b,c,s,d,e] H qe =
( zN [a,b,c,s,d] H):=qh
def WB(a b c s d e:T)(H:qa):cD 98 [4,2,1,2,2,2] [0,2,3,5,9,26] [a,b,c,s,d,e] H qe =
( zN [a,b,c,s,d] H):=qh
def qwD(a b c d e:T)(H:qa):cD 98 [4,2,1,2,2,2,2] [0,2,3,9,44] [a,b,c,d,e] H tT =
( zN [a,b,c,d] H):=qh
def qwE(a c d:T)(g:Nat->ap)(o:ap)(f:Nat->ap)(k:Nat)(r:k<16)(e j len i:Nat)(sl:List aB)(z:qa) :
 cD 98 [1,0,0,2,1,2,2,2,2,2] gj [a,.own (10+k) e 0 len none,c,d,iI (ofNat i)] (Hg g o (fX f k (gX e j sl)) z) gj =
 (bif e==e&&true then bif decide (ofNat i<ofNat len) then some (.normal,[a,.own (10+k) e 0 len none,c,d,iI (ofNat i)],Hg g o (fX f k (gX e j sl)) z)
  else some (.exit 0,[a,.own (10+k) e 0 len none,c,d,iI (ofNat i)],Hg g o (fX f k (gX e j sl)) z) else none):=by
 cases Qb r
 all_goals kernel_rfl
def qtc(a c d:T)(g:Nat->ap)(o:ap)(f:Nat->ap)(k:Nat)(r:k<16)(e j len i:Nat)(sl:List aB)(z:qa) :
 cD 98 [1,0,0,2,1,2,2,2,2,2] gj [a,.own (10+k) e 0 len none,c,d,iI (ofNat i)] (Hg g o (fX f k (gX e j sl)) z) [2] =
 (bif e==e&&true then bif decide (ofNat i<ofNat len) then some (.normal,[.own (10+k) e 0 len none],Hg g o (fX f k (gX e j sl)) z)
  else some (.exit 0,[.own (10+k) e 0 len none],Hg g o (fX f k (gX e j sl)) z) else none):=by
 cases Qb r
 all_goals kernel_rfl
def qwF(a d:T)(r i j:Int)(g:Nat->ap)(o:ap)(f:Nat->ap)(k:Nat)(u:k<16)(e s len:Nat)(sl:List aB)(z:qa) :
 cD 98 p9 k5 [a,.own (10+k) e 0 len none,iI r,d,iI i,iI j] (Hg g o (fX f k (gX e s sl)) z) k5 =
 (bif decide (r=0) then bif e==e&&true then some (.normal,[a,.own (10+k) e 0 len none,iI r,d,iI i,iI (i64.wrap (i64.wrap (ofNat len-1)-i))],Hg g o (fX f k (gX e s sl)) z) else none
  else some (.normal,[a,.own (10+k) e 0 len none,iI r,d,iI i,iI j],Hg g o (fX f k (gX e s sl)) z)):=by
 cases Qb u
 all_goals kernel_rfl
def Hl(l:List bl):Prop:=∀p∈l,p.d=0∨p.d=1
def qox{p q:bl}(hp:p.d=0∨p.d=1)(a:q.d=0∨q.d=1):AS p q=sm p q:=by
 unfold AS sm;rcases hp with h|h<;>rcases a with k|k<;>rw[h,k]<;>cases decide (p.y=q.y)<;>cases decide (p.n=q.n)<;>cases p.f<;>cases q.f<;>rfl
def qoy{l:List bl}{p:bl}(a:Hl l)(hp:p.d=0∨p.d=1):Hl (n6 l p):=by
 unfold n6;split
 .exact λx hx=>a x (List.dropLast_subset l hx)
 .intro x hx;rcases wS.1 hx with h|h
  .exact a x h
  grind
def qmt{l:List bl}{p:bl}(e:Hl l)(hp:p.d=0∨p.d=1):KZ l p=n6 l p:=by
 unfold KZ n6;by_cases h:0<l.length
 ·have a:l.getD (l.length-1) dV∈l:=by
   rw[wg,wi ab];exact xI _
  rw[qox (e _ a) hp]
 grind
def WC:∀(m l:List bl),Hl l->Hl m->Zt l m=yV l m
 |[],_,_,_=>rfl
 |p::m,l,e,d=>by
  have a:=d p aq;show Zt (KZ l p) m=yV (n6 l p) m;rw[qmt e a];exact WC m (n6 l p) (qoy e a) λx hx=>d x (by simp[hx])
def qoz(l:List bl)(p:bl):(n6 l p).length<=l.length+1:=by
 grind[n6]
def WD:∀(m l:List bl),(yV l m).length<=l.length+m.length
 |[],_=>wc _
 |p::m,l=>by
  have h:=WD m (n6 l p);have a:=qoz l p;show(yV (n6 l p) m).length<=l.length+(m.length+1);omega
def z8(s:aB)(right:Bool):List bl:=bif right then s.l.map (λi=>⟨i.y,i.n,decide (s.b=1),1⟩) else s.l.reverse.map (λi=>⟨i.y,i.n,decide (s.b=1),0⟩)
def zj(s:am):Int:=if s.k=2∨s.k=5 then 1 else 0
def Eg(f:Bool):Int:=if f then 1 else -1
def KJ(l r:List aB):List (aw×aw):=l.flatMap λa=>r.flatMap λb=>a.l.flatMap λx=>b.l.map λy=>(x,y)
def Fy(c:List aU)(l r:List aB)(s:Int):List aU:=(KJ l r).foldl (λc p=>Z0 c p.1 p.2 s) c
def fI(s:am)(S:List aB):List aB:=(S.take s.nN).map λx=>⟨zj s,x.l⟩
def lI(s:am)(l:List aB):List aB :=
 if s.k=4∨s.k=5 then [⟨zj s,(l.map aB.l).flatten⟩] else if s.k=8 then l.drop s.a.toNat++l.take s.a.toNat else l
def tH(s:am)(l:List aB)(c:List aU):List aU:=if s.k=8 then Fy c (l.take s.a.toNat) (l.drop s.a.toNat) (Eg s.f) else c
def lJ(q:Ys)(K:Nat):aw:=⟨ofNat K+1,(q.Y K).ct⟩
def Ys.e8(q:Ys)(K:Nat)(m:List bl):Ys:=q.dp K ⟨(q.Y K).i,(q.Y K).pl,(q.Y K).ct,(q.Y K).w,Zt (q.Y K).pe m⟩
def lK(K:Nat):Ys->List aB->Ys×List aB
 |q,[]=>(q,[])
 |q,s::l=>((lK K (q.loop K s.b s.l) l).1,⟨s.b,[lJ q K]⟩::(lK K (q.loop K s.b s.l) l).2)
def BD(K:Nat)(right:Bool)(q:Ys)(l:List aB):Ys×List aB:=bif right then lK K q l else((lK K q l.reverse).1,(lK K q l.reverse).2.reverse)
def oq(K:Nat)(right:Bool)(s:am)(q:Ys)(l:List aB):Ys×List aB :=
 if s.k=3 then(q.loop K 0 [],[⟨0,[lJ q K]⟩]) else
 if s.k=6 then(q.loop K 0 [],match l with|[]=>[]|a::t=>⟨a.b,a.l++[lJ q K]⟩::t) else
 if s.k=7 then(q.e8 K (z8 (l.getD 0 aO) right),l) else BD K right q l
def BE(K:Nat)(right:Bool)(q:Ys)(l:List aB):Ys:=(bif right then l else l.reverse).foldl (λq s=>q.e8 K (z8 s right)) q
def ly(K:Nat)(right a:Bool)(s:am)(q:Ys)(l:List aB):Ys×List aB:=if a=true/\s.y=ofNat K+1 then oq K right s q l else(BE K right q l,l)
def me(K:Nat)(right a:Bool):Ys->List (am×List aB)->Ys×List (List aB)
 |q,[]=>(q,[])
 |q,(s,l)::t=>((me K right a (ly K right a s q l).1 t).1,(ly K right a s q l).2::(me K right a (ly K right a s q l).1 t).2)
def mu(K:Nat)(right d:Bool)(row:List am)(q:Ys)(a:List (List aB)):Ys×List (List aB) :=
 bif right then me K right d q (row.zip a) else((me K right d q (row.zip a).reverse).1,(me K right d q (row.zip a).reverse).2.reverse)
def zi(right:Bool):Int:=if right then 179 else -13
def Jv(row:List am)(K:Nat):Bool:=row.any λs=>decide (s.y=ofNat K+1)
def iy(row:List am)(right:Bool)(p:Ys×List (List aB))(K:Nat):Ys×List (List aB) :=
 if Jv row K=false then p else
 let a:Ys:=if (p.1.Y K).i=false then p.1.dp K ⟨true,zi (!right),(p.1.Y K).ct,true,(p.1.Y K).pe⟩ else p.1
 let d:Ys:=if (a.Y K).pl≠zi (!right) then(mu K (!right) false row a p.2).1 else a
 let r:=mu K right true row d p.2
 (r.1.dp K ⟨(r.1.Y K).i,zi right,(r.1.Y K).ct,(r.1.Y K).w,(r.1.Y K).pe⟩,r.2)
def rI(right:Bool):Int:=bif right then 1 else 0
def WE(b r:Int)(l:List aw):∀i,jE b r l i=(List.range i).map λj=>tD b r (l.getD (if r=0 then l.length-1-j else j) bA)
 |0=>rfl
 |i+1=>by
  rw[vV,vh,←WE b r l i];rfl
def WF{α:Type}(l:List α)(d:α):(List.range l.length).map (λj=>l.getD j d)=l:=by
 refine List.ext_getElem? λi=>?_;rw[wE];grind
def qmu{α:Type}(l:List α)(d:α)(j:Nat)(h:j<l.length):l.reverse.getD j d=l.getD (l.length-1-j) d:=by
 rw[wg,wg,xO h]
def WG(s:aB)(right:Bool):jE s.b (rI right) s.l s.l.length=z8 s right:=by
 rw[WE];cases right with
 |true =>
  have e:(List.range s.l.length).map (λj=>tD s.b (rI true) (s.l.getD (if rI true=0 then s.l.length-1-j else j) bA))=((List.range s.l.length).map λj=>s.l.getD j bA).map λi=>tD s.b 1 i:=by
   rw[List.map_map];rfl
  rw[e,WF];rfl
 |false =>
  have e:(List.range s.l.length).map (λj=>tD s.b (rI false) (s.l.getD (if rI false=0 then s.l.length-1-j else j) bA))=((List.range s.l.reverse.length).map λj=>s.l.reverse.getD j bA).map λi=>tD s.b 0 i:=by
   rw[List.map_map,xf];exact ve λj a=>by
    have a:=xk.1 a;show tD s.b 0 (s.l.getD (if (0:Int)=0 then s.l.length-1-j else j) bA)=tD s.b 0 (s.l.reverse.getD j bA);rw[wl rfl,qmu _ _ _ a]
  rw[e,WF];rfl
def gJ(q:Ys)(K B:Nat):Prop:=(q.Y K).i=true/\0<=(q.Y K).ct/\(q.Y K).ct+B<1000000/\(q.tb K).length+B<=1000000/\(q.Y K).pe.length+B<=1000000
def Yg{α}(f)(K)(z:α):aA f K z K=z:=wl rfl
def gJ.loop{q}{K B}(h:gJ q K (B+1))(b)(th):gJ (q.loop K b th) K B:=by
 obtain⟨j,i,g,f,e⟩:=h;have d:(q.loop K b th).Y K=(q.Y K).next:=Yg _ _ _
 have a:(q.loop K b th).tb K=q.tb K++[(q.Y K).lp b th]:=Yg _ _ _;unfold gJ;rw[d,a,wC];refine⟨rfl,?_,?_,?_,?_⟩
 .show 0<=(q.Y K).ct+1;omega
 .show(q.Y K).ct+1+B<_;omega
 .grind
 .show 0+B<=_;omega
def gJ.mono{q}{K B C}(h:gJ q K B)(e:C<=B):gJ q K C:=by
 obtain⟨d,a,i,g,f⟩:=h;exact⟨d,a,ab,ab,ab⟩
def qmv(l)(p):(KZ l p).length<=l.length+1:=by
 grind[KZ]
def WH:∀(m l:List bl),(Zt l m).length<=l.length+m.length
 |[],l=>wc _
 |p::m,l=>by
  have:=WH m (KZ l p);have a:=qmv l p;show(Zt _ m).length<=_;rw[vc];omega
def gJ.e8{q}{K B}{m}(h:gJ q K (B+m.length)):gJ (q.e8 K m) K B:=by
 obtain⟨d,a,j,g,f⟩:=h;have e:(q.e8 K m).Y K=⟨(q.Y K).i,(q.Y K).pl,(q.Y K).ct,(q.Y K).w,Zt (q.Y K).pe m⟩:=Yg _ _ _;have:=WH m (q.Y K).pe;unfold gJ;rw[e];exact⟨d,a,rx,by show(q.tb K).length+_<=_;omega,rx⟩
section
variable (q:Ys) (x:Wx) (hx:x.Im) (v:Nat->Nat) (r:Rw) (hr:r.n<=16) (K:Nat) (hK:K<6)
include hx hr hK
def mdT(h:gJ q K 1):aR au G16 48 [p0,yK K,uI 0,.ae] (q.hw x v (r.h [])) (.agg [uI (ofNat K+1),iI (q.Y K).ct]) ((q.loop K 0 []).hw x (aA v K (v K+1)) (r.h [])):=by
 obtain⟨d,a,g,f,e⟩:=h;by_cases c:(q.Y K).pe=[]
 .exact PM q x v _ K 0 hK c d a ab ab
 .exact Wy q x hx v r hr K 0 hK [] .ae (.inl ⟨rfl,rfl,c⟩) d a ab ab aq ab
def qwG(d)(a)(h:gJ q K 1):aR au G16 48 [p0,yK K,uI 0,.ae] (q.hw x v (r.h [mL d a])) (.agg [uI (ofNat K+1),iI (q.Y K).ct]) ((q.loop K 0 []).hw x (aA v K (v K+1)) (r.h [mL d a])):=by
 obtain⟨f,e,j,i,g⟩:=h;by_cases c:(q.Y K).pe=[]
 .exact PM q x v _ K 0 hK c f e ab ab
 .exact qqL q x hx v r hr K 0 hK d a c f e ab ab ab
end
def AV(s:t8):t8:=List.range 26++s
def WI(s)(r:Rw)(h)(j)(a:j<16):[T.own (10+j) (r.vs j) 0 (r.sl j).length none]=[T.own (10+j) (r.vs j) 0 (r.sl j).length none].map (qO (AV s) h):=by
 cases Qb a
 all_goals rfl
def WJ(s)(ln v)(h)(e)(he:e<6):(tB ln v).get e=((tB ln v).get e).map (qO (AV s) h):=by
 cases ZH he
 all_goals rfl
def WK(s)(x:Wx)(hx:x.Im)(h):[x.sl,.own 1 0 0 6 none,.own 2 0 0 6 none,x.cr,x.he,x.fa,uI x.d]=[x.sl,.own 1 0 0 6 none,.own 2 0 0 6 none,x.cr,x.he,x.fa,uI x.d].map (qO (AV s) h):=by
 show _=[qO (AV s) h x.sl,.own 1 0 0 6 none,.own 2 0 0 6 none,qO (AV s) h x.cr,qO (AV s) h x.he,qO (AV s) h x.fa,uI x.d];rw[ZC hx.sl,ZC hx.cr,ZC hx.he,ZC hx.fa]
def bg.pre:∀(p:qa) {h h2:qa},bg h h2->bg (p++h) (p++h2)
 |[],_,_,a=>a
 |b::p,_,_,a=>.cons ⟨rfl,rfl,rfl⟩ (λh=>⟨h,λ_ _=>rfl⟩) (λ_ _=>.refl _) (bg.pre p a)
def WL(q:Ys)(x)(v)(r:Rw)(z):q.hw x v (r.h z)=q.hw x v (r.h [])++z:=rfl
def Hm(q:Ys)(K:Nat):ap:=.mk 0 2 1 (λj=>(([⟨0,[lJ q K]⟩]:List aB).getD j aO).c) false false none
def o27:T:=.own 27 0 0 1 (some 1)
def qqN{aa:t8}{nt:Nat}(q:Ys)(x)(hx:x.Im)(v:Nat->Nat)(r:Rw)(hr:r.n<=16)(a i:Int)(f:aw)(g:f=⟨a,i⟩) :
 ak G16 aa nt [8] 26 [o27] (q.hw x v (r.h (PX a i))) [.own 26 0 0 1 none] (q.hw x v (r.h [.mk 0 2 1 (λj=>(([⟨0,[f]⟩]:List aB).getD j aO).c) false false none])):=by
 have u:=WK [27] x hx;have s:=λh e (he:e<6)=>WJ [27] (λe=>(q.tb e).length) v h e he;have o:=λh j (d:j<r.n)=>WI [27] r h j ab;have k:∀(h:qa) (j:Nat),j<1->([[uI 0,.own 26 0 0 1 (some 1)]].getD j []).map (qO (AV [27]) (q.hw x v (r.h (PX a i))))=[uI 0,.view 2 1 (λj=>[[uI a,iI i]].getD (0+j) []) (some 1)]:=λh j d=>by
  obtain rfl:j=0:=vQ.1 d;rfl
 refine .trans (ak.cu (aW:=[.own 26 0 0 1 (some 1)]) (h':=q.hw x v (r.h [.mk 0 2 1 (λ_=>[uI 0,.view 2 1 (λj=>[[uI a,iI i]].getD (0+j) []) (some 1)]) false false none])) (AV [27]) rfl rfl rfl ?_) ?_
 .refine .cons ⟨rfl,rfl,rfl,λh=>h,λ_ _=>u _⟩ ?_ rfl
  repeat (first|exact .nil|refine .cons ⟨rfl,rfl,rfl,λh=>h,λ_ _=>rfl⟩ ?_ rfl|refine .cons ⟨rfl,rfl,rfl,λh=>h,λj d=>s _ j d⟩ ?_ rfl|refine .cons ⟨rfl,rfl,rfl,λh=>h,λj d=>o _ j d⟩ ?_ rfl|refine .cons ⟨rfl,rfl,rfl,(λh=>by cases h),λj d=>(k [] j d).symm⟩ ?_ rfl)
 .refine .trans (.cap (.cons (.own rfl (wc _)) .nil)) ?_;rw[WL,WL q x v r [.mk 0 2 1 (λj=>(([⟨0,[f]⟩]:List aB).getD j aO).c) false false none]];refine .sl (.rg .nil) (bg.pre _ (.cons ⟨rfl,rfl,rfl⟩ (λh=>by cases h) (λj d=>?_) (.refl _)));obtain rfl:j=0:=vQ.1 d;refine .rg (.cons (.view (.inr rfl) λj d=>?_) .nil);obtain rfl:j=0:=vQ.1 d;rw[g];exact .refl _
def Mh{q}{K B}(h:gJ q K B)(hK:K<6){s:am}(a:s.y=ofNat K+1):iI (i64.wrap s.y)=yK K:=by
 rw[a,Qv bP bP];rfl
def qoA(q)(x:Wx)(hx:x.Im)(v:Nat->Nat)(r:Rw)(hr:r.n<=16)(K:Nat)(hK:K<6)(s:am)(C:s.y=ofNat K+1)(E:s.k=3)(gm:gJ q K 1)(a:Int)(t:T) :
 aR au G16 98 [p0,.agg s.c,t,iI a] (q.hw x v (r.h [])) (.own 26 0 0 1 none) ((q.loop K 0 []).hw x (aA v K (v K+1)) (r.h [Hm q K])):=by
 obtain⟨w,hw⟩:=ZY au G16 48;have run:=λ{p l f h B g D e} (k:cD 98 p l f h B=some (e,g,D))=>aP (q.hw x v (r.h [])) k
 let H:qa:=q.hw x v (r.h [])
 have u:=run (Me s p0 t (iI a) H);have d:=run (Mf s p0 t (iI a) H);rw[Mh gm hK C] at d;have o:=run ((Mg s p0 t (iI a) (yK K) H).trans (qj (wt E) rfl));have j:Pq 98 H [1,3,2,1,2,2] [0,9] [p0,yK K] H .normal [8] [.own 26 0 0 1 none] ((q.loop K 0 []).hw x (aA v K (v K+1)) (r.h [Hm q K])) :=
  Pz.post (bR (qA qm (Qy hw)) H
   ((sa4 w q (q.loop K 0 []) x v (aA v K (v K+1)) r (ofNat K+1) (ofNat K+1) (q.Y K).ct).trans (qj (QR hw (mdT q x hx v r hr K hK gm)) rfl))) λnt=>qqN (q.loop K 0 []) x hx _ r hr _ _ _ rfl
 have i:=run (qwx 26 0 1 ((q.loop K 0 []).hw x (aA v K (v K+1)) (r.h [Hm q K])));exact Pz.fG (A:=ar) qY Tryz.func98 qh qh (l:=lE) rfl
  (ao u (ao d (ed (ao o (Pz.im 17 qh rfl (Pz.drop rfl (ao j i))))))) rfl
def Rw.gu(r:Rw)(k:Nat)(l:List aB):Rw:={ r with sl:=aA r.sl k l }
def gq(q:Ys)(x:Wx)(v:Nat->Nat)(j:Nat):ap :=
 match j with
 |0=>wB x
 |1=>yB λe=>(q.Y e).y
 |2=>tB (λe=>(q.tb e).length) v
 |j+3=>rB (λe=>(q.tb e).length) v (λe j=>((q.tb e).getD j dP).l) j
def P0(q:Ys)(x)(v)(r:Rw)(z:qa):q.hw x v (r.h z)=Hg (gq q x v) r.out r.row z:=rfl
def Mi(r:Rw)(k):fX r.row k (gX (r.vs k) (r.bn k) (r.sl k))=r.row:=funext λj=>by
 show(bif j==k then _ else _)=_;by_cases c:j=k
 .rw[c,wF];rfl
 grind
def WM{r:Rw}{k}{l:List aB}(a:l.length=(r.sl k).length):(r.gu k l).out=r.out/\(r.gu k l).row=fX r.row k (gX (r.vs k) (r.bn k) l):=by
 refine⟨?_,funext λj=>?_⟩
 ·have e:(λj=>[T.own (10+j) (r.vs j) 0 (aA r.sl k l j).length none])=λj=>[T.own (10+j) (r.vs j) 0 (r.sl j).length none]:=funext λj=>by
   grind[aA]
  show ap.mk r.o 1 r.n _ false false none=ap.mk r.o 1 r.n _ false false none;rw[show(λj=>[T.own (10+j) ((r.gu k l).vs j) 0 ((r.gu k l).sl j).length none])=λj=>[T.own (10+j) (r.vs j) 0 (aA r.sl k l j).length none] from rfl,e]
 .show ap.mk (r.vs j) 2 (r.bn j) (λe=>((aA r.sl k l j).getD e aO).c) false false none=bif j==k then _ else _;unfold aA;by_cases c:j=k
  .rw[wl c,c,wF];rfl
  .rw[wh c,show(j==k)=false by grind];rfl
def P1(q:Ys)(x)(v)(r:Rw)(k:Nat)(z:qa):q.hw x v (r.h z)=Hg (gq q x v) r.out (fX r.row k (gX (r.vs k) (r.bn k) (r.sl k))) z:=by
 rw[Mi];rfl
def P2(q:Ys)(x)(v:Nat->Nat){r:Rw}{k:Nat}{l:List aB}(a:l.length=(r.sl k).length)(z:qa):q.hw x v ((r.gu k l).h z)=Hg (gq q x v) r.out (fX r.row k (gX (r.vs k) (r.bn k) l)) z:=by
 obtain⟨e,d⟩:=WM a;rw[P0,e,d]
def WN(g)(o)(f)(k)(b b2)(z)(h1:b2.aj=b.aj/\b2.sz=b.sz/\b2.n=b.n)(e:b2.flat=false)(i:b2.mp=b.mp)(r:∀j,j<b.n->eX (b.get j) (b2.get j)):bg (Hg g o (fX f k b) z) (Hg g o (fX f k b2) z):=by
 have same:∀(b:ap) {h a:qa},bg h a->bg (b::h) (b::a):=λb _ _ d=>.cons ⟨rfl,rfl,rfl⟩ (λh=>⟨h,λ_ _=>rfl⟩) (λ_ _=>.refl _) d;have step:∀j {h a:qa},bg h a->bg (fX f k b j::h) (fX f k b2 j::a):=λj _ _ d=>by
  unfold fX;cases j==k with
  |true=>exact .cons h1 (λh=>by rw[show b2.flat=true from h] at e;cases e) r d i
  |false=>grind
 refine same _ (same _ (same _ (same _ (same _ (same _ (same _ (same _ (same _ (same _ ?_)))))))));exact step 0 (step 1 (step 2 (step 3 (step 4 (step 5 (step 6 (step 7 (step 8 (step 9 (step 10 (step 11 (step 12 (step 13 (step 14 (step 15 (.refl z))))))))))))))))
def Dk(a e n:Nat)(d:Nat->aw)(sl:List aB):ap:=.mk a 2 e (λj=>[uI (sl.getD j aO).b,bif j==0 then aX d (n+1) none else bB (sl.getD j aO).l]) false false none
def qtd(a d)(s)(t)(n)(h:s.l.length=n+1):gX a d (s::t)=Dk a d n (λi=>s.l.getD i bA) (s::t):=by
 unfold gX Dk;congr 1;refine funext λj=>?_;cases j with
 |zero=>show [_,bB s.l]=_;grind[bB]
 |succ j=>rfl
def Fz(a f n:Nat)(c:T)(d:Nat->aw)(sl:List aB):ap:=.mk a 2 f (λe=>[uI (bif e==0 then(sl.getD 0 aO).b else(sl.getD e aO).b),bif e==0 then c else(bif e==0 then aX d (n+1) none else bB (sl.getD e aO).l)]) false false none
def qwH(w)(g g')(o)(f)(k:Nat)(r:k<16)(d j len n:Nat)(e:Nat->aw)(sl:List aB)(y a i:Int) :
 cK (KG (qt.bW 48 (kH w (L5 a i (Hg g' o (fX f k (Dk d j n e sl)) [mL (0+(n+1)) e]))))) 98 [1,3,2,1,2,2,2] [0,2,9] [p0,.own (10+k) d 0 len none,iI y] (Hg g o (fX f k (Dk d j n e sl)) []) [2] =
 (bif d==d&&true then bif decide ((0:Int)<ofNat len) then bif d==d&&true then bif d==d&&true then bif Nat.blt 0 j then bif Nat.blt 0 (0+(n+1))&&((0+(n+1))*17).ble 70368744177664 then
  bif qx (w [p0,iI y,uI 0,.ae] (Hg g o (fX f k (Dk d j n e sl)) [mL (0+(n+1)) e]) (.agg [uI a,iI i]) (Hg g' o (fX f k (Dk d j n e sl)) [mL (0+(n+1)) e])) then
  bif (0+(0+(n+1))).ble (0+(n+1)) then bif ((0+(n+1)+1)*17).ble 70368744177664 then bif (0+(0+(n+1))+1).ble (0+(n+1)) then
   bif d==d&&true then bif decide ((0:Int)<ofNat len) then bif d==d&&true then bif d==d&&true then bif Nat.blt 0 j&&true&&true&&true then some (.normal,[.own (10+k) d 0 len none],Hg g' o (fX f k (Fz d j n (.own 26 0 0 (0+(n+1)+1) none) e sl)) [tkX (0+(n+1)) a i e]) else none else none else none else none else none
  else bif d==d&&true then bif decide ((0:Int)<ofNat len) then bif d==d&&true then bif d==d&&true then bif Nat.blt 0 j&&true&&true&&true then some (.normal,[.own (10+k) d 0 len none],Hg g' o (fX f k (Fz d j n (.own 26 1 0 (0+(n+1)+1) none) e sl)) [Fx (0+(n+1)) a i e]) else none else none else none else none else none
  else none else none else none else none else none else none else none else none else none):=by
 cases Qb r
 all_goals kernel_rfl
def qqP{aa:t8}{nt:Nat}(q:Ys)(x:Wx)(hx:x.Im)(v:Nat->Nat)(r:Rw)(hr:r.n<=16)(k:Nat)(u:k<16)(o s len n:Nat)(A:s=1)(d:Nat->aw)(sl:List aB)(a i:Int) :
 ak G16 aa nt [2] 26 [.own (10+k) o 0 len none] (Hg (gq q x v) r.out (fX r.row k (Fz o s n (.own 26 1 0 (0+(n+1)+1) none) d sl)) [Fx (0+(n+1)) a i d])
  [.own (10+k) o 0 len none] (Hg (gq q x v) r.out (fX r.row k (Fz o s n (.view 2 (0+(n+1)+1) (λe=>(Fx (0+(n+1)) a i d).get (0+e)) none) d sl)) []):=by
 subst A;have E:=WK [] x hx;have D:=λh e (he:e<6)=>WJ [] (λe=>(q.tb e).length) v h e he;have C:=λh j (g:j<r.n)=>WI [] r h j ab;have B:∀f:Nat->ap,∀j,j<1->((Fz o 1 n (.view 2 (0+(n+1)+1) (λe=>(Fx (0+(n+1)) a i d).get (0+e)) none) d sl).get j)=((Fz o 1 n (.own 26 1 0 (0+(n+1)+1) none) d sl).get j).map (qO (AV []) (Hg (gq q x v) r.out f [Fx (0+(n+1)) a i d])):=λf j g=>by
  obtain rfl:j=0:=vQ.1 g;show [_,T.view _ _ _ _]=[_,bif (1:Nat)==1&&Nat.ble (0+(0+(n+1)+1)) (0+(n+1)+1) then T.view 2 (0+(n+1)+1) (λe=>(Fx (0+(n+1)) a i d).get (0+e)) none else T.undef];rw[qR ab];rfl
 cases Qb u
 all_goals
  refine ak.cu (AV []) rfl rfl rfl (.cons ⟨rfl,rfl,rfl,λh=>h,λ_ _=>E _⟩ ?_ rfl)
  repeat (first|exact .nil|refine .cons ⟨rfl,rfl,rfl,λh=>h,λ_ _=>rfl⟩ ?_ rfl|refine .cons ⟨rfl,rfl,rfl,λh=>h,λj g=>D _ j g⟩ ?_ rfl|refine .cons ⟨rfl,rfl,rfl,λh=>h,λj g=>C _ j g⟩ ?_ rfl|refine .cons ⟨rfl,rfl,rfl,λh=>h,λj g=>B _ j g⟩ ?_ rfl)
def qoB(q:Ys)(x:Wx)(hx:x.Im)(v:Nat->Nat)(r:Rw)(hr:r.n<=16)(K:Nat)(J:K<6)(s:am)(S:s.y=ofNat K+1)(U:s.k=6)(gm:gJ q K 1)(a:Int)(k:Nat)(D:k<16)(sl:aB)(e:r.sl k=[sl])(I:r.bn k=1)(h0:0<sl.l.length)(h1:sl.l.length<=1000) :
 aR au G16 98 [p0,.agg s.c,.own (10+k) (r.vs k) 0 1 none,iI a] (q.hw x v (r.h [])) (.own (10+k) (r.vs k) 0 1 none) ((q.loop K 0 []).hw x (aA v K (v K+1)) ((r.gu k [⟨sl.b,sl.l++[lJ q K]⟩]).h [])):=by
 obtain⟨w,hw⟩:=ZY au G16 48
 let H:qa:=q.hw x v (r.h [])
 let g:Ys:=q.loop K 0 []
 let f:Nat->Nat:=aA v K (v K+1)
 have run:=λ{p l vs h R L h1 e} (k:cD 98 p l vs h R=some (e,L,h1))=>aP H k;obtain⟨n,hn⟩:∃n,sl.l.length=n+1:=⟨sl.l.length-1,ab⟩
 let d:Nat->aw:=λi=>sl.l.getD i bA
 let t:T:=.own (10+k) (r.vs k) 0 1 none
 have Q:=run (Me s p0 t (iI a) H);have C:=run (Mf s p0 t (iI a) H);rw[Mh gm J S] at C;have P:=run ((Mg s p0 t (iI a) (yK K) H).trans (qB (gW ab) rfl));have O:=run (PY p0 t (iI a) (.ag s.c) (yK K) (.bool false) H);have N:=run ((PW s p0 t (iI a) (yK K) H).trans (qj (wt U) rfl));have o:∀(q:Ys) (v:Nat->Nat) z,q.hw x v (r.h z)=Hg (gq q x v) r.out (fX r.row k (Dk (r.vs k) 1 n d [sl])) z:=λq v z=>by
  rw[P1 q x v r k z,e,I,qtd _ _ sl [] n hn]
 have u:=qwG q x hx v r hr K J (0+(n+1)) d gm;rw[o,o] at u;have B:Pq 98 H [1,3,2,1,2,2,2] [0,2,9] [p0,t,yK K] (Hg (gq q x v) r.out (fX r.row k (Dk (r.vs k) 1 n d [sl])) []) .normal [2] [t] (g.hw x f ((r.gu k [⟨sl.b,sl.l++[lJ q K]⟩]).h [])) :=
  Pz.post (bR (qA (qA qm (Qy hw)) (λ_ _ _ _ h=>(by cases h))) H
   ((qwH w (gq q x v) (gq g x f) r.out r.row k D (r.vs k) 1 1 n d [sl] (ofNat K+1) (ofNat K+1) (q.Y K).ct).trans
     (qj aq (qj rfl (qj aq (qj aq (qj rfl (qj (by rw[qN ab,qR ab];rfl) (qj (QR hw u) (qj (qR ab) (qj (qR ab) (qB (by rw[ZE ab];simp)
      (qj aq (qj rfl (qj aq (qj aq (qj rfl rfl))))))))))))))))) λnt=>by
   refine .trans (qqP g x hx f r hr k D (r.vs k) 1 1 n rfl d [sl] _ _) ?_;rw[P2 g x f (by rw[e];rfl),I];refine .sl (.rg .nil) (WN _ _ _ _ _ _ _ ⟨rfl,rfl,rfl⟩ rfl rfl λj E=>?_);obtain rfl:j=0:=vQ.1 E;refine .rg (.cons ?_ .nil);show bU (.view 2 (0+(n+1)+1) _ none) (bB (sl.l++[lJ q K]));unfold bB aX;rw[show(sl.l++[lJ q K]).length=0+(n+1)+1 by simp[hn]];refine .view (.inr rfl) λj E=>?_;show cH (bif (0+j).blt (0+(n+1)) then(d (0+(0+j))).c else List.map Qk ([[uI (ofNat K+1),iI (q.Y K).ct]].getD (0+j-(0+(n+1))) [])) ((sl.l++[lJ q K]).getD j bA).c;rw[zS];by_cases c:j=sl.l.length
   .rw[wl c,QZ ab,c,hn];simp only[wo,va];exact .refl _
   .rw[wh c,qN ab];simp only[wo];exact .refl _
 have M:=run (qwy (10+k) (r.vs k) 1 (g.hw x f ((r.gu k [⟨sl.b,sl.l++[lJ q K]⟩]).h [])));rw[←o] at B;exact Pz.fG (A:=ar) qY Tryz.func98 qh qh (l:=lE) rfl
  (ao Q (ao C (ao (ao P (Pz.fU 17 qh rfl O))
   (ed (ao N (Pz.im 26 qh rfl (Pz.drop rfl (ao B M)))))))) rfl
def P3(q:Ys)(x:Wx)(v:Nat->Nat)(K:Nat)(z:Yn)(rest:qa):HW x (aA (λe=>(q.Y e).y) K z.y) (λe=>(q.tb e).length) v (λe j=>((q.tb e).getD j dP).l) rest=(q.dp K z).hw x v rest:=by
 have e:aA (λe=>(q.Y e).y) K z.y=λe=>((q.dp K z).Y e).y:=funext λe=>by
  show(if e=K then z.y else(q.Y e).y)=(aA q.Y K z e).y;grind[aA]
 rw[e];rfl
def P4{K:Nat}(a:K<6):yD K=ofNat K/\om K=K:=by
 have d:yD K=ofNat K:=by
  unfold yD;rw[show ofNat K+1-1=ofNat K by omega,Qv bP bP]
 grind[om]
def qoC(q:Ys)(x:Wx)(v:Nat->Nat)(r:Rw)(K:Nat)(d:K<6)(s:am)(V:s.y=ofNat K+1)(f:s.k=7)(gm:gJ q K 1)(right:Bool)(k:Nat)(W:k<16)(len:Nat)(aY:0<len)(X:0<r.bn k)(h1:((r.sl k).getD 0 aO).l.length<=1000) :
 aR au G16 98 [p0,.agg s.c,.own (10+k) (r.vs k) 0 len none,iI (rI right)] (q.hw x v (r.h [])) (.own (10+k) (r.vs k) 0 len none) ((q.e8 K (z8 ((r.sl k).getD 0 aO) right)).hw x v (r.h [])):=by
 obtain⟨Eh,B⟩:=qz au G16 24;obtain⟨P5,u⟩:=qz au G16 99
 let H:qa:=q.hw x v (r.h [])
 have run:=λ{p l vs h U D h1 e} (k:cD 98 p l vs h U=some (e,D,h1))=>aP H k
 let t:T:=.own (10+k) (r.vs k) 0 len none
 let sl:=(r.sl k).getD 0 aO
 let a:T:=iI (rI right)
 have h1:sl.l.length<=1000:=h1;have S:=run (Me s p0 t a H);have o:=run (Mf s p0 t a H);rw[Mh gm d V] at o;have R:=run ((Mg s p0 t a (yK K) H).trans (qB (gW ab) rfl));have Q:=run (PY p0 t a (.ag s.c) (yK K) (.bool false) H);have P:=run ((PW s p0 t a (yK K) H).trans (qB (gW ab) rfl));have O:=run (WB p0 t a (.ag s.c) (yK K) (.bool false) H);have N:=run ((Wz s p0 t a (yK K) H).trans (qj (wt f) rfl));obtain⟨e1,e2⟩:=P4 d;have I:TO 24 [.agg sl.c,a] (lR (z8 sl right)):=by
  have:=V1 (b:=sl.b) (l:=sl.l) (r:=rI right) ab (by cases right<;>simp[rI]);rw[WG] at this;exact this
 have E:TO 99 [lR (q.Y K).pe,lR (z8 sl right)] (.new (lR (Zt (q.Y K).pe (z8 sl right)))):=Wd _ _ (by have:=gm.2.2.2.2;omega) (by rw[show(z8 sl right).length=sl.l.length by unfold z8;cases right<;>simp];omega);have Z:H=Hy x (yB λe=>(q.Y e).y) (gq q x v) r.out (fX r.row k (gX (r.vs k) (r.bn k) (r.sl k))) []:=P1 q x v r k [];have q8:=sa8 Eh P5 x (λe=>(q.Y e).y) (gq q x v) r.out r.row k W (r.vs k) (r.bn k) len K (r.sl k) (z8 sl right) (Zt (q.Y K).pe (z8 sl right)) (rI right);rw[e1,e2] at q8;have C:(decide (0<=ofNat K)&&decide (ofNat K<6))=true:=by grind
 have q8:=q8.trans (qj C (qj (qN d) (qj aq (qj (wt bP) (qj aq (qj (qN X) (qj (qu B I) (qj (qu u E) (qj C (qj (by rw[qN d];rfl) rfl))))))))));have M:Pq 98 H [1,3,2,1,2,2,2,2] tT [p0,t,a,yK K] H .normal [2] [t] ((q.e8 K (z8 sl right)).hw x v (r.h [])):=by
  rw[←Z] at q8;refine Pz.post (bR (qr (qr qm (qn B)) (qn u)) H q8) λnt=>?_;unfold Ys.e8;rw[←P3];rw[Mi];exact Zs (x:=x) (Y:=λe=>(q.Y e).y) (ln:=λe=>(q.tb e).length) (v:=v) (L:=λe j=>((q.tb e).getD j dP).l) (rest:=r.h []) (K:=K) (y:=(Yn.mk (q.Y K).i (q.Y K).pl (q.Y K).ct (q.Y K).w (Zt (q.Y K).pe (z8 sl right))).y) (.refl _)
 have J:=run (qwz (10+k) (r.vs k) len ((q.e8 K (z8 sl right)).hw x v (r.h [])));exact Pz.fG (A:=ar) qY Tryz.func98 qh qh (l:=lE) rfl
  (ao S (ao o (ao (ao R (Pz.fU 17 qh rfl Q))
   (ao (ao P (Pz.fU 26 qh rfl O)) (ed (ao N (Pz.im 44 qh rfl (Pz.drop rfl (ao M J))))))))) rfl
def Hn(K j:Nat)(p:Ys×List aB):Ys×List aB:=(p.1.loop K (p.2.getD j aO).b (p.2.getD j aO).l,p.2.set j ⟨(p.2.getD j aO).b,[lJ p.1 K]⟩)
def jx(right:Bool)(n i:Nat):Nat:=bif right then i else n-1-i
def uD(K:Nat)(right:Bool)(q:Ys)(l:List aB):Nat->Ys×List aB
 |0=>(q,l)
 |i+1=>Hn K (jx right l.length i) (uD K right q l i)
def Ho(K:Nat)(right:Bool)(q:Ys)(l:List aB):∀i,(uD K right q l i).2.length=l.length
 |0=>rfl
 |i+1=>by show(List.set _ _ _).length=_;rw[ue,Ho K right q l i]
def WO{α}(l:List α)(j e)(z d:α)(a:j<l.length):(l.set j z).getD e d=if e=j then z else l.getD e d:=by
 grind
def WP(K:Nat)(right:Bool)(q)(l)(j)(d:j<l.length):∀i,i<=l.length->(∀k,k<i->jx right l.length k≠j)->(uD K right q l i).2.getD j aO=l.getD j aO
 |0,_,_=>rfl
 |i+1,g,h=>by
  have a:=WP K right q l j d i ab λk f=>h k ab;show(List.set _ _ _).getD j aO=_;have hx:jx right l.length i<(uD K right q l i).2.length:=by rw[Ho];unfold jx;cases right<;>simp<;>omega
  rw[WO _ _ _ _ _ hx,wh (λe=>h i ab e.symm)];exact a
def P6(K)(right)(q)(l)(B):∀i,gJ q K (B+i)->gJ (uD K right q l i).1 K B
 |0,h=>h
 |i+1,h=>by
  have:=P6 K right q l _ i (by rw[show B+1+i=B+(i+1) by omega];exact h);exact this.loop _ _
def WQ(v)(K i):aA (aA v K (v K+i)) K (aA v K (v K+i) K+1)=aA v K (v K+(i+1)):=funext λe=>by
 grind[aA]
def Mk(v)(K):aA v K (v K+0)=v:=funext λe=>by
 grind[aA]
def Z1{α}{l:List α}{d:α}{i}(h:i<l.length):l.getD i d∈l:=by
 rw[wg,wi h];grind
def qoE(q:Ys)(x)(hx:x.Im)(v:Nat->Nat)(r:Rw)(hr:r.n<=16)(K:Nat)(O:K<6)(s:am)(hy:s.y=ofNat K+1)(h3:s.k≠3)(h6:s.k≠6)(h7:s.k≠7)(right:Bool)(k:Nat)(u:k<16)(gm:gJ q K ((r.sl k).length+1))(hb:(r.sl k).length<=r.bn k)
 (hl:∀a∈r.sl k,a.l≠[]/\a.l.length<=1000) :
 aR au G16 98 [p0,.agg s.c,.own (10+k) (r.vs k) 0 (r.sl k).length none,iI (rI right)] (q.hw x v (r.h [])) (.own (10+k) (r.vs k) 0 (r.sl k).length none)
  ((uD K right q (r.sl k) (r.sl k).length).1.hw x (aA v K (v K+(r.sl k).length)) ((r.gu k (uD K right q (r.sl k) (r.sl k).length).2).h [])):=by
 obtain⟨w,hw⟩:=ZY au G16 48
 let H:qa:=q.hw x v (r.h [])
 have run:=λ{p l vs h B R h1 e} (k:cD 98 p l vs h B=some (e,R,h1))=>aP H k
 let n:=(r.sl k).length
 let t:T:=.own (10+k) (r.vs k) 0 n none
 let d:T:=iI (rI right)
 have hn:n<1000000:=by have:=gm.2.2.1;have:=gm.2.1;omega
 have p1:=run (Me s p0 t d H);have M:=run (Mf s p0 t d H);rw[Mh gm O hy] at M;have p3:=run ((Mg s p0 t d (yK K) H).trans (qB (gW h3) rfl));have p4:=run (PY p0 t d (.ag s.c) (yK K) (.bool false) H);have p5:=run ((PW s p0 t d (yK K) H).trans (qB (gW h6) rfl));have p6:=run (WB p0 t d (.ag s.c) (yK K) (.bool false) H);have p7:=run ((Wz s p0 t d (yK K) H).trans (qB (gW h7) rfl));have p8:=run (qwD p0 t d (yK K) (.bool false) H);have Z:=run (qwv p0 t d (yK K) H)
 let V:Nat->t7:=λi=>[p0,t,d,yK K,iI (ofNat i)]
 let st:Nat->Ys×List aB:=uD K right q (r.sl k)
 let f:Nat->qa:=λi=>(st i).1.hw x (aA v K (v K+i)) ((r.gu k (st i).2).h [])
 have g:∀i,f i=Hg (gq (st i).1 x (aA v K (v K+i))) r.out (fX r.row k (gX (r.vs k) (r.bn k) (st i).2)) []:=λi=>P2 _ x _ (Ho K right q (r.sl k) i) [];have e0:f 0=H:=by
  show q.hw x (aA v K (v K+0)) ((r.gu k (r.sl k)).h [])=_;rw[Mk];have:r.gu k (r.sl k)=r:=by
   unfold Rw.gu;have e:aA r.sl k (r.sl k)=r.sl:=funext λe=>by
    grind[aA]
   rw[e]
  rw[this]
 have round:∀i,i<n->Pq 98 H ql gj (V i) (f i) .normal gj (V (i+1)) (f (i+1)):=by
  intro i hi
  let j:=jx right n i
  have N:j<n:=by show jx right n i<n;unfold jx;cases right<;>simp<;>omega
  have hz:(st i).2.getD j aO=(r.sl k).getD j aO:=WP K right q (r.sl k) j N i (by omega) λm o e=>by
   have e:jx right n m=jx right n i:=e;unfold jx at e;grind
  have o:(st i).2.getD j aO∈r.sl k:=by rw[hz];grind
  obtain⟨S,D⟩:=hl _ o;have li:gJ (st i).1 K 1:=P6 K right q (r.sl k) 1 i (gm.mono (by omega));obtain⟨B,l2,l3,l4,l5⟩:=li
  let z:=(st i).2.getD j aO
  have D:z.l.length<=1000:=D;have E:aR au G16 48 [p0,yK K,uI z.b,bB z.l] (f i) (.agg [uI (ofNat K+1),iI ((st i).1.Y K).ct]) (((st i).1.loop K z.b z.l).hw x (aA (aA v K (v K+i)) K (aA v K (v K+i) K+1)) ((r.gu k (st i).2).h [])) :=
   Wy (st i).1 x hx (aA v K (v K+i)) (r.gu k (st i).2) hr K z.b O z.l (bB z.l) (.inr ⟨S,rfl⟩) B l2 ab ab ab ab
  rw[WQ,g,P2 _ x _ (Ho K right q (r.sl k) i)] at E;have X:=run ((qwE p0 d (yK K) (gq (st i).1 x (aA v K (v K+i))) r.out r.row k u (r.vs k) (r.bn k) n i (st i).2 []).trans (qj aq (qj (wt bP) rfl)));have L:=run (qwB p0 t d (yK K) (ofNat i) (f i));rw[g] at L;have J:Pq 98 H p9 k5 [p0,t,d,yK K,iI (ofNat i),iI (ofNat i)] (f i) .normal k5 [p0,t,d,yK K,iI (ofNat i),iI (ofNat j)] (f i):=by
   have q7:=qwF p0 (yK K) (rI right) (ofNat i) (ofNat i) (gq (st i).1 x (aA v K (v K+i))) r.out r.row k u (r.vs k) (r.bn k) n (st i).2 [];rw[g];show Pq 98 H _ _ _ _ _ _ [p0,t,d,yK K,iI (ofNat i),iI (ofNat (jx right n i))] _;cases right with
   |true=>exact run (q7.trans (qB (by simp[rI]) rfl))
   |false =>
    have ej:i64.wrap (i64.wrap (ofNat n-1)-ofNat i)=ofNat (jx false n i):=by
     rw[Qv (x:=ofNat n-1) bP bP,Qv bP bP];show _=ofNat (n-1-i);grind
    rw[ej] at q7;exact run (q7.trans (qj (by simp[rI]) (qj aq rfl)))
  rw[g] at J;have C:dj j n=true:=by unfold dj;grind
  have cb:(0+j).blt (r.bn k)=true:=qN (by have:n<=r.bn k:=hb;omega);have P:(st i).2.getD (0+j) aO=z:=by rw[wo]
  have W:Pq 98 H qb k5 [p0,t,d,yK K,iI (ofNat i),iI (ofNat j)] (Hg (gq (st i).1 x (aA v K (v K+i))) r.out (fX r.row k (gX (r.vs k) (r.bn k) (st i).2)) []) .normal gj [p0,t,d,yK K,iI (ofNat i)] (f (i+1)):=by
   have Q:=qww w (gq (st i).1 x (aA v K (v K+i))) (gq (st (i+1)).1 x (aA v K (v K+(i+1)))) r.out r.row k u (r.vs k) (r.bn k) n j (st i).2 (ofNat K+1) (ofNat K+1) ((st i).1.Y K).ct (rI right) (ofNat i);rw[P] at Q;refine Pz.post (bR (qA (qA qm (Qy hw)) (λ_ _ _ _ h=>(by cases h))) H
    (Q.trans (qj aq (qj C (qj aq (qj aq (qj cb (qj aq (qj C (qj aq (qj aq (qj cb (qj (QR hw E) (qj aq (qj C (qj aq (qj aq (qj (by rw[cb];rfl) rfl)))))))))))))))))) λnt=>?_
   rw[g];refine .sl (.refl _) (WN _ _ _ _ _ _ _ ⟨rfl,rfl,rfl⟩ rfl rfl λe he=>?_);show eX [uI (bif e==0+j then((st i).2.getD (0+j) aO).b else((st i).2.getD e aO).b),bif e==0+j then .view 2 1 (λj=>[[uI (ofNat K+1),iI ((st i).1.Y K).ct]].getD j []) (some 1) else bB ((st i).2.getD e aO).l] (((st i).2.set j ⟨z.b,[lJ (st i).1 K]⟩).getD e aO).c;rw[WO _ _ _ _ _ (by rw[Ho];exact N),P,wo];by_cases c:e=j
   .rw[wl c,show(e==j)=true by grind];refine .rg (.cons (.view (.inr rfl) λm o=>?_) .nil);obtain rfl:m=0:=vQ.1 o;exact .refl _
   .rw[wh c,show(e==j)=false by grind];exact .refl _
  have I:=run (qwC p0 t d (yK K) i (f (i+1)));rw[dH ab] at I;rw[g i];exact ao X (ao (cO 1 (ao L (ao J W))) I)
 have last:=run ((qtc p0 d (yK K) (gq (st n).1 x (aA v K (v K+n))) r.out r.row k u (r.vs k) (r.bn k) n n (st n).2 []).trans (qj aq (qB (gW bP) rfl)));rw[←g] at last;have lp:Pq 98 H [0,2,1,2,2,2,2,2] gj (V 0) (f 0) (.exit 0) [2] [t] (f n):=Pz.count qh V f (n:=n) aq round (ed last);rw[e0] at lp;have U:=run (qwA (10+k) (r.vs k) n (f n));exact Pz.fG (A:=ar) qY Tryz.func98 qh qh (l:=lE) rfl
  (ao p1 (ao M (ao (ao p3 (Pz.fU 17 qh rfl p4))
   (ao (ao p5 (Pz.fU 26 qh rfl p6)) (ao (ao p7 (Pz.fU 44 qh rfl p8))
    (ao (ao Z (cO 0 lp)) U)))))) rfl
def ov1(a b c d e f:T)(H):cD 62 [1] tq [a,b,c,d,e,f] H b7 =
( zN [a,b,c,d,e,f,iI 0] H):=qh
def ov2(G)(a c d e f:T)(n i)(H):cD 62 [1,0,0,2] b7 [a,aN G n none,c,d,e,f,iI (ofNat i)] H b7 =
( bif decide (ofNat i<ofNat n) then zN [a,cU G n
 none,c,d,e,f,iI (.ofNat i)] H else
 zX 0 [a,cU G n
 none,c,d,e,f,iI (.ofNat i)] H):=qh
def qwI(G)(a c d e f:T)(n i)(H):cD 62 [1,0,0,2] b7 [a,aN G n none,c,d,e,f,iI (ofNat i)] H [] =
( bif decide (ofNat i<ofNat n) then zN [] H else
 zX 0 [] H):=qh
def ov3(a b c d e f:T)(i)(H):cD 62 [1,0,1,2,0,0,2] b7 [a,b,c,d,e,f,iI i] H ca =
( zN [a,b,c,d,e,f,iI i,iI i] H):=qh
def ov4(G)(a c d f:T)(n)(e i j)(H):cD 62 [1,2,0,1,2,0,0,2] ca [a,aN G n none,c,d,iI e,f,iI i,iI j] H ca =
( bif decide (e=0) then zN [a,cU G n
 none,c,d,iI e,f,iI i,iI (i64.wrap (i64.wrap (ofNat n-1)-i))] H else
 zN [a,cU G n
 none,c,d,iI e,f,iI i,iI j] H):=qh
def ov6(a l:T)(G)(d i y wk)(j n)(H):cD 62 [1,1,2,2,0,1,2,0,0,2] ca [a,aN G n none,l,iI y,iI d,iI wk,iI i,iI (ofNat j)] H pG =
( bif decide (wk=1) then gD (decide (0<=ofNat j)&&decide (ofNat j<ofNat n))<|bif decide (i64.wrap (G j).y=y) then zN [a,cU G n
 none,l,iI y,iI d,iI wk,iI i,iI (.ofNat j),.bool true] H else
 zN [a,cU G n
 none,l,iI y,iI d,iI wk,iI i,iI (.ofNat j),.bool false] H else
 zN [a,cU G n
 none,l,iI y,iI d,iI wk,iI i,iI (.ofNat j),.bool false] H):=qh
def qwJ(a b c d e f g:T)(H):cD 62 [2,3,2,1,2,2,0,1,2,0,0,2] b7 [a,b,c,d,e,f,g] H b7 =
( zX 1 [a,b,c,d,e,f,g] H):=qh
def qwK(a b c d e f g h i:T)(H):cD 62 [4,2,1,2,2,0,1,2,0,0,2] pG [a,b,c,d,e,f,g,h,i] H ca =
( zN [a,b,c,d,e,f,g,h] H):=qh
def ov8(a b c d e f g h:T)(H):cD 62 [1,2,2,2,0,1,2,0,0,2] ca [a,b,c,d,e,f,g,h] H cj =
( zN [a,b,c,d,e,f,g,h,iI 0] H):=qh
def qwL(a b c d e f g h:T)(i)(H):cD 62 [1,0,1,2,0,0,2,2,2,2,0,1,2,0,0,2] cj [a,b,c,d,e,f,g,h,iI i] H ef =
( zN [a,b,c,d,e,f,g,h,iI i,iI i] H):=qh
def qwM(a b c d e f g h:T)(i)(H):cD 62 [2,2,0,0,2,2,2,2,0,1,2,0,0,2] cj [a,b,c,d,e,f,g,h,iI (ofNat i)] H cj =
( zN [a,b,c,d,e,f,g,h,iI (i64.wrap (ofNat i+1))] H):=qh
def qwN(a b c d e f:T)(i)(H):cD 62 [2,2,0,0,2] b7 [a,b,c,d,e,f,iI (ofNat i)] H b7 =
( zN [a,b,c,d,e,f,iI (i64.wrap (ofNat i+1))] H):=qh
def ot(o n:Nat)(vs a:Nat->Nat):ap:=.mk o 1 n (λj=>[.own (10+j) (vs j) 0 (a j) none]) false false none
def oL(o n:Nat):T:=.own 9 o 0 n none
def ov9(a b e y wk:T)(i j k:Nat)(s:k<16)(g:Nat->ap)(f)(o n:Nat)(vs d:Nat->Nat)(r:Nat)(sl:List aB) :
 cD 62 rH cj [a,b,oL o n,y,e,wk,iI (ofNat i),iI (ofNat k),iI (ofNat j)] (Hg g (ot o n vs d) (fX f k (gX (vs k) r sl)) []) cj =
 (bif o==o&&true then bif dj k n then bif o==o&&true then bif k.blt n then bif vs k==vs k&&true then
  bif decide (ofNat j<ofNat (d k)) then some (.normal,[a,b,oL o n,y,e,wk,iI (ofNat i),iI (ofNat k),iI (ofNat j)],Hg g (ot o n vs d) (fX f k (gX (vs k) r sl)) [])
  else some (.exit 2,[a,b,oL o n,y,e,wk,iI (ofNat i),iI (ofNat k),iI (ofNat j)],Hg g (ot o n vs d) (fX f k (gX (vs k) r sl)) []) else none else none else none else none else none):=by
 cases Qb s
 all_goals kernel_rfl
def qwO(a b e y wk:T)(i j k:Nat)(s:k<16)(g:Nat->ap)(f)(o n:Nat)(vs d:Nat->Nat)(r:Nat)(sl:List aB) :
 cD 62 rH cj [a,b,oL o n,y,e,wk,iI (ofNat i),iI (ofNat k),iI (ofNat j)] (Hg g (ot o n vs d) (fX f k (gX (vs k) r sl)) []) b7 =
 (bif o==o&&true then bif dj k n then bif o==o&&true then bif k.blt n then bif vs k==vs k&&true then
  bif decide (ofNat j<ofNat (d k)) then some (.normal,[a,b,oL o n,y,e,wk,iI (ofNat i)],Hg g (ot o n vs d) (fX f k (gX (vs k) r sl)) [])
  else some (.exit 2,[a,b,oL o n,y,e,wk,iI (ofNat i)],Hg g (ot o n vs d) (fX f k (gX (vs k) r sl)) []) else none else none else none else none else none):=by
 cases Qb s
 all_goals kernel_rfl
def qwP(a b y wk:T)(d i j m:Int)(k:Nat)(s:k<16)(g)(f:Nat->ap)(o n:Nat)(vs e:Nat->Nat)(r:Nat)(sl:List aB) :
 cD 62 pg ef [a,b,oL o n,y,iI d,wk,iI i,iI (ofNat k),iI j,iI m] (Hg g (ot o n vs e) (fX f k (gX (vs k) r sl)) []) ef =
 (bif decide (d=0) then bif o==o&&true then bif dj k n then bif o==o&&true then bif k.blt n then bif vs k==vs k&&true then
  some (.normal,[a,b,oL o n,y,iI d,wk,iI i,iI (ofNat k),iI j,iI (i64.wrap (i64.wrap (ofNat (e k)-1)-j))],Hg g (ot o n vs e) (fX f k (gX (vs k) r sl)) [])
  else none else none else none else none else none
  else some (.normal,[a,b,oL o n,y,iI d,wk,iI i,iI (ofNat k),iI j,iI m],Hg g (ot o n vs e) (fX f k (gX (vs k) r sl)) [])):=by
 cases Qb s
 all_goals kernel_rfl
def Ml(k o n:Nat)(v1 v2:Nat)(x:Option (Ex×t7×qa)):Option (Ex×t7×qa):=bif o==o&&true then bif dj k n then bif o==o&&true then bif k.blt n then x else none else none else none else none
def P7{k o n v1 v2:Nat}{x r}(h:k<n)(e:x=r):Ml k o n v1 v2 x=r:=by
 unfold Ml dj;rw[e,wF,qN h];grind
def qwQ(p q:t7->T->Prop)(x:Wx)(Y:Nat->bC)(g)(f:Nat->ap)(k:Nat)(r:k<16)(o n K wk i j m M:Nat)(a:Int)(G:Nat->am)(vs d:Nat->Nat)(e:Nat)(sl:List aB)(l1 l2:List bl) :
 cK (WA p q (lR l1) (lR l2)) 62 ph ef [p0,aN G M none,oL o n,yK K,iI a,iI (ofNat wk),iI (ofNat i),iI (ofNat k),iI (ofNat j),iI (ofNat m)] (Hy x (yB Y) g (ot o n vs d) (fX f k (gX (vs k) e sl)) []) cj =
 (bif decide (0<=yD K)&&decide (yD K<6) then bif (om K).blt 6 then Ml k o n (vs k) (vs k) (bif vs k==vs k&&true then bif dj m (d k) then bif vs k==vs k&&true then bif (0+m).blt e then
  bif qx (p [.agg (sl.getD (0+m) aO).c,iI a] (lR l1)) then bif qx (q [bY (Y (om K)).pe (Y (om K)).np none,lR l1] (.new (lR l2))) then
  bif decide (0<=yD K)&&decide (yD K<6) then bif (om K).blt 6&&true&&true&&true then
  some (.normal,[p0,aN G M none,oL o n,yK K,iI a,iI (ofNat wk),iI (ofNat i),iI (ofNat k),iI (ofNat j)],Hy x (yG Y (om K) [.bool (Y (om K)).i,iI (Y (om K)).pl,iI (Y (om K)).ct,.bool (Y (om K)).w,lR l2]) g (ot o n vs d) (fX f k (gX (vs k) e sl)) [])
  else none else none else none else none else none else none else none else none) else none else none):=by
 cases Qb r
 all_goals kernel_rfl
def Mm(o n k:Nat)(vs a:Nat->Nat)(c:T):ap:=.mk o 1 n (λe=>[bif e==k then c else .own (10+e) (vs e) 0 (a e) none]) false false none
def WS(w:t7->qa->T->qa->Prop)(g g':Nat->ap)(f e:Nat->ap)(k:Nat)(j:k<16)(o n M:Nat)(d y i wk:Int)(G:Nat->am)(vs a:Nat->Nat)(c:T)(z:qa)(r:c = .own (10+k) (vs k) 0 (a k) none/\z=[]∨c = .own 26 0 0 1 none/\∃b,z=[b]) :
 cK (qt.bW 98 (kH w λ_ _=>some (c,Hg g' (ot o n vs a) e z))) 62 oD ca [p0,aN G M none,oL o n,iI y,iI d,iI wk,iI i,iI (ofNat k)] (Hg g (ot o n vs a) f []) b7 =
 (bif dj k M then Ml k o n (vs k) (vs k) (bif qx (w [p0,(G k).t,.own (10+k) (vs k) 0 (a k) none,iI d] (Hg g (ot o n vs a) f []) c (Hg g' (ot o n vs a) e z)) then
  bif o==o&&true then bif dj k n then bif o==o&&true then bif k.blt n&&true&&true&&true then
  some (.normal,[p0,aN G M none,oL o n,iI y,iI d,iI wk,iI i],Hg g' (Mm o n k vs a c) e z) else none else none else none else none else none) else none):=by
 rcases r with⟨rfl,rfl⟩|⟨rfl,b,rfl⟩
 all_goals
  cases Qb j
  all_goals kernel_rfl
def Hr(i j:Nat):ap:=⟨0,7,1,λ_=>[.ae,.own i 0 0 6 (some 6),.own j 0 0 6 (some 6),.ae,.ae,.ae,uI 0],false,false,none⟩
def WT:ap:=⟨0,7,1,λ_=>[.ae,.own 1 0 0 6 none,.own 2 0 0 6 none,.ae,.ae,.ae,uI 0],false,false,none⟩
def oP(i j m:Nat):ap:=bif m==i then Cg else bif m==j then Dh else Hr i j
def qoF(i j k:Nat):ai [sV i j k 0,sV i j k 1,sV i j k 2] [oP i j 0,oP i j 1,oP i j 2]:=by
 have key:∀m,(oP i j m).mp=(sV i j k m).mp/\(oP i j m).aj=(sV i j k m).aj/\(oP i j m).sz=(sV i j k m).sz/\(oP i j m).n=(sV i j k m).n/\(oP i j m).flat=(sV i j k m).flat/\∀e,e<(sV i j k m).n->(oP i j m).get e=(sV i j k m).get e:=λm=>by
  unfold sV oP;cases m==i with
  |true=>grind
  |false=>cases m==j with
   |true=>grind
   |false=>exact⟨rfl,rfl,rfl,rfl,rfl,λe he=>by
    have he:e<1:=he;obtain rfl:e=0:=by omega
    rfl⟩
 have step:∀m {h a:qa},ai h a->ai (sV i j k m::h) (oP i j m::a):=λm _ _ s=>by
  obtain⟨r,o,k3,g,f,d⟩:=key m;exact .cons ⟨o,k3,g,(λh=>by rw[←f];exact h),d⟩ s r
 exact step 0 (step 1 (step 2 .nil))
def FA{aa}{nt}{l}(y n){i j k}(d:zA 0 [k,i,j] [oP i j 0,oP i j 1,oP i j 2]=true)(a:(Fs y n k).map (nO [k,i,j] [oP i j 0,oP i j 1,oP i j 2])=Fs y n 0)(e:uv [k,i,j] [oP i j 0,oP i j 1,oP i j 2]=[Hr 1 2,Cg,Dh]) :
 ak G16 aa nt l 0 (oc y n i j k).1 (oc y n i j k).2 (Fs y n 0) [Hr 1 2,Cg,Dh] :=
 .trans (.same (qoF i j k)) (ak.cu [k,i,j] d a e (.refl _))
def Qm(K:Nat):Nat->Ys
 |0=>Q0.dp K ⟨true,179,0,true,[]⟩
 |i+1=>(Qm K i).loop K 0 []
def jY(K e:Nat):∀i,(Qm K i).Y e=if e=K then ⟨true,179,(i:Int),decide (i=0),[]⟩ else yz
 |0=>by
  rfl
 |i+1=>by
  show aA (Qm K i).Y K ((Qm K i).Y K).next e=_
  unfold aA;rw[jY K e i,jY K K i];by_cases c:e=K
  .rw[wl c,wl c,wl rfl,Yn.next];simp
  grind
def Mn(K e:Nat):∀i,(Qm K i).tb e=(y8 K i).tb e
 |0=>rfl
 |i+1=>by
  show aA (Qm K i).tb K ((Qm K i).tb K++[((Qm K i).Y K).lp 0 []]) e=aA (y8 K i).tb K ((y8 K i).tb K++[((y8 K i).Y K).lp 0 []]) e;unfold aA;by_cases c:e=K
  .rw[wl c,wl c,Mn K K i,jY K K i,jW K K i,wl rfl,wl rfl];rfl
  .rw[wh c,wh c,Mn K e i]
def WU(K n):Qm K n=(Kc K n).q:=by
 have d:(Qm K n).tb=(Kc K n).q.tb:=funext λe=>Mn K e n;have a:(Qm K n).Y=(Kc K n).q.Y:=funext λe=>by
  show _=aA (y8 K n).Y K _ e;rw[jY];unfold aA;by_cases c:e=K
  .rw[wl c,wl c,jW K K n,wl rfl];rfl
  .rw[wh c,wh c,jW K e n,wh c]
 cases h:Qm K n;simp_all
def Zu(K i:Nat):ap:=bZ i i λe=>[uI 0,bB [nm K e]]
def lL(K:Nat):Nat->Nat->Nat:=λi e=>if e=K then i else 0
def qwR(K i):aA (lL K i) K (lL K i K+1)=lL K (i+1):=funext λe=>by
 show(if e=K then(if K=K then i else 0)+1 else if e=K then i else 0)=if e=K then i+1 else 0;grind
def qwS(y n):Pq 17 [] eH [0,1,4] [uI y,iI n,.ag bE] [] .normal mv [uI y,iI n,.ag bE,p0] (Q0.hw (x9 0) (λ_=>0) [bZ 0 0 λ_=>[]]):=by
 have p:=Pz.any (h0:=[]) qV qm qh (qsY y n) (v2:=Fs y n 0) (h2:=[Hr 1 2,Cg,Dh]) λo u nt=>by
  have N:=λnt=>FA (aa:=(ar 17).aa) (nt:=nt) (l:=mv) y n (i:=0) (j:=1) (k:=2) rfl rfl rfl;have x:=λnt=>FA (aa:=(ar 17).aa) (nt:=nt) (l:=mv) y n (i:=0) (j:=2) (k:=1) rfl rfl rfl;have M:=λnt=>FA (aa:=(ar 17).aa) (nt:=nt) (l:=mv) y n (i:=1) (j:=0) (k:=2) rfl rfl rfl;have L:=λnt=>FA (aa:=(ar 17).aa) (nt:=nt) (l:=mv) y n (i:=1) (j:=2) (k:=0) rfl rfl rfl;have J:=λnt=>FA (aa:=(ar 17).aa) (nt:=nt) (l:=mv) y n (i:=2) (j:=0) (k:=1) rfl rfl rfl;have I:=λnt=>FA (aa:=(ar 17).aa) (nt:=nt) (l:=mv) y n (i:=2) (j:=1) (k:=0) rfl rfl rfl;have C:o=oc y n 0 1 2∨o=oc y n 0 2 1∨o=oc y n 1 0 2∨o=oc y n 1 2 0∨o=oc y n 2 0 1∨o=oc y n 2 1 0:=by
   unfold Wl at u;simp only[wJ,xl,or_false] at u;rcases u with h|h|h|h|h|h|h|h|h|h|h|h|h|h|h<;>simp[h]
  grind
 refine Pz.post p λnt=>?_;refine .trans (h1:=[WT,Cg,Dh]) (dM:=Fs y n 0) (ak.sW (dQ.one (p:=[]) (q:=[Cg,Dh]) (b:=Hr 1 2) (b2:=WT) ⟨rfl,rfl,rfl,rfl⟩ rfl λj r=>⟨rfl,λo c x d g=>?_⟩)) ?_
 .match o,d,g with
  |0,d,g=>obtain rfl:=we d;obtain rfl:=we g;exact .inl rfl
  |1,d,g=>obtain rfl:=we d;obtain rfl:=we g;exact .inr ⟨1,0,0,6,6,Cg,rfl,rfl,rfl,wc _⟩
  |2,d,g=>obtain rfl:=we d;obtain rfl:=we g;exact .inr ⟨2,0,0,6,6,Dh,rfl,rfl,rfl,wc _⟩
  |3,d,g=>obtain rfl:=we d;obtain rfl:=we g;exact .inl rfl
  |4,d,g=>obtain rfl:=we d;obtain rfl:=we g;exact .inl rfl
  |5,d,g=>obtain rfl:=we d;obtain rfl:=we g;exact .inl rfl
  |6,d,g=>obtain rfl:=we d;obtain rfl:=we g;exact .inl rfl
  |o+7,d,_=>cases d
 refine .trans (ak.gh (dN:=[uI y,iI n,.ag bE,p0]) (h2:=wB (x9 0)::Cg::tB (λ_=>0) (λ_=>0)::((List.range 6).map (rB (λ_=>0) (λ_=>0) (λ_ _=>dP.l))++[bZ 0 0 λ_=>[]])) ((List.range 6).map (rB (λ_=>0) (λ_=>0) (λ_ _=>dP.l))++[bZ 0 0 λ_=>[]]) (λb s=>by
  rcases wS.1 s with s|s
  .obtain⟨j,_,rfl⟩:=wY.1 s;exact⟨rfl,rfl⟩
  .obtain rfl:=wL.1 s;exact⟨rfl,rfl⟩) (.rg (.rg (.rg (.rg .nil))))
  (.Lj ⟨rfl,rfl,rfl,rfl⟩ rfl (λj r=>?_) (.same _ (.Lj ⟨rfl,rfl,rfl,rfl⟩ rfl (λj r=>?_) (.refl _))))) ?_
 .have r:j<1:=r;obtain rfl:j=0:=by omega
  exact .cons (.own (k:=9) (b:=bZ 0 0 λ_=>[]) rx rfl rfl) (.refl _)
 .have r:j<6:=r;refine .cons (.own (k:=3+j) (b:=rB (λ_=>0) (λ_=>0) (λ_ _=>dP.l) j) (by show 3<=_;omega) ?_ rfl) (.refl _);grind
 .exact .nR rfl (λi a b d g=>by obtain rfl:=we (d.symm.trans g);exact .refl _) (.cons ⟨rfl,rfl,rfl⟩ (λh=>(by cases h)) (λ_ _=>.refl _) (.cons ⟨rfl,rfl,rfl⟩ (λh=>(by cases h)) (λe he=>.rg (.rg (.rg (.rg (.cons (.eZ _ _ (.inl rfl)) .nil))))) (.refl _)))
def qmC{K}(I:K<6){n i}(H:i<16)(hn:i<n)(O:n<=100):Pq 17 [] mf k6 (tG (ofNat K+1) n i) ((Qm K i).hw (x9 i) (lL K i) [Zu K i]) .normal k6 (tG (ofNat K+1) n (i+1)) ((Qm K (i+1)).hw (x9 (i+1)) (lL K (i+1)) [Zu K (i+1)]):=by
 obtain⟨w,hw⟩:=ZY au G16 48;have d:=jY K K i;rw[wl rfl] at d;have k:=PM (Qm K i) (x9 i) (lL K i) [Zu K i] K 0 I (by rw[d]) (by rw[d]) (by rw[d];grind) (by rw[d];grind) (by rw[Mn,LY,wl rfl];grind);rw[qwR,d] at k;have k:aR au G16 48 [p0,yK K,uI 0,.ae] ((Qm K i).hw (x9 i) (lL K i) [Zu K i]) (.agg [uI (ofNat K+1),iI (ofNat i)]) ((Qm K (i+1)).hw (x9 i) (lL K (i+1)) [Zu K i]):=k;have L:i64.wrap (ofNat K+1)=ofNat K+1:=Qv bP bP;have D:=aP [] ((Wn (ofNat K+1) n i ((Qm K i).hw (x9 i) (lL K i) [Zu K i])).trans (qj rx rfl));have C:=aP [] (qs0 (ofNat K+1) n i ((Qm K i).hw (x9 i) (lL K i) [Zu K i]));have r:=qwi w (Qm K i) (Qm K (i+1)) (lL K i) (lL K (i+1)) (λe=>[uI 0,bB [nm K e]]) (ofNat K+1) n i H;rw[L] at r;have r:=r.trans (Wm (QR hw k) _ 10);have B:=Pz.any (P:=au) (G:=G16) (A:=ar) (f:=17) (h0:=[]) (p:=m4) qV (qA (qA qm (Qy hw)) (λ_ _ _ _ h=>(by cases h))) qh r (v2:=tG (ofNat K+1) n i) (h2:=(Qm K (i+1)).hw (x9 (i+1)) (lL K (i+1)) [Zu K (i+1)]) λo E nt=>by
  obtain⟨_,rfl⟩:=List.mem_replicate.1 E;refine .nR rfl (λi a b J u=>by obtain rfl:=we (J.symm.trans u);exact .refl _) (.cons ⟨rfl,rfl,rfl⟩ (λh=>(by cases h)) (λj g=>?_) (.cons ⟨rfl,rfl,rfl⟩ (λh=>(by cases h)) (λ_ _=>.refl _) (.cons ⟨rfl,rfl,rfl⟩ (λh=>(by cases h)) (λ_ _=>.refl _) (.cons ⟨rfl,rfl,rfl⟩ (λh=>(by cases h)) (λ_ _=>.refl _) (.cons ⟨rfl,rfl,rfl⟩ (λh=>(by cases h)) (λ_ _=>.refl _) (.cons ⟨rfl,rfl,rfl⟩ (λh=>(by cases h)) (λ_ _=>.refl _) (.cons ⟨rfl,rfl,rfl⟩ (λh=>(by cases h)) (λ_ _=>.refl _) (.cons ⟨rfl,rfl,rfl⟩ (λh=>(by cases h)) (λ_ _=>.refl _) (.cons ⟨rfl,rfl,rfl⟩ (λh=>(by cases h)) (λ_ _=>.refl _) (.cons ⟨rfl,rfl,rfl⟩ (λh=>(by cases h)) (λe he=>?_) .nil))))))))))
  .have g:j<1:=g;obtain rfl:j=0:=by omega
   exact .refl _
  .have he:e<i+1:=he;show eX (bif e.blt i then [uI 0,bB [nm K (0+e)]] else [[uI 0,.view 2 1 (λj=>[[uI (ofNat K+1),iI (ofNat i)]].getD j []) (some 1)]].getD (e-i) []) [uI 0,bB [nm K e]];by_cases c:e<i
   .rw[qN c,wo];exact .refl _
   .obtain rfl:e=i:=by omega
    rw[QZ (wc _),va];refine .rg (.cons (.view (.inr rfl) λj g=>?_) .nil);have g:j<1:=g;obtain rfl:j=0:=by omega
    exact .refl _
 have s:=qwm (ofNat K+1) n i ((Qm K (i+1)).hw (x9 (i+1)) (lL K (i+1)) [Zu K (i+1)]);rw[dH ab] at s;have x:=aP [] s;exact ao (ao D (Pz.im 19 qh rfl C)) (ao (cO 1 B) x)
def qk3(K n)(H)(d:H[9]?=some (Zu K n)):cH [zr H (.own 9 n 0 n none)] [bQ (yW K n) none]:=by
 have e:zr H (.own 9 n 0 n none)=(bif (Zu K n).mp.isNone&&((Zu K n).aj==n&&Nat.ble (0+n) n) then T.view 2 n (λj=>([uI 0,bB [nm K (0+j)]]:t7).map (resolve 3 [] H)) none else .undef):=by
  show resolve 4 [] H (.own 9 n 0 n none)=_;simp only[resolve,d];rfl
 rw[e,show(Zu K n).aj=n from rfl,wF,qR (show 0+n<=n by omega)];show cH [T.view 2 n _ none] [bQ (yW K n) none];unfold bQ;rw[Kd];refine .cons (.view (.inl rfl) λj a=>?_) .nil;show cH (([uI 0,bB [nm K (0+j)]]:t7).map (resolve 3 [] H)) ((yW K n).getD j aO).c;rw[V3 K a,wo];exact .refl _
def WV(K n:Nat):Wx:=⟨.own 9 n 0 n none,.ae,aX (λj=>(zG K n).getD j bA) n none,.ae,0⟩
def Dl(K n:Nat):qa:=(Qm K n).hw (WV K n) (lL K n) [Zu K n]
def qqQ{K n:Nat}(d:K<6)(h1:1<=n)(U:n<=16):TO 17 [yI K,iI (ofNat n)] (.agg ((Kc K n).cc none)):=by
 obtain⟨p,u⟩:=qz au G16 29;have H:(λ_=>0:Nat->Nat)=lL K 0:=funext λe=>by show 0=if e=K then 0 else 0;split<;>rfl
 have O:=aP [] (qwj (ofNat K+1) (ofNat n));have s:=qwS (ofNat K+1) (ofNat n);rw[H] at s;have o:=qwk (ofNat n) K (lL K 0) (x9 0) [bZ 0 0 λ_=>[]] (λe=>(Q0.Y e).y) (λe=>(Q0.tb e).length) (λe j=>((Q0.tb e).getD j dP).l);rw[qsN d,show 0+(ofNat K).toNat=K by simp] at o;have N:=Pz.post (aP [] (o.trans (qj (gV d) (qj (by rw[qN d];rfl) rfl)))) (v2:=[yI K,iI (ofNat n),.ag bE,p0]) (h2:=(Qm K 0).hw (x9 0) (lL K 0) [Zu K 0]) λnt=>by
  have Q:(λe=>((Qm K 0).Y e).y)=aA (λe=>(Q0.Y e).y) K (Yn.mk true 179 0 true []).y:=funext λe=>by
   show(aA (λ_=>yz) K (Yn.mk true 179 0 true []) e).y=aA (λ_=>yz.y) K (Yn.mk true 179 0 true []).y e;grind[aA]
  show ak G16 (ar 17).aa nt _ _ _ _ _ (HW (x9 0) (λe=>((Qm K 0).Y e).y) _ _ _ _);rw[Q];refine .trans (Zs (c:=[.bool true,iI 179,iI 0,.bool true,.ae]) (y:=(Yn.mk true 179 0 true []).y) (.rg (.rg (.rg (.rg (.cons (.eZ _ _ (.inl rfl)) .nil)))))) ?_;exact .same (.cons ⟨rfl,rfl,rfl,id,λ_ _=>rfl⟩ (.cons ⟨rfl,rfl,rfl,id,λ_ _=>rfl⟩ (.cons ⟨rfl,rfl,rfl,id,λ_ _=>rfl⟩ (.cons ⟨rfl,rfl,rfl,id,λ_ _=>rfl⟩ (.cons ⟨rfl,rfl,rfl,id,λ_ _=>rfl⟩ (.cons ⟨rfl,rfl,rfl,id,λ_ _=>rfl⟩ (.cons ⟨rfl,rfl,rfl,id,λ_ _=>rfl⟩ (.cons ⟨rfl,rfl,rfl,id,λ_ _=>rfl⟩ (.cons ⟨rfl,rfl,rfl,id,λ_ _=>rfl⟩ (.cons ⟨rfl,rfl,rfl,id,λj a=>absurd a (vy j)⟩ .nil))))))))))
 have M:=aP [] (qwl K n ((Qm K 0).hw (x9 0) (lL K 0) [Zu K 0]));have I:=Pz.count (P:=au) (G:=G16) (A:=ar) (f:=17) (h0:=[]) (p:=tu) (l:=k6) (e:=.exit 0) qh (λi=>tG (ofNat K+1) n i) (λi=>(Qm K i).hw (x9 i) (lL K i) [Zu K i]) (n:=n) aq (λi x=>qmC d ab x ab)
  (ed (ao (aP _ ((Wn (ofNat K+1) n n ((Qm K n).hw (x9 n) (lL K n) [Zu K n])).trans (qB aq rfl))) (Pz.fU 19 qh rfl (aP _ (qs1 (ofNat K+1) n n ((Qm K n).hw (x9 n) (lL K n) [Zu K n]))))))
 have D:=V4 K n;have k:(zG K n).length=n:=by simp[zG]
 have th:=Wg (yW K n) none (by rw[Kd];omega) (by rw[D,k];omega);rw[D] at th;unfold bB at th;rw[k] at th;have g:=th.J3 (qk3 K n ((Qm K n).hw (x9 n) (lL K n) [Zu K n]) rfl);have L:=Pz.post (bR (qr qm (qn u)) [] ((qwn (lL K n) [Zu K n] (λe=>((Qm K n).Y e).y) (λe=>((Qm K n).tb e).length) (λe j=>(((Qm K n).tb e).getD j dP).l) p (λj=>(zG K n).getD j bA) n n).trans (qj (qU.2 (QF u g)) rfl))) (v2:=[.ag bE,p0]) (h2:=Dl K n) λnt =>
  .same (.cons ⟨rfl,rfl,rfl,id,λj a=>by
   have a:j<1:=a;obtain rfl:j=0:=by omega
   rfl⟩ (.refl _))
 have J:=aP [] (qwo (lL K n) (WV K n) [Zu K n] (λe=>((Qm K n).Y e).y) (λe=>((Qm K n).tb e).length) (λe j=>(((Qm K n).tb e).getD j dP).l));have t:=Pz.told (A:=ar) qY Tryz.func17 qh qh (l:=ir) rfl (ao O (ao s (ao N (ao (ao M (Pz.dZ (id:=0) (e:=.exit 0) (p:=[2,1,2,2,2]) qh rfl I)) (ao L J)))))
  (r:=.agg [bif (true&&(n==n&&Nat.ble (0+n) n)) then .fresh false 2 (n-0) (λj=>([uI 0,bB [nm K (0+j)]]:t7).map (resolve 3 ti (Dl K n))) n none else .undef,
   .fresh false 5 6 (λj=>(((Qm K n).Y (0+j)).y.c).map (resolve 3 ti (Dl K n))) 6 none,.fresh false 1 6 (λj=>[resolve 3 ti (Dl K n) (.own (3+(0+j)) (lL K n (0+j)) 0 ((Qm K n).tb (0+j)).length none)]) 6 none,
   .ae,aX (λj=>(zG K n).getD j bA) n none,.ae,uI 0]) rfl
 rw[wF,qR (show 0+n<=n by omega)] at t;have t2:=t.iQ;have C:=WU K n;refine t2.Az (.cons (.view ?_) (.cons (.view ?_) (.cons (.view ?_) (.cons (.eZ _ _ _ (.inl rfl)) (.cons (.view ?_) (.cons (.eZ _ _ _ (.inl rfl)) (.rg .nil)))))))
 .show mV (.view 2 n _ none) (bQ (yW K n) none);unfold bQ;rw[Kd];refine .view (.inl rfl) λj a=>?_;rw[V3 K a,wo];exact .refl _
 .refine .view (.inr rfl) λj a=>?_;rw[wo,←C];exact .refl _
 ·refine .view (.inr rfl) λj a=>?_;rw[wo,←C];show cH [resolve 3 ti (Dl K n) (.own (3+j) (lL K n j) 0 ((Qm K n).tb j).length none)] [oh (λi=>(((Qm K n).tb j).getD i dP).l) ((Qm K n).tb j).length none];have B:(Dl K n)[3+j]?=some (rB (λe=>((Qm K n).tb e).length) (lL K n) (λe j=>(((Qm K n).tb e).getD j dP).l) j)/\(ti:t8).contains (3+j)=false:=by
   cases ZH a
   all_goals exact⟨rfl,rfl⟩
  have S:resolve 3 ti (Dl K n) (.own (3+j) (lL K n j) 0 ((Qm K n).tb j).length none)=(bif (true&&(lL K n j==lL K n j&&Nat.ble (0+((Qm K n).tb j).length) ((Qm K n).tb j).length)) then T.view 4 ((Qm K n).tb j).length (λi=>((((Qm K n).tb j).getD (0+i) dP).l.c).map (resolve 2 ti (Dl K n))) none else .undef):=by
   simp only[resolve,B.1,B.2];rfl
  rw[S,wF,qR (show 0+((Qm K n).tb j).length<=((Qm K n).tb j).length by omega)];refine .cons (.view (.inr rfl) λi x=>?_) .nil;rw[wo];exact .refl _
 .show mV (aX (λj=>(zG K n).getD j bA) n none) (bB (zG K n));unfold bB;rw[k];exact .view (.inr rfl) λ_ _=>.refl _
def WW(s s' Y:T)(F:dC)(d:Int):t7:=[s,Y,F.t.v,mb F.cr F.nc none,aX F.he F.nh none,aX F.fa F.nf none,uI d]
def Ht(s s':T)(Y:Nat->bC)(F:dC)(d:Int)(i:Nat):t7:=[.ag (WW s s' (nU Y 6) F d),.ag (WW s' s (nU Y 6) F d),iI (ofNat i)]
def Lp.rW(x:Lp):List aw:=x.th++x.ps.map bl.id
def BH(l:List bl):Prop:=∀i,i+1<l.length->sm (l.getD i dV) (l.getD (i+1) dV)=false
structure Lp.G(x:Lp):Prop where
 b:x.b=0∨x.b=1
 nt:x.th.length<=4
 np:x.ps.length<=4096
 d:∀p∈x.ps,p.d=0∨p.d=1
 red:BH x.ps
structure eE(q:Ys)(ord:List aw):Prop where
 row:∀y,y<6->∀n,n<(q.tb y).length->∃pre post,ord=pre++nm y n::post/\(∀a∈((q.tb y).getD n dP).rW,a∈pre)/\(0<n->nm y (n-1)∈pre)
 cC:∀y,y<6->∀n,n<(q.tb y).length->((q.tb y).getD n dP).G/\(n=0->((q.tb y).getD n dP).w=true)
 mem:∀a∈ord,∃y n,y<6/\n<(q.tb y).length/\a=nm y n
 nodup:ord.Nodup
 out:∀y,6<=y->q.tb y=[]
 tE:q.tE=ord.length
def P8{y n a d}(h:nm y n=nm a d):y=a/\n=d:=by
 unfold nm at h;grind
def WX:∀(l st:List bl),BH (st++l)->yV st l=st++l
 |[],st,_=>by simp[yV]
 |p::l,st,h=>by
  have e:n6 st p=st++[p]:=by
   unfold n6;by_cases c:0<st.length
   .have:=h (st.length-1) (by simp;omega);rw[YU,YU,wl ab,wh ab,show st.length-1+1-st.length=0 by omega] at this;rw[show sm (st.getD (st.length-1) dV) p=false from this];simp
   grind
  show yV (n6 st p) l=_;rw[e,WX l (st++[p]) (by rw[wP];exact h),wP];rfl
def qmD{l}(h:BH l):(za (λj=>l.getD j dV) l.length).1=l.length:=by
 have e:∀k,za (λj=>l.getD j dV) k=kK (([]:List bl).length,λ_=>⟨0,0,false,0⟩) (λj=>l.getD j dV) k:=λk=>by
  induction k with
  |zero=>rfl
  |succ k a=>simp only[za,kK,a]
 rw[e,(V2 [] (λj=>l.getD j dV) (λ_=>⟨0,0,false,0⟩) (λj d=>absurd d (vy j)) l.length).1,qiG,WX l [] rx];rfl
section
variable {q:Ys} {ord:List aw}
def eE.len(h:eE q ord)(y):(q.tb y).length<=ord.length:=by
 rw[←h.tE];by_cases a:y<6
 .grind[Ys.tE]
 .rw[h.out y ab];grind
def qqR{y n}(a:y<6)(hn:n<(q.tb y).length):q.tt.has (nm y n)=true:=by
 unfold bt.has Ys.tt t6 nm;simp only[wn,wd,wm];rw[show((y:Int)+1-1).toNat=y by omega];omega
def eE.has(h:eE q ord){a:aw}(e:a∈ord):q.tt.has a=true:=by
 obtain⟨y,n,d,hn,rfl⟩:=h.mem a e;exact qqR d hn
def qtf{y n}(a:y<6)(hn:n<=3000):(nm y n).Ok:=⟨by unfold nm;grind,by unfold nm;grind⟩
def eE.FB(h:eE q ord)(f:ord.length<=3000){a:aw}(e:a∈ord):a.Ok:=by
 obtain⟨y,n,d,hn,rfl⟩:=h.mem a e;exact qtf d (by have:=h.len y;omega)
def eE.iF(h:eE q ord){y n}(d:y<6)(hn:n<(q.tb y).length){a}(f:a∈((q.tb y).getD n dP).rW):a∈ord:=by
 obtain⟨pre,post,e,g,_⟩:=h.row y d n hn;rw[e];grind
def eE.ok(h:eE q ord)(i:ord.length<=3000):q.Ok:=by
 refine⟨λe=>by have:=h.len e;omega,λe x hx=>?_⟩;by_cases he:e<6
 .obtain⟨n,hn,rfl⟩:=List.getElem_of_mem hx;have ex:(q.tb e)[n]=(q.tb e).getD n dP:=by rw[wg,wi hn];rfl
  rw[ex];obtain⟨g,_⟩:=h.cC e he n hn;have r:=g.b;have o:=g.nt;have k:=g.np;refine⟨ab,λa j=>h.FB i (h.iF he hn (xH _ j)),λp f=>⟨h.FB i (h.iF he hn (ud _ (wY.2 ⟨p,f,rfl⟩))),?_⟩,ab,ab⟩;have:=g.d p f;omega
 .rw[h.out e ab] at hx;cases hx
def qk4(x:Lp){i}(a:i<x.l.nt+x.l.np):Zh x.l i∈x.rW:=by
 have a:i<x.th.length+x.ps.length:=a;unfold Zh Lp.rW;by_cases c:i<x.th.length
 .rw[wl (show i<x.l.nt from c)];refine xH _ ?_;show x.th.getD i bA∈_;rw[wg,wi c];grind
 .rw[wh (show ¬i<x.l.nt from c)];refine ud _ (wY.2 ⟨x.ps.getD (i-x.th.length) dV,?_,rfl⟩);grind
def qqS(h:eE q ord){x:Lp}(g:x.G)(hn:∀a∈x.rW,a∈ord):D4 q.tt x.l=true:=by
 unfold D4;have s:(decide (x.b=0) || decide (x.b=1))=true:=by simpa using g.b
 have r:(decide (4<x.l.nt) || decide (4096<x.l.np))=false:=by
  have A:=g.nt;have u:=g.np;show(decide (4<x.th.length) || decide (4096<x.ps.length))=false;grind
 have o:qL (D3 q.tt x.l) x.l.nt=true:=(qI _ _).2 λi e=>by
  have e:i<x.th.length:=e;show q.tt.has (x.th.getD i bA)=true;refine h.has (hn _ (xH _ ?_));rw[wg,wi e];grind
 have k:qL (Bl q.tt x.l) x.l.np=true:=(qI _ _).2 λi e=>by
  have e:i<x.ps.length:=e;have f:x.ps.getD i dV∈x.ps:=by rw[wg,wi e];grind
  show(q.tt.has (x.ps.getD i dV).id&&(decide ((x.ps.getD i dV).d=0) || decide ((x.ps.getD i dV).d=1)))=true;rw[h.has (hn _ (ud _ (wY.2 ⟨_,f,rfl⟩)))];simpa using g.d _ f
 have j:(za x.l.ps x.l.np).1=x.l.np:=qmD g.red;rw[show(decide (x.l.b=0) || decide (x.l.b=1))=true from s,r,o,k,j];simp
def qoG(h:eE q ord):qL (B5 q.tt) q.tt.h=true:=by
 refine(qI _ _).2 λy d=>(qI _ _).2 λi e=>?_;have d:y<6:=d;have e:=e;obtain⟨g,j⟩:=h.cC y d i e;unfold CZ;rw[wd];refine⟨qqS h g λa f=>h.iF d e f,?_⟩;by_cases c:i=0
 .rw[show(q.tt.L y i).w=true from j c];simp
 .simp[c]
def P9(f:Nat->aw)(L:List (List Int)):∀{k n:Nat},k<=n->kA f k L <:+ kA f n L
 |k,0,h=>by grind
 |k,n+1,h=>by
  by_cases q:k=n+1
  .grind
  .exact(P9 f L (by omega)).trans (List.suffix_cons _ _)
def Q1(l:Nat->cQ)(L:List (List Int)):∀{k n:Nat},k<=n->kB l k L <:+ kB l n L
 |k,0,h=>by grind
 |k,n+1,h=>by
  by_cases q:k=n+1
  .grind
  .exact(Q1 l L (by omega)).trans (P9 _ _ (wN _))
def WY(t:bt):∀{k n:Nat},k<=n->kC t k <:+ kC t n
 |k,0,h=>by grind
 |k,n+1,h=>by
  by_cases q:k=n+1
  .grind
  .exact(WY t (by omega)).trans (Q1 _ _ (wN _))
def qtg{t}{n}(h:(kC t n).Nodup):qL (uU t) n=true:=by
 refine(qI _ _).2 λy d=>(qI _ _).2 λi f=>(qI _ _).2 λk e=>?_;unfold C2;have s:kA (t.L y i).th (k+1) (kB (t.L y) i (kC t y)) <:+ kC t n:=(P9 _ _ (show k+1<=(t.L y i).nt by omega)).trans ((Q1 (t.L y) (kC t y) (show i+1<=t.ln y by omega)).trans (WY t (show y+1<=n by omega)));have a:=List.Nodup.sublist s.sublist h;simp only[kA,xu] at a;grind
def qqT{a b}(h:nZ a=nZ b):a=b:=by
 cases a;cases b;simp only[nZ,List.cons.injEq,and_true] at h;grind
def Ys.iw(q:Ys):List aw:=(List.range 6).flatMap λy=>(q.tb y).flatMap Lp.th
def Q2(l:List aw)(L):(kA (λj=>l.getD j bA) l.length L).Perm (l.map nZ++L):=by
 have key:∀n,n<=l.length->(kA (λj=>l.getD j bA) n L).Perm ((l.take n).map nZ++L):=λn=>by
  induction n with
  |zero=>intro _;rfl
  |succ n a =>
   intro hn;have a:=a ab;have e:l.take (n+1)=l.take n++[l.getD n bA]:=by
    rw[ui,wg,wi ab];rfl
   rw[e,vh,wP];exact(a.cons _).trans List.perm_middle.symm
 have:=key l.length (wc _);rwa[xh] at this
def qth(r:List Lp)(L):(kB (λj=>(r.getD j dP).l) r.length L).Perm ((r.flatMap Lp.th).map nZ++L):=by
 have key:∀n,n<=r.length->(kB (λj=>(r.getD j dP).l) n L).Perm (((r.take n).flatMap Lp.th).map nZ++L):=λn=>by
  induction n with
  |zero=>intro _;rfl
  |succ n a =>
   intro hn;have a:=a ab;have e:r.take (n+1)=r.take n++[r.getD n dP]:=by
    rw[ui,wg,wi ab];rfl
   rw[e,List.flatMap_append,vh];refine(Q2 (r.getD n dP).th _).trans ?_;grind
 have:=key r.length (wc _);rwa[xh] at this
def Q3(q:Ys)(L):∀n,(kD q.tt L n).Perm ((((List.range n).flatMap λy=>(q.tb y).flatMap Lp.th).map nZ)++L)
 |0=>.refl _
 |n+1=>by
  have a:=Q3 q L n;rw[vV,List.flatMap_append,vh];have d:[n].flatMap (λy=>(q.tb y).flatMap Lp.th)=(q.tb n).flatMap Lp.th:=by simp
  refine(qth _ _).trans ((vE _ a).trans ?_);rw[←wP];grind
def WZ(t:bt):∀n,kC t n=kD t [] n
 |0=>rfl
 |n+1=>by show kB _ _ (kC t n)=kB _ _ (kD t [] n);rw[WZ t n]
def W5{l:List aw}(h:l.Nodup):(l.map nZ).Nodup:=by
 unfold List.Nodup;rw[List.pairwise_map];exact List.Pairwise.imp (λd a=>d (qqT a)) h
def qoH(a:q.iw.Nodup):qL (uU q.tt) q.tt.h=true:=by
 refine qtg (n:=6) ?_;rw[WZ];refine((Q3 q [] 6).nodup_iff).2 ?_;rw[vu];exact W5 a
end
def FC(M:Nat->Nat):Nat:=M 0+M 1+M 2+M 3+M 4+M 5
section
variable {q:Ys} {ord:List aw}
def qiS{α:Type}{l a b c d:List α}{x:α}(hn:l.Nodup)(h1:l=a++x::b)(h2:l=c++x::d):a=c:=by
 subst h1
 induction a generalizing c with
 |nil =>
  cases c with
  |nil=>rfl
  |cons y c =>
   grind
 |cons z a e =>
  cases c with
  |nil =>
   grind
  |cons y c =>
   simp only[up] at h2 hn;injection h2 with g f;subst g;rw[xu] at hn;rw[e hn.2 f]
def qqU(h:eE q ord)(M:Nat->Nat)(S:∀y,y<6->M y<=(q.tb y).length):∀(k:Nat) (pre post:List aw) (y n:Nat),pre.length=k->y<6->ord=pre++nm y n::post->M y<=n->∃z,z<6/\rO q.tt M z=true:=by
 intro k
 induction k using Nat.strongRecOn with
 |_ k D =>
  intro pre post y n E o e hn;have B:nm y n∈ord:=by rw[e];simp
  obtain⟨O,Q,V,r,L⟩:=h.mem _ B;obtain⟨rfl,rfl⟩:=P8 L;obtain⟨N,U,C,k3,R⟩:=h.row y o n r;obtain rfl:=qiS h.nodup e C;have back:∀a∈pre,∀z m,a=nm z m->z<6->M z<=m->∃z,z<6/\rO q.tt M z=true:=by
   intro a I z m J hz g;obtain⟨s,A,rfl⟩:=List.append_of_mem I;refine D s.length (by simp at E;omega) s (A++nm y n::post) z m rfl hz ?_ g;rw[e,←J];simp
  by_cases c:n=M y
  .subst c;by_cases f:rO q.tt M y=true
   .exact⟨y,o,f⟩
   .unfold rO at f;rw[wd,not_and] at f;have j:=f (by simpa using (show M y<q.tt.ln y from r));rw[qI] at j;simp only[Classical.not_forall] at j;obtain⟨i,H,x⟩:=j;have g:=qk4 ((q.tb y).getD (M y) dP) (i:=i) H;obtain⟨z,m,hz,P,u⟩:=h.mem _ (h.iF o r g);refine back _ (k3 _ g) z m u hz ?_;have d:¬(iw (cM M) (Zh ((q.tb y).getD (M y) dP).l i)=true):=x;rw[u] at d;unfold iw cM nm at d;simp only[wm,wn] at d;rw[show((z:Int)+1-1).toNat=z by omega] at d;omega
  grind
def Xb(h:eE q ord)(M:Nat->Nat)(j:∀y,y<6->M y<=(q.tb y).length)(g:FC M<ord.length):∃y,pick q.tt M=some y:=by
 have k:∃y,y<6/\M y<(q.tb y).length:=by
  refine Classical.byContradiction λc=>?_;have a:∀y,y<6->(q.tb y).length<=M y:=λy d=>by
   grind
  have B:=a 0 ab;have A:=a 1 ab;have u:=a 2 ab;have s:=a 3 ab;have r:=a 4 ab;have o:=a 5 ab;have:=h.tE;unfold Ys.tE at this;unfold FC at g;omega
 obtain⟨y,d,i⟩:=k;obtain⟨pre,post,e,_⟩:=h.row y d (M y) i;obtain⟨z,hz,hr⟩:=qqU h M j pre.length pre post y (M y) rfl d e (wc _);cases f:pick q.tt M with
 |some x=>grind
 |none =>
  unfold pick at f;rw[List.find?_eq_none] at f;exact absurd hr (f z (by simpa using (show z<q.tt.h from hz)))
def qmH(M:Nat->Nat){y:Nat}(a:y<6):FC (inc M y)=FC M+1:=by
 cases ZH a
 all_goals
  simp[FC,inc]
  try omega
def Xc(k:Nat):∀y,y<6->oM q.tt k y<=(q.tb y).length:=λy a=>O8 q.tt k y a
def Xd(h:eE q ord):∀k,k<=ord.length->FC (oM q.tt k)=k
 |0,_=>rfl
 |k+1,e=>by
  have d:=Xd h k ab;obtain⟨y,a⟩:=Xb h (oM q.tt k) (Xc k) ab;simp only[oM];rw[a];dsimp only;rw[qmH _ (UZ a).1,d]
def qoI(h:eE q ord):yS q.tt=ord.length:=by
 unfold yS;rw[show q.tt.sum q.tt.h=ord.length from q.sum.trans h.tE,Pa q.tt ord.length ord.length (wc _) (λj a=>by
  obtain⟨y,e⟩:=Xb h (oM q.tt j) (Xc j) (by rw[Xd h j ab];exact a);grind[uW]) (.inl rfl) ord.length (wc _)]
 omega
def qwT(h:eE q ord)(a:q.iw.Nodup)(d:ord.length<=2048):yU q.tt=0:=by
 unfold yU;rw[wh (by show ¬(6≠6);omega),show q.tt.sum q.tt.h=ord.length from q.sum.trans h.tE,wh ab,qoG h,qoH a,qoI h];simp
end
def aU.p(c:aU):aw:=⟨c.ay,c.an⟩
def aU.q(c:aU):aw:=⟨c.cy,c.cn⟩
def Mo(x y:aU):Bool:=decide (Js x.ay x.an x.cy x.cn y.ay y.an y.cy y.cn<0)
structure Xe(y:Yn)(n:Nat)(ord:List aw):Prop where
 ct:y.ct=n
 rQ:y.i=true->(y.pl = -13∨y.pl=179)/\y.pe.length<=4096/\BH y.pe/\∀p∈y.pe,p.id∈ord/\(p.d=0∨p.d=1)
 out:y.i=false->y.pl=0/\y.w=false/\y.pe=[]
structure gQ(w:bJ)(ord:List aw):Prop where
 iN:eE w.q ord
 len:ord.length<=2048
 part:(w.q.iw++w.he++w.fa).Perm ord
 Q4:∀i,i+1<w.fa.length->uY (w.fa.getD i bA) (w.fa.getD (i+1) bA)<0
 Dm:∀c∈w.cr,c.p∈ord/\c.q∈ord/\uY c.p c.q<0/\c.n≠0/\-1048576<=c.n/\c.n<=1048576
 Xf:∀i,i+1<w.cr.length->Mo (w.cr.getD i lH) (w.cr.getD (i+1) lH)=true
 Xg:w.cr.length<=1000000
 yo:∀y,6<=y->w.q.Y y=yz
 yr:∀y,y<6->Xe (w.q.Y y) (w.q.tb y).length ord
 sn:1<=w.sl.length/\w.sl.length<=16
 sb:∀s∈w.sl,(s.b=0∨s.b=1)/\1<=s.l.length/\s.l.length<=3
 held:bH w.sl=w.he
 d:w.d=0∨w.d=1
def bJ.nz(w:bJ):oI:=⟨λj=>(w.sl.getD j aO).b,{ n:=w.sl.length,g:=λi j=>((w.sl.getD i aO).l).getD j bA,l:=λi=>(w.sl.getD i aO).l.length,c:=none }⟩
def bJ.F(w:bJ):dC:=⟨w.q.tt,λj=>w.cr.getD j lH,w.cr.length,λj=>w.he.getD j bA,w.he.length,λj=>w.fa.getD j bA,w.fa.length⟩
def bJ.w(w:bJ):dc:=⟨w.nz,λe=>(w.q.Y e).y,6,w.F,w.d⟩
def zT{α}{l:List α}{d:α}{i}(h:i<l.length):l.getD i d∈l:=by
 grind
section
variable {w:bJ} {ord:List aw}
def gQ.fok(h:gQ w ord):w.F.Ok:=by
 have k:=h.len;have sub:∀a,a∈w.he∨a∈w.fa->a∈ord:=λa d=>h.part.mem_iff.1 (by
  grind)
 have e:=h.part.length_eq;simp at e;refine⟨(h.iN.ok ab).tt,λi=>?_,h.Xg,λi=>jV Py (λa d=>h.iN.FB ab (sub a (.inl d))) i,by show w.he.length<=_;omega,λi=>jV Py (λa d=>h.iN.FB ab (sub a (.inr d))) i,by show w.fa.length<=_;omega⟩;refine jV ⟨⟨by decide,by decide⟩,⟨by decide,by decide⟩⟩ (λc f=>?_) i;obtain⟨j,g,_⟩:=h.Dm c f;exact⟨h.iN.FB ab j,h.iN.FB ab g⟩
def gQ.Mp(h:gQ w ord):w.w.Ok:=by
 refine⟨h.fok,λi=>?_⟩;show(w.q.Y i).pe.length<=1000000;by_cases c:i<6
 .have a:=h.yr i c;cases d:(w.q.Y i).i with
  |true=>have:=(a.rQ d).2.1;omega
  |false=>rw[(a.out d).2.2];grind
 .rw[h.yo i ab];exact wN _
def Xh(h:eE w.q ord)(f:ord.length<=2048){a}(d:a∈ord):so a=true:=by
 obtain⟨y,n,e,hn,rfl⟩:=h.mem a d;have:=h.len y;unfold so nm;simp;omega
def qqV(h:eE w.q ord)(a:ord.length<=2048){p:bl}(hp:p.id∈ord/\(p.d=0∨p.d=1)):uw p.y p.n p.d=true:=by
 have:=Xh h a hp.1;simp only[so,wd,wm] at this;have this:1<=p.y/\p.y<=6/\0<=p.n/\p.n<2048:=this;unfold uw;grind
def qqW(h:eE w.q ord)(o:ord.length<=2048){y:Yn}{n}(hn:n<=2048)(g:Xe y n ord):Bs y.y=0:=by
 unfold Bs;have s:(decide (y.ct<0) || decide (2048<y.ct))=false:=by rw[g.ct];grind
 rw[show(decide (y.y.ct<0) || decide (2048<y.y.ct))=false from s,wq];cases a:y.i with
 |true =>
  obtain⟨f,e,d,k⟩:=g.rQ a;rw[show y.y.i=true from a,wp];have j:(E9 y.pl&&decide (y.pe.length<=4096))=true:=by
   rw[wt e,Bool.and_true];rcases f with q|q
   .rw[q];decide
   .rw[q];decide
  rw[show(E9 y.y.pl&&decide (y.y.np<=4096))=true from j,wp];have r:qL (D9 y.y) y.y.np=true:=(qI _ _).2 λi a=>by
   have a:i<y.pe.length:=a;unfold D9;rw[wd];refine⟨qqV h o (k _ (zT a)),?_⟩;show(!(decide (0<i)&&sm (y.pe.getD (i-1) dV) (y.pe.getD i dV)))=true;by_cases c:0<i
   .have:=d (i-1) ab;rw[show i-1+1=i by omega] at this;rw[this];simp
   .simp[c]
  rw[r];rfl
 |false =>
  obtain⟨f,e,d⟩:=g.out a;rw[show y.y.i=false from a,wq];have j:(decide (y.pl=0)&&(!y.w&&decide (y.pe.length=0)))=true:=by rw[f,e,d];rfl
  rw[show(decide (y.y.pl=0)&&(!y.y.w&&decide (y.y.np=0)))=true from j];rfl
def gQ.fit(h:gQ w ord):qL (u5 w.w) 6=true:=by
 refine(qI _ _).2 λy j=>?_;have f:=h.yr y j;have B:=h.iN.len y;have A:=h.len;unfold u5 ux;have s:Bs (w.w.Y y)=0:=qqW h.iN h.len ab f;rw[s];have r:decide ((w.w.Y y).ct=ofNat (w.w.F.t.ln y))=true:=wt f.ct;rw[r];have o:((w.w.Y y).i&&(!decide ((w.w.Y y).pl = -13)&&!decide ((w.w.Y y).pl=179)))=false:=by
  show((w.q.Y y).i&&(!decide ((w.q.Y y).pl = -13)&&!decide ((w.q.Y y).pl=179)))=false;cases a:(w.q.Y y).i with
  |false=>rfl
  |true =>
   rcases (f.rQ a).1 with q|q
   .rw[q];decide
   grind
 rw[o];have k:qL (B9 w.w.F.t (w.w.Y y)) (w.w.Y y).np=true:=(qI _ _).2 λi a=>by
  have a:i<(w.q.Y y).pe.length:=a;cases g:(w.q.Y y).i with
  |false=>rw[(f.out g).2.2] at a;grind
  |true =>
   have q:=((f.rQ g).2.2.2 _ (zT (d:=dV) a)).1;unfold B9;rw[wd];refine⟨Xh h.iN h.len q,?_⟩;obtain⟨z,n,hz,hn,e⟩:=h.iN.mem _ q;show decide (((w.q.Y y).pe.getD i dV).n<((w.q.tb (((w.q.Y y).pe.getD i dV).y-1).toNat).length:Int))=true;have x:((w.q.Y y).pe.getD i dV).y=(z:Int)+1:=vA aw.y e;have u:((w.q.Y y).pe.getD i dV).n=(n:Int):=vA aw.n e;rw[x,u,show((z:Int)+1-1).toNat=z by omega,wm];omega
 rw[k];rfl
end
section
variable {w:bJ} {ord:List aw}
def Xi{a b}(h:uY a b<0):¬0<=uY a b:=ab
def gQ.Q5(h:gQ w ord):Bt w.F=0:=by
 have e:qL (AJ w.F) w.F.nc=true:=(qI _ _).2 λi a=>by
  have a:i<w.cr.length:=a;obtain⟨k,j,g,f,r,o⟩:=h.Dm _ (zT a);unfold AJ;simp only[wd,wR,wV];refine⟨h.iN.has k,h.iN.has j,?_,?_,?_,f,?_⟩
  .exact Xi g
  .show ¬(w.cr.getD i lH).n < -1048576;omega
  .show ¬1048576<(w.cr.getD i lH).n;omega
  .by_cases c:0<i
   .have:=h.Xf (i-1) ab;rw[show i-1+1=i by omega] at this;unfold Mo at this;rw[wm] at this;rw[wt c,wQ,wV];show ¬0<=Js (w.cr.getD (i-1) lH).ay (w.cr.getD (i-1) lH).an (w.cr.getD (i-1) lH).cy (w.cr.getD (i-1) lH).cn (w.cr.getD i lH).ay (w.cr.getD i lH).an (w.cr.getD i lH).cy (w.cr.getD i lH).cn;omega
   .simp[c]
 grind[Bt]
def qti{L}{l:List aw}(hp:L.Perm (l.map nZ))(hn:l.Nodup){a}(d:a∈l):vF L (nZ a)=1:=by
 rw[Lx (hp.nodup_iff.2 (W5 hn)),wl];grind
def gQ.Q6(h:gQ w ord):mJ w.F=0:=by
 have sub:∀a,a∈w.he∨a∈w.fa->a∈ord:=λa x=>h.part.mem_iff.1 (by
  simp only[wS];rcases x with q|q
  .exact .inl (.inr q)
  .exact .inr q)
 have E:qL (sS w.F.t w.F.he) w.F.nh=true:=(qI _ _).2 λi f=>h.iN.has (sub _ (.inl (zT f)));have D:qL (sS w.F.t w.F.fa) w.F.nf=true:=(qI _ _).2 λi f=>h.iN.has (sub _ (.inr (zT (d:=bA) (l:=w.fa) f)));have C:qL (AR w.F) w.F.nf=true:=(qI _ _).2 λi f=>by
  have f:i<w.fa.length:=f;unfold AR;by_cases c:0<i
  .have:=h.Q4 (i-1) ab;rw[show i-1+1=i by omega] at this;rw[wt c,wQ,wR,wV];exact Xi this
  .simp[c]
 have A:(ft w.F).Perm ((w.q.iw++w.fa++w.he).map nZ):=by
  unfold ft;have k:(kA (λj=>w.he.getD j bA) w.he.length []).Perm (w.he.map nZ++[]):=Q2 w.he [];have r:=Q2 w.fa (kA (λj=>w.he.getD j bA) w.he.length []);have k3:=Q3 w.q (kA (λj=>w.fa.getD j bA) w.fa.length (kA (λj=>w.he.getD j bA) w.he.length [])) 6;refine k3.trans ?_;rw[vh,vh,wP];refine vE _ (r.trans (vE _ ?_));rw[vu] at k;exact k
 have o:(w.q.iw++w.fa++w.he).Perm ord:=by
  refine List.Perm.trans ?_ h.part;rw[wP,wP];exact vE _ xp
 have s:=o.nodup_iff.2 h.iN.nodup;have B:qL (Dc w.F) w.F.t.h=true:=(qI _ _).2 λy g=>(qI _ _).2 λi f=>by
  have g:y<6:=g;have f:i<(w.q.tb y).length:=f;obtain⟨pre,post,e,_⟩:=h.iN.row y g i f;have u:nm y i∈w.q.iw++w.fa++w.he:=o.mem_iff.2 (by rw[e];simp);exact wt (qti A s u)
 grind[mJ]
def gQ.Q7(h:gQ w ord):kJ w.F (mJ w.F)=0:=by
 have a:w.q.iw.Nodup:=by
  have:=h.part.nodup_iff.2 h.iN.nodup;grind
 unfold kJ;rw[show yU w.F.t=0 from qwT h.iN a h.len,h.Q5,h.Q6];rfl
def Xk(l:List (List aw))(s:mq)(k:∀i,i<l.length->s.g i=λj=>(l.getD i []).getD j bA)(d:∀i,i<l.length->s.l i=(l.getD i []).length):∀n,n<=l.length →
 s.sum n=((l.take n).flatten).length/\∀a,((l.take n).flatten).length<=a->∀j,j<((l.take n).flatten).length->s.z a n j=((l.take n).flatten).getD j bA
 |0,_=>⟨rfl,λa _ j f=>absurd f aq⟩
 |n+1,hn=>by
  obtain⟨o,x⟩:=Xk l s k d n ab;have e:l.take (n+1)=l.take n++[l.getD n []]:=by
   rw[ui,wg,wi ab];rfl
  have u:(l.take (n+1)).flatten=(l.take n).flatten++l.getD n []:=by rw[e,xJ];simp
  rw[u];refine⟨by show s.sum n+s.l n=_;rw[o,d n ab,wC],λa r j f=>?_⟩;rw[wC] at r f;rw[YU];show(bif Nat.ble (0+s.sum n) j&&j.blt (0+s.sum n+(s.l n).min (a-s.sum n)) then s.g n (j-(0+s.sum n)) else s.z a n j)=_;rw[o,d n ab,wo,show(l.getD n []).length.min (a-((l.take n).flatten).length)=(l.getD n []).length from uf ab];by_cases c:j<((l.take n).flatten).length
  .rw[wl c,ZE ab];grind
  .rw[wh c,qR ab,qN ab,k n ab];rfl
def Xl(w:bJ):w.nz.hn=(bH w.sl).length/\∀j,j<(bH w.sl).length->w.nz.hz j=(bH w.sl).getD j bA:=by
 have key:=Xk (w.sl.map aB.l) w.nz.s.cap (λi a=>by
  rw[wW] at a;show(λj=>((w.sl.getD i aO).l).getD j bA)=_;rw[show(w.sl.map aB.l).getD i []=(w.sl.getD i aO).l by
   rw[wg,wg,wE,wi a];rfl]) (λi a=>by
  rw[wW] at a;show(w.sl.getD i aO).l.length=_;rw[show(w.sl.map aB.l).getD i []=(w.sl.getD i aO).l by
   rw[wg,wg,wE,wi a];rfl]) w.sl.length aq
 rw[List.take_of_length_le aq] at key;have e:w.nz.hn=(bH w.sl).length:=key.1;refine⟨e,λj d=>?_⟩;exact key.2 _ (by rw[e];exact wc _) j d
def gQ.Mq(h:gQ w ord):la w.w=0:=by
 unfold la;rw[wl ⟨rfl,rfl⟩,wl h.fit,wl (⟨h.sn,h.d⟩),wl ?_,wl (show kJ w.w.F (mJ w.w.F)=0 from h.Q7),wl ?_]
 .obtain⟨e,o⟩:=Xl w;show B8 w.nz.hz (λj=>w.he.getD j bA) w.nz.hn w.he.length=true;unfold B8;rw[←h.held,e,wt rfl,wQ];refine(qI _ _).2 λi a=>?_;grind[B7]
 .refine(qI _ _).2 λi a=>?_;obtain⟨k,g,f⟩:=h.sb _ (zT a);unfold u6;simp only[wd,vI,wm];exact⟨k,g,f⟩
end
def qmJ{α:Type}(l:List α)(d:α){i:Nat}(h:i<l.length):l=l.take i++l.getD i d::l.drop (i+1):=by
 simp_all
def qk6{K n i:Nat}(h:i<n):(zG K n).getD i bA=nm K i:=by
 simp[zG,wg,h]
def Xm{K n:Nat}{a:aw}:a∈zG K n↔∃i,i<n/\a=nm K i:=by
 simp only[zG,wY,xk];grind
def jZ(K n:Nat):(zG K n).length=n:=by simp[zG]
def qmK(K n:Nat):(zG K n).Nodup:=by
 unfold zG List.Nodup;rw[List.pairwise_map];exact List.Pairwise.imp (λ{a b} d e=>d (P8 e).2) List.nodup_range
def Hu(n:Nat):List Lp:=(List.range n).map λj=>⟨0,decide (j=0),[],[]⟩
def Xn{n i:Nat}(h:i<n):(Hu n).getD i dP=⟨0,decide (i=0),[],[]⟩:=by
 simp[Hu,wg,h]
section
variable {K n:Nat}
def Z2(e:Nat):(Kc K n).q.tb e=if e=K then Hu n else []:=LY K e n
def Q8(e:Nat):(Kc K n).q.Y e=if e=K then ⟨true,179,(n:Int),decide (n=0),[]⟩ else yz:=by rw[←WU,jY]
def yt(n:Nat):(Hu n).length=n:=by simp[Hu]
def qmL(k:K<6):eE (Kc K n).q (zG K n):=by
 refine⟨λy j m d=>?_,λy j m d=>?_,λa g=>?_,qmK K n,λy j=>?_,?_⟩
 .rw[Z2] at d ⊢;by_cases c:y=K
  ·subst c;rw[wl rfl,yt] at d;rw[wl rfl,Xn d];have e:=qmJ (zG y n) bA (i:=m) (by rw[jZ];exact d);rw[qk6 d] at e;refine⟨_,_,e,λa g=>(by cases g),λo=>?_⟩;have:(zG y n).take m=zG y m:=by
    unfold zG;rw[←List.map_take,List.take_range,uf ab]
   rw[this];exact Xm.2 ⟨m-1,ab,rfl⟩
  grind
 .rw[Z2] at d ⊢;by_cases c:y=K
  .subst c;rw[wl rfl,yt] at d;rw[wl rfl,Xn d];exact⟨⟨.inl rfl,wN _,wN _,λp r=>(by cases r),λi f=>absurd f aq⟩,λo=>by simpa using o⟩
  grind
 .obtain⟨i,f,rfl⟩:=Xm.1 g;exact⟨K,i,k,by rw[Z2,wl rfl,yt];exact f,rfl⟩
 .rw[Z2,wh ab]
 .rw[jZ];unfold Ys.tE;simp only[Z2];cases ZH k
  all_goals simp[yt]
def qmM(o:K<6)(h1:1<=n)(r:n<=16):gQ (Kc K n) (zG K n) where
 iN:=qmL o
 len:=by rw[jZ];omega
 part:=by
  have:(Kc K n).q.iw=[]:=by
   unfold Ys.iw;rw[List.flatMap_eq_nil_iff];intro y _;rw[List.flatMap_eq_nil_iff];intro x hx;rw[Z2] at hx;split at hx
   .obtain⟨j,_,rfl⟩:=wY.1 hx;rfl
   grind
  rw[this];show([]++zG K n++[]).Perm _;rw[List.nil_append,vu]
 Q4:=λi a=>absurd a (by show ¬i+1<0;omega)
 Dm:=λc k=>(by cases k)
 Xf:=λi a=>absurd a (by show ¬i+1<0;omega)
 Xg:=wN _
 yo:=λy e=>by rw[Q8,wh ab]
 yr:=λy e=>by
  rw[Q8,Z2];by_cases c:y=K
  .rw[wl c,wl c,yt];exact⟨rfl,λ_=>⟨.inr rfl,wN _,(λi a=>absurd a aq),(λp g=>(by cases g))⟩,λh=>(by cases h)⟩
  .rw[wh c,wh c];exact⟨rfl,λh=>(by cases h),λ_=>⟨rfl,rfl,rfl⟩⟩
 sn:=by show 1<=(yW K n).length/\(yW K n).length<=16;rw[Kd];omega
 sb:=λs f=>by
  obtain⟨i,_,rfl⟩:=wY.1 (show s∈yW K n from f);grind
 held:=V4 K n
 d:=.inl rfl
end
def Mr(x:aU)(a b:aw):eD x a b=true↔x.ay=a.y/\x.an=a.n/\x.cy=b.y/\x.cn=b.n:=by
 grind[eD]
def Ms(x:aU)(a b:aw):fu x a b=true↔x.ay<a.y∨x.ay=a.y/\(x.an<a.n∨x.an=a.n/\(x.cy<b.y∨x.cy=b.y/\x.cn<b.n)):=by
 grind[fu]
def tI(x y:aU):Prop:=x.ay<y.ay∨x.ay=y.ay/\(x.an<y.an∨x.an=y.an/\(x.cy<y.cy∨x.cy=y.cy/\x.cn<y.cn))
def YW(a b:aw)(s:Int):List aU->List aU
 |[]=>[u9 a b s]
 |x::l=>bif eD x a b then(bif !decide ((iM a b s x).n=0) then iM a b s x::l else l) else bif fu x a b then x::YW a b s l else u9 a b s::x::l
def Q9(a b:aw)(s:Int):∀(l o:List aU),(∀x∈l,eD x a b=false/\x.n≠0)->l.foldl (fE a b s) (o,true)=(o++l,true)
 |[],o,_=>by simp
 |x::l,o,h=>by
  obtain⟨g,f⟩:=h x aq;have e:fE a b s (o,true) x=(o++[x],true):=by
   grind[iM,KI,fE]
  rw[List.foldl_cons,e,Q9 a b s l (o++[x]) λy d=>h y (by simp[d])];simp
def Xo{x y:aU}{a b:aw}(h:tI x y)(d:fu x a b=false):eD y a b=false:=by
 cases e:eD y a b with
 |false=>rfl
 |true =>
  rw[Mr] at e;have:fu x a b=true:=(Ms x a b).2 (by unfold tI at h;omega);rw[this] at d;cases d
def qqX{x:aU}{a b:aw}(h:eD x a b=true):fu x a b=false:=by
 cases e:fu x a b with
 |false=>rfl
 |true =>
  rw[Mr] at h;rw[Ms] at e;omega
def Ra(a b:aw)(s:Int):∀(l o:List aU),l.Pairwise tI->(∀x∈l,x.n≠0)->jF a b s (l.foldl (fE a b s) (o,false))=o++YW a b s l
 |[],o,_,_=>rfl
 |x::l,o,j,hn=>by
  have i:=xr.1 j;have hx:=hn x aq;rw[List.foldl_cons];cases g:eD x a b with
  |true =>
   have f:=qqX g;have e:fE a b s (o,false) x=(bif !decide ((iM a b s x).n=0) then o++[iM a b s x] else o,true):=by
    grind[KI,fE]
   rw[e,Q9 a b s l _ λy d=>⟨Xo (i.1 y d) f,hn y (by simp[d])⟩];unfold jF YW;rw[g,wp,wp];cases !decide ((iM a b s x).n=0)<;>simp
  |false =>
   have ex:iM a b s x=x:=by grind[iM]
   cases f:fu x a b with
   |true =>
    have e:fE a b s (o,false) x=(o++[x],false):=by
     grind[KI,fE]
    rw[e,Ra a b s l (o++[x]) i.2 λy d=>hn y (by simp[d])];show _=o++(bif eD x a b then _ else bif fu x a b then x::YW a b s l else _);rw[g,f];simp
   |false =>
    have e:fE a b s (o,false) x=(o++[u9 a b s]++[x],true):=by
     grind[KI,fE]
    rw[e,Q9 a b s l _ λy d=>⟨Xo (i.1 y d) f,hn y (by simp[d])⟩];show o++[u9 a b s]++[x]++l=o++(bif eD x a b then _ else bif fu x a b then _ else u9 a b s::x::l);rw[g,f];simp
def qiT{l:List aU}(hp:l.Pairwise tI)(hn:∀x∈l,x.n≠0)(a b:aw)(s:Int):Z0 l a b s=bif Ce a b then YW b a s l else YW a b s l:=by
 unfold Z0;rw[Ra b a s l [] hp hn,Ra a b s l [] hp hn];rfl
def Rb(a b:aw)(s:Int):∀(l:List aU) (y:aU),y∈YW a b s l->(y.ay=a.y/\y.an=a.n/\y.cy=b.y/\y.cn=b.n)∨y∈l
 |[],y,h=>by
  obtain rfl:=wL.1 h;exact .inl ⟨rfl,rfl,rfl,rfl⟩
 |x::l,y,h=>by
  unfold YW at h;cases d:eD x a b with
  |true =>
   rw[d,wp] at h;have ex:=(Mr x a b).1 d;grind[iM]
  |false =>
   rw[d,wq] at h;cases e:fu x a b with
   |true =>
    rw[e,wp] at h;rcases wJ.1 h with h|h
    .grind
    .rcases Rb a b s l y h with q|q
     .exact .inl q
     grind
   |false =>
    rw[e,wq] at h;rcases wJ.1 h with h|h
    .rw[h];exact .inl ⟨rfl,rfl,rfl,rfl⟩
    grind
def Xp(a b:aw)(s:Int):∀(l:List aU),l.Pairwise tI->(YW a b s l).Pairwise tI
 |[],_=>List.pairwise_singleton _ _
 |x::l,g=>by
  have e:=xr.1 g;unfold YW;cases j:eD x a b with
  |true =>
   rw[wp];have key:iM a b s x=⟨x.ay,x.an,x.cy,x.cn,i64.wrap (x.n+s)⟩:=by grind[iM]
   cases !decide ((iM a b s x).n=0) with
   |true =>
    rw[wp,key];exact xr.2 ⟨λy d=>e.1 y d,e.2⟩
   |false=>grind
  |false =>
   rw[wq];cases f:fu x a b with
   |true =>
    rw[wp];refine xr.2 ⟨λy d=>?_,Xp a b s l e.2⟩;rcases Rb a b s l y d with⟨u,r,o,k⟩|q
    .have:=(Ms x a b).1 f;unfold tI;rw[u,r,o,k];exact this
    grind
   |false =>
    rw[wq];have i:tI (u9 a b s) x:=by
     have n1:¬(x.ay<a.y∨x.ay=a.y/\(x.an<a.n∨x.an=a.n/\(x.cy<b.y∨x.cy=b.y/\x.cn<b.n))):=λh=>by rw[(Ms x a b).2 h] at f;cases f
     have n2:¬(x.ay=a.y/\x.an=a.n/\x.cy=b.y/\x.cn=b.n):=λh=>by rw[(Mr x a b).2 h] at j;cases j
     show a.y<x.ay∨a.y=x.ay/\(a.n<x.an∨a.n=x.an/\(b.y<x.cy∨b.y=x.cy/\b.n<x.cn));omega
    refine xr.2 ⟨λy d=>?_,g⟩;rcases wJ.1 d with rfl|d
    .exact i
    .have A:=e.1 y d;unfold tI at i A ⊢;omega
def Xq(a b:aw)(s:Int):∀l:List aU,(YW a b s l).length<=l.length+1
 |[]=>wc _
 |x::l=>by
  have d:=Xq a b s l;unfold YW;cases eD x a b<;>cases (!decide ((iM a b s x).n=0))<;>cases fu x a b<;>simp<;>omega
def Xr(a b:aw)(s B:Int)(g:s=1∨s = -1)(hB:0<=B/\B<=1000000):∀(l:List aU),(∀x∈l,x.n≠0/\-B<=x.n/\x.n<=B)->∀x∈YW a b s l,x.n≠0/\-(B+1)<=x.n/\x.n<=B+1
 |[],_,y,h=>by
  obtain rfl:=wL.1 h;show s≠0/\_<=s/\s<=_;omega
 |x::l,d,y,h=>by
  have hx:=d x aq;have i:∀z∈l,z.n≠0/\-(B+1)<=z.n/\z.n<=B+1:=λz hz=>by
   have:=d z (by simp[hz]);omega
  unfold YW at h;cases e:eD x a b with
  |true =>
   rw[e,wp] at h;have key:(iM a b s x).n=x.n+s:=by
    unfold iM;rw[e];exact Qv (x:=x.n+s) ab ab
   grind
  |false =>
   rw[e,wq] at h;cases f:fu x a b with
   |true =>
    rw[f,wp] at h;rcases wJ.1 h with h|h
    .rw[h];omega
    .exact Xr a b s B g hB l (λz hz=>d z (by simp[hz])) y h
   |false =>
    rw[f,wq] at h;rcases wJ.1 h with h|h
    .rw[h];show s≠0/\_<=s/\s<=_;omega
    grind
structure FD(P:Nat)(y:Yn)(t:List Lp)(ord:List aw):Prop where
 ct:y.ct=t.length
 rQ:y.i=true->(y.pl = -13∨y.pl=179)/\y.pe.length<=P/\BH y.pe/\∀p∈y.pe,p.id∈ord/\(p.d=0∨p.d=1)
 out:y.i=false->y.pl=0/\y.w=false/\y.pe=[]/\t=[]
 fst:y.i=true->t=[]->y.w=true
structure cq(P:Nat->Nat)(q:Ys)(H fa ord:List aw):Prop where
 iN:eE q ord
 part:(q.iw++H++fa).Perm ord
 yo:∀y,6<=y->q.Y y=yz
 yr:∀y,y<6->FD (P y) (q.Y y) (q.tb y) ord
def ZI{α}(f)(K)(z:α):aA f K z K=z:=wl rfl
def JS{α}(f){K e}(z:α)(h:e≠K):aA f K z e=f e:=wh h
def eE.uE{q d}{ord}(h:eE q ord)(e:d.tb=q.tb):eE d ord:=by
 obtain⟨Y,tb⟩:=q;obtain⟨f,a⟩:=d;obtain rfl:a=tb:=e;exact⟨h.row,h.cC,h.mem,h.nodup,h.out,h.tE⟩
section
variable {P:Nat->Nat} {q:Ys} {H H' R fa ord:List aw} {K:Nat}
def FD.mono{P P'}{y}{t}{ord f}(h:FD P y t ord)(i:P<=P')(g:∀a,a∈ord->a∈f):FD P' y t f :=
 ⟨h.ct,λd=>⟨(h.rQ d).1,wM (h.rQ d).2.1 i,(h.rQ d).2.2.1,λp e=>⟨g _ ((h.rQ d).2.2.2 p e).1,((h.rQ d).2.2.2 p e).2⟩⟩,h.out,h.fst⟩
def cq.perm(h:cq P q H fa ord)(hp:H.Perm H'):cq P q H' fa ord:=⟨h.iN,(vt fa (vE q.iw hp)).symm.trans h.part,h.yo,h.yr⟩
def cq.mono{P':Nat->Nat}(h:cq P q H fa ord)(hp:∀y,P y<=P' y):cq P' q H fa ord:=⟨h.iN,h.part,h.yo,λy a=>(h.yr y a).mono (hp y) λ_=>id⟩
def cq.sub(h:cq P q H fa ord){a}(d:a∈H):a∈ord:=h.part.mem_iff.1 rx
def Xs{α}{l pre post}{x:α}(e:l=pre++x::post):x∈l:=by rw[e];simp
def eE.loop(h:eE q ord)(D:K<6)(b)(th)(hn:∀a∈th,a∈ord)(hp:∀p∈(q.Y K).pe,p.id∈ord)(A:((q.Y K).lp b th).G)(hw:q.tb K=[]->(q.Y K).w=true):eE (q.loop K b th) (ord++[nm K (q.tb K).length]):=by
 have s:(q.loop K b th).tb K=q.tb K++[(q.Y K).lp b th]:=ZI _ _ _;have o:∀{e},e≠K->(q.loop K b th).tb e=q.tb e:=λh=>JS _ _ h;refine⟨λy f n d=>?_,λy f n d=>?_,λa i=>?_,?_,λy f=>?_,?_⟩
 .by_cases c:y=K
  .subst c;rw[s] at d ⊢;rw[wC] at d;have d:n<(q.tb y).length+1:=d;rw[zS];by_cases z:n=(q.tb y).length
   .rw[wl z];refine⟨ord,[],by rw[z],λa i=>?_,λC=>?_⟩
    .rcases wS.1 i with k|k
     .exact hn a k
     .obtain⟨p,x,u⟩:=wY.1 k;rw[←u];exact hp p x
    .obtain⟨pre,post,e,_⟩:=h.row y f (n-1) ab;grind
   .rw[wh z];obtain⟨pre,post,e,j,g⟩:=h.row y f n ab;grind
  .rw[o c] at d ⊢;obtain⟨pre,post,e,j,g⟩:=h.row y f n d;grind
 .by_cases c:y=K
  .subst c;rw[s] at d ⊢;rw[wC] at d;have d:n<(q.tb y).length+1:=d;rw[zS];by_cases z:n=(q.tb y).length
   .rw[wl z];exact⟨A,λC=>hw (vU ab)⟩
   .rw[wh z];exact h.cC y f n ab
  .rw[o c] at d ⊢;exact h.cC y f n d
 .rcases wS.1 i with k|k
  .obtain⟨y,n,j,g,r⟩:=h.mem a k;refine⟨y,n,j,?_,r⟩;by_cases c:y=K
   .subst c;rw[s,wC];exact vg g (xR _ _)
   .rw[o c];exact g
  grind
 .rw[xq];refine⟨h.nodup,aq,λa i b B e=>?_⟩;obtain rfl:b=nm K (q.tb K).length:=by simpa using B
  obtain⟨y,n,j,g,r⟩:=h.mem a i;obtain⟨I,E⟩:=P8 (r.symm.trans e);grind
 .rw[o ab];exact h.out y f
 .rw[wC,←h.tE];unfold Ys.tE;grind
def qmP(q:Ys)(a:K<6)(b)(th):(q.loop K b th).iw.Perm (q.iw++th):=by
 have g:(q.loop K b th).tb K=q.tb K++[(q.Y K).lp b th]:=ZI _ _ _;have f:∀{e},e≠K->(q.loop K b th).tb e=q.tb e:=λh=>JS _ _ h;have i:List.range 6=tq:=rfl;have d:((q.Y K).lp b th).th=th:=rfl;unfold Ys.iw;rw[i];simp only[List.flatMap_cons,List.flatMap_nil,vu];generalize hz:q.loop K b th=z at *
 cases ZH a
 all_goals
  rw[g]
  (repeat rw[f ab])
  simp only[List.flatMap_append,List.flatMap_cons,List.flatMap_nil,vu,d,wP]
  (repeat refine vE _ ?_)
  first|exact .refl _|exact xp|exact xp.trans (by simp_all)
def cq.loop(h:cq P q H fa ord)(k:K<6)(d:(q.Y K).i=true){b:Int}(M:b=0∨b=1){th:List aw}(L:th.length<=4)(N:P K<=4096)(A:H.Perm (th++R))(o:H'.Perm (lJ q K::R)) :
 cq P (q.loop K b th) H' fa (ord++[nm K (q.tb K).length]):=by
 have g:=h.yr K k;obtain⟨D,C,B,x⟩:=g.rQ d;have r:lJ q K=nm K (q.tb K).length:=by unfold lJ nm;rw[g.ct];rfl
 have Q:(q.loop K b th).tb K=q.tb K++[(q.Y K).lp b th]:=ZI _ _ _;have O:∀{e},e≠K->(q.loop K b th).tb e=q.tb e:=λh=>JS _ _ h;have yK:(q.loop K b th).Y K=(q.Y K).next:=ZI _ _ _
 have u:∀{e},e≠K->(q.loop K b th).Y e=q.Y e:=λh=>JS _ _ h;refine⟨h.iN.loop k b th (λa j=>h.sub (A.mem_iff.2 (wS.2 (.inl j)))) (λp f=>(x p f).1) ⟨M,L,wM C N,λp f=>(x p f).2,B⟩ (g.fst d),?_,λy s=>by rw[u ab];exact h.yo y s,λy s=>?_⟩
 ·have J:((q.loop K b th).iw++H'++fa).Perm ((q.iw++th)++(lJ q K::R)++fa):=vt fa ((vt H' (qmP q k b th)).trans (vE _ o));have I:((q.iw++th)++(lJ q K::R)++fa).Perm (lJ q K::(q.iw++(th++R)++fa)):=by
   rw[wP,wP,up];rw[←wP];refine List.perm_middle.trans ?_;simp_all
  have E:(q.iw++(th++R)++fa).Perm ord:=(vt fa (vE q.iw A)).symm.trans h.part;refine J.trans (I.trans ((List.Perm.cons _ E).trans ?_));rw[r];exact xp (l₁:=[_])
 .by_cases c:y=K
  .subst c;rw[Q,yK];refine⟨?_,λ_=>⟨D,wN _,(λi d=>absurd d (by simp[Yn.next])),λp f=>(by cases f)⟩,λd=>(by cases d),λ_ e=>by simp_all⟩;show(q.Y y).ct+1=_;rw[g.ct];simp
  .rw[O c,u c];exact(h.yr y s).mono (wc _) λa j=>wS.2 (.inl j)
def cq.dp(h:cq P q H fa ord)(f:K<6){y}{P'}(d:FD P' y (q.tb K) ord):cq (aA P K P') (q.dp K y) H fa ord:=by
 have a:∀{e},e≠K->(q.dp K y).Y e=q.Y e:=λh=>JS _ _ h;refine⟨h.iN.uE rfl,h.part,λe he=>by rw[a ab];exact h.yo e he,λe he=>?_⟩;by_cases c:e=K
 .subst c;rw[ZI,show(q.dp e y).Y e=y from ZI _ _ _];exact d
 .rw[JS _ _ c,a c];exact h.yr e he
def qoK{l}{p}(h:BH l):BH (n6 l p):=by
 unfold n6;split
 .intro i a;rw[uh] at a;rw[kL _ _ ab,kL _ _ ab];exact h i ab
 .rename_i c;intro i a;rw[wC] at a;have a:i+1<l.length+1:=a;rw[zS,zS,wh ab];by_cases z:i+1=l.length
  .rw[wl z];have c:¬((decide (0<l.length)&&sm (l.getD (l.length-1) dV) p)=true):=c;rw[wt ab,wQ,←z,show i+1-1=i by omega] at c;grind
  .rw[wh z];exact h i ab
def Xt:∀(m l:List bl),BH l->BH (yV l m)
 |[],_,h=>h
 |p::m,l,h=>Xt m (n6 l p) (qoK h)
def qoL{l}{p x}(h:x∈n6 l p):x∈l∨x=p:=by
 unfold n6 at h;split at h
 .exact .inl (List.dropLast_subset l h)
 grind
def Xu:∀(m l:List bl) (x:bl),x∈yV l m->x∈l∨x∈m
 |[],_,_,h=>.inl h
 |p::m,l,x,h=>by
  rcases Xu m (n6 l p) x h with k|k
  .rcases qoL k with k|k
   .exact .inl k
   .exact .inr (by rw[k];simp)
  grind
def cq.e8(h:cq P q H fa ord)(o:K<6)(g:(q.Y K).i=true)(m)(x:∀p∈m,p.id∈ord/\(p.d=0∨p.d=1)):cq (aA P K (P K+m.length)) (q.e8 K m) H fa ord:=by
 have f:=h.yr K o;obtain⟨u,s,r,j⟩:=f.rQ g;have A:Zt (q.Y K).pe m=yV (q.Y K).pe m:=WC m _ (λp a=>(j p a).2) (λp a=>(x p a).2);unfold Ys.e8;rw[A];refine h.dp o ⟨f.ct,λ_=>⟨u,?_,Xt _ _ r,λp a=>?_⟩,λe=>(by rw[g] at e;cases e),λ_ e=>f.fst g e⟩
 .exact wM (WD _ _) (Nat.add_le_add_right s _)
 .rcases Xu _ _ _ a with k|k
  .exact j p k
  grind
end
def sX(l:List aB):Prop:=l.length<=4/\∀x∈l,(x.b=0∨x.b=1)/\x.l.length<=4
def sY(s:am)(l:List aB):Nat:=if s.k=3 then 1 else l.length
def Hv(s:am)(l:List aB):Prop:=(s.k=3->l=[])/\(s.k=6->l≠[])
def AW(s:am)(l:List aB):t8 :=
 if s.k=3 then [1] else if s.k=6 then(match l with|[]=>[]|a::t=>(a.l.length+1)::t.map λx=>x.l.length) else if s.k=7 then l.map λx=>x.l.length else l.map λ_=>1
def uF(s:am)(l l':List aB):Prop:=l'.map (λx=>x.l.length)=AW s l/\∀x∈l',x.b=0∨x.b=1
def Z3(s)(l):bH (s::l)=s.l++bH l:=rfl
def yF(a b:List aB):bH (a++b)=bH a++bH b:=by unfold bH;rw[vh,xJ]
def Xv(a):(bH a.reverse).Perm (bH a):=by
 induction a with
 |nil=>simp_all
 |cons s l d =>
  rw[List.reverse_cons,yF,Z3];refine xp.trans ?_;show(s.l++[]++bH l.reverse).Perm _;rw[vu];exact vE _ d
def j0{l}{s}(h:s∈l){a}(d:a∈s.l):a∈bH l:=List.mem_flatten.2 ⟨s.l,wY.2 ⟨s,h,rfl⟩,d⟩
section
variable {P:Nat->Nat} {q:Ys} {H H' R fa ord:List aw} {K:Nat}
def Rc(q:Ys)(K)(b)(th):((q.loop K b th).Y K).i=true:=by
 show((aA q.Y K (q.Y K).next) K).i=true;rw[ZI];rfl
def Xw{q:Ys}{K}(h:(q.Y K).i=true)(m):((q.e8 K m).Y K).i=true:=by
 show((aA q.Y K _) K).i=true;rw[ZI];exact h
def Rd(k:K<6)(j:P K<=4096):∀(l:List aB) (q:Ys) (R ord:List aw),cq P q (bH l++R) fa ord->(q.Y K).i=true->(∀x∈l,(x.b=0∨x.b=1)/\x.l.length<=4) →
 ∃a,cq P (lK K q l).1 (bH (lK K q l).2++R) fa a/\a.length=ord.length+l.length/\((lK K q l).1.Y K).i=true
 |[],q,R,ord,h,d,_=>⟨ord,h,rfl,d⟩
 |s::l,q,R,ord,h,d,g=>by
  have f:=g s aq;have r:=h.loop (R:=bH l++R) k d f.1 (th:=s.l) f.2 j (by rw[Z3,wP]) List.perm_middle;obtain⟨a,m,e,o⟩:=Rd k j l (q.loop K s.b s.l) (lJ q K::R) _ r (Rc _ _ _ _) λx hx=>g x (wX _ hx);refine⟨a,m.perm ?_,?_,o⟩
  .show List.Perm _ (bH (⟨s.b,[lJ q K]⟩::(lK K (q.loop K s.b s.l) l).2)++R);rw[Z3];exact List.perm_middle
  grind
def j3(K):∀(l:List aB) (q:Ys),((lK K q l).2.map λx=>x.l.length)=l.map (λ_=>1)/\(lK K q l).2.map aB.b=l.map aB.b
 |[],_=>⟨rfl,rfl⟩
 |s::l,q=>by
  obtain⟨d,a⟩:=j3 K l _;exact⟨by show 1::_=1::_;rw[←d],by show s.b::_=s.b::_;rw[←a]⟩
def qqY(j:K<6)(g:P K<=4096)(right)(l)(h:cq P q (bH l++R) fa ord)(d:(q.Y K).i=true)(f:∀x∈l,(x.b=0∨x.b=1)/\x.l.length<=4) :
 ∃a,cq P (BD K right q l).1 (bH (BD K right q l).2++R) fa a/\a.length=ord.length+l.length/\((BD K right q l).1.Y K).i=true:=by
 cases right with
 |true=>exact Rd j g l q R ord h d f
 |false =>
  obtain⟨a,m,e,k⟩:=Rd j g l.reverse q R ord (h.perm (vt R (Xv l).symm)) d λx hx=>f x (List.mem_reverse.1 hx);exact⟨a,m.perm (vt R (Xv _).symm),by rw[e,xf],k⟩
def qk7(K)(right)(l)(q):((BD K right q l).2.map λx=>x.l.length)=l.map (λ_=>1)/\(BD K right q l).2.map aB.b=l.map aB.b:=by
 cases right with
 |true=>exact j3 K l q
 |false =>
  obtain⟨d,a⟩:=j3 K l.reverse q;refine⟨?_,?_⟩
  .show(lK K q l.reverse).2.reverse.map _=_;rw[ur,d,ur,List.reverse_reverse]
  .show(lK K q l.reverse).2.reverse.map _=_;rw[ur,a,ur,List.reverse_reverse]
def Xx(s)(r):(z8 s r).length=s.l.length:=by unfold z8;cases r<;>simp
def Re{s}{r}{p}(h:p∈z8 s r):p.id∈s.l/\(p.d=0∨p.d=1):=by
 cases r with
 |true =>
  obtain⟨i,a,rfl⟩:=wY.1 h;exact⟨a,.inr rfl⟩
 |false =>
  obtain⟨i,a,rfl⟩:=wY.1 h;exact⟨List.mem_reverse.1 a,.inl rfl⟩
def Rf{a b n m:Nat}(P)(K)(h:a<=b):∀y,aA P K a y<=aA P K b y:=λy=>by
 grind[aA]
def Xy{a b}(P)(K)(h:a<=b){c:Nat}:∀y,aA (aA P K c) K a y<=aA P K b y:=λy=>by
 grind[aA]
def Hw(P)(K){a:Nat}(h:P K<=a):∀y,P y<=aA P K a y:=λy=>by
 grind[aA]
def Rg(j:K<6)(right:Bool):∀(l:List aB) (P:Nat->Nat) (q:Ys),cq P q H fa ord->(q.Y K).i=true->(∀s∈l,(∀a∈s.l,a∈ord)/\s.l.length<=4) →
 cq (aA P K (P K+4*l.length)) (l.foldl (λq s=>q.e8 K (z8 s right)) q) H fa ord/\((l.foldl (λq s=>q.e8 K (z8 s right)) q).Y K).i=true
 |[],P,q,h,d,_=>⟨h.mono (Hw P K ab),d⟩
 |s::l,P,q,h,d,g=>by
  have e:=g s aq;have o:=h.e8 j d (z8 s right) λp f=>⟨e.1 _ (Re f).1,(Re f).2⟩;obtain⟨m,k⟩:=Rg j right l _ _ o (Xw d _) λx hx=>g x (wX _ hx);refine⟨m.mono (Xy P K ?_),k⟩;rw[ZI,Xx,vc];have:=e.2;omega
def qoM(o:K<6)(right){l}(h:cq P q H fa ord)(k:(q.Y K).i=true)(e:sX l)(j:∀a∈bH l,a∈ord) :
 cq (aA P K (P K+16)) (BE K right q l) H fa ord/\((BE K right q l).Y K).i=true:=by
 unfold BE;cases right with
 |true =>
  obtain⟨m,f⟩:=Rg o true l P q h k λs d=>⟨λa g=>j a (j0 d g),(e.2 s d).2⟩;exact⟨m.mono (Rf (n:=0) (m:=0) P K (by have:=e.1;omega)),f⟩
 |false =>
  obtain⟨m,f⟩:=Rg o false l.reverse P q h k λs d=>⟨λa g=>j a (j0 (List.mem_reverse.1 d) g),(e.2 s (List.mem_reverse.1 d)).2⟩;rw[xf] at m;exact⟨m.mono (Rf (n:=0) (m:=0) P K (by have:=e.1;omega)),f⟩
def qqZ(r:K<6)(A:P K<=4096)(right:Bool)(s){l}(h:cq P q (bH l++R) fa ord)(g:(q.Y K).i=true)(o:sX l)(hw:Hv s l) :
 ∃u,cq (aA P K (P K+16)) (oq K right s q l).1 (bH (oq K right s q l).2++R) fa u/\u.length<=ord.length+sY s l/\((oq K right s q l).1.Y K).i=true:=by
 have x:=Hw P K (a:=P K+16) ab;unfold oq sY;by_cases j:s.k=3
 .rw[wl j,wl j];have e:=hw.1 j;subst e;exact⟨_,(h.loop (th:=[]) (R:=R) (H':=bH [⟨0,[lJ q K]⟩]++R) r g (.inl rfl) (wN _) A (.refl _) (.refl _)).mono x,aq,Rc _ _ _ _⟩
 rw[wh j,wh j];by_cases B:s.k=6
 .rw[wl B]
  match l,hw.2 B with
  |a::t,_ =>
   refine⟨_,(h.loop (th:=[]) (R:=bH (a::t)++R) (H':=bH (⟨a.b,a.l++[lJ q K]⟩::t)++R) r g (.inl rfl) (wN _) A (.refl _) ?_).mono x,?_,Rc _ _ _ _⟩
   .rw[Z3,Z3];simp_all
   .simp
 rw[wh B];by_cases C:s.k=7
 ·rw[wl C];have J:∀p∈z8 (l.getD 0 aO) right,p.id∈ord/\(p.d=0∨p.d=1):=λp I=>by
   obtain⟨f,D⟩:=Re I;refine⟨h.sub (wS.2 (.inl ?_)),D⟩
   match l,f with
   |[],f=>cases f
   |a::t,f=>exact j0 (s:=a) aq f
  refine⟨ord,(h.e8 r g _ J).mono (Rf (n:=0) (m:=0) P K ?_),ab,Xw g _⟩;rw[Xx]
  match l,o with
  |[],_=>exact xR _ _
  |a::t,o =>
   have:=(o.2 a aq).2;grind
 rw[wh C];obtain⟨u,m,e,E⟩:=qqY r A right l h g o.2;exact⟨u,m.mono x,ab,E⟩
def Rh(K)(right)(s)(q){l}(d:sX l):uF s l (oq K right s q l).2:=by
 unfold oq uF AW;by_cases i:s.k=3
 .rw[wl i,wl i];grind
 rw[wh i,wh i];by_cases g:s.k=6
 .rw[wl g,wl g]
  match l,d with
  |[],_=>grind
  |a::t,d =>
   refine⟨rx,λx hx=>?_⟩;rcases wJ.1 hx with r|r
   .rw[r];exact(d.2 a aq).1
   .exact(d.2 x (by simp[r])).1
 rw[wh g,wh g];by_cases f:s.k=7
 .rw[wl f,wl f];exact⟨rfl,λx hx=>(d.2 x hx).1⟩
 rw[wh f,wh f];obtain⟨u,o⟩:=qk7 K right l q;refine⟨u,λx hx=>?_⟩;have:x.b∈(BD K right q l).2.map aB.b:=wY.2 ⟨x,hx,rfl⟩;rw[o] at this;obtain⟨y,j,e⟩:=wY.1 this;rw[←e];exact(d.2 y j).1
end
def Ri(K):∀(a b:List aB) (q:Ys),lK K q (a++b)=((lK K (lK K q a).1 b).1,(lK K q a).2++(lK K (lK K q a).1 b).2)
 |[],b,q=>rfl
 |s::a,b,q=>by
  have d:=Ri K a b (q.loop K s.b s.l);show((lK K _ (a++b)).1,⟨s.b,[lJ q K]⟩::(lK K _ (a++b)).2)=_;rw[d];rfl
def qoN(K)(l)(q):(lK K q l).2.length=l.length:=by
 have h:=vA List.length (j3 K l q).1;grind
def zC{α}(l:List α)(d:α){i}(h:i<l.length):l.take (i+1)=l.take i++[l.getD i d]:=by
 rw[ui,wg,wi h];rfl
def qk8{α}(l:List α)(d:α){i}(h:i<l.length):l.drop i=l.getD i d::l.drop (i+1):=by
 rw[List.drop_eq_getElem_cons h,wg,wi h];rfl
def Xz{α}(a b)(x z:α):(a++x::b).set a.length z=a++z::b:=by
 grind
def XB{α}(a b)(x d:α):(a++x::b).getD a.length d=x:=by
 simp
def XC(K:Nat)(q)(l):∀i,i<=l.length->uD K true q l i=((lK K q (l.take i)).1,(lK K q (l.take i)).2++l.drop i)
 |0,_=>rfl
 |i+1,h=>by
  have d:=XC K q l i ab;show Hn K i (uD K true q l i)=_;rw[d,zC l aO ab,Ri,qk8 l aO ab];have a:(lK K q (l.take i)).2.length=i:=by rw[qoN,vL];omega
  generalize hz:lK K q (l.take i)=z at *
  unfold Hn;have f:(z.2++l.getD i aO::l.drop (i+1)).getD i aO=l.getD i aO:=by
   have:=XB z.2 (l.drop (i+1)) (l.getD i aO) aO;rw[a] at this;omega
  have e:∀w,(z.2++l.getD i aO::l.drop (i+1)).set i w=z.2++w::l.drop (i+1):=λw=>by
   have:=Xz z.2 (l.drop (i+1)) (l.getD i aO) w;rw[a] at this;omega
  show(z.1.loop K _ _,(z.2++l.getD i aO::l.drop (i+1)).set i _)=_;rw[e,f];show _=(z.1.loop K (l.getD i aO).b (l.getD i aO).l,z.2++[⟨(l.getD i aO).b,[lJ z.1 K]⟩]++l.drop (i+1));rw[wP];rfl
def XD(K:Nat)(q)(l):∀i,i<=l.length->uD K false q l i=((lK K q (l.reverse.take i)).1,l.take (l.length-i)++(lK K q (l.reverse.take i)).2.reverse)
 |0,_=>by
  show(q,l)=(q,l.take (l.length-0)++[]);rw[Nat.sub_zero,xh,vu]
 |i+1,h=>by
  have e:=XD K q l i ab;show Hn K (l.length-1-i) (uD K false q l i)=_;have f:l.reverse.getD i aO=l.getD (l.length-1-i) aO:=by
   rw[wg,wg,xO ab]
  rw[e,zC l.reverse aO (by rw[xf];omega),Ri,f,show l.length-i=l.length-1-i+1 by omega,zC l aO (i:=l.length-1-i) ab];have a:(l.take (l.length-1-i)).length=l.length-1-i:=by rw[vL];omega
  rw[show l.length-(i+1)=l.length-1-i by omega];generalize hz:lK K q (l.reverse.take i)=z at *
  generalize r:l.getD (l.length-1-i) aO=d at *
  generalize o:l.length-1-i=m at *
  have k:l.take m++[d]++z.2.reverse=l.take m++d::z.2.reverse:=by rw[wP];rfl
  rw[k];unfold Hn;have j:(l.take m++d::z.2.reverse).getD m aO=d:=by
   have:=XB (l.take m) z.2.reverse d aO;rw[a] at this;omega
  have g:∀w,(l.take m++d::z.2.reverse).set m w=l.take m++w::z.2.reverse:=λw=>by
   have:=Xz (l.take m) z.2.reverse d w;rw[a] at this;omega
  show(z.1.loop K _ _,(l.take m++d::z.2.reverse).set m _)=(z.1.loop K d.b d.l,l.take m++(z.2++[(⟨d.b,[lJ z.1 K]⟩:aB)]).reverse);rw[g,j,List.reverse_append];rfl
def XE(K)(right)(q)(l):uD K right q l l.length=BD K right q l:=by
 cases right with
 |true =>
  rw[XC K q l l.length (wc _),xh,List.drop_length,vu];rfl
 |false =>
  rw[XD K q l l.length (wc _),va,List.take_zero,List.nil_append,show l.reverse.take l.length=l.reverse by rw[←xf,xh]];rfl
def Ei(s:am)(l:List aB):Nat:=if s.k=3∨s.k=6 then 1 else if s.k=7 then 0 else l.length
def qk9(r:Rw)(k):r.gu k (r.sl k)=r:=by
 unfold Rw.gu;have e:aA r.sl k (r.sl k)=r.sl:=funext λe=>by
  grind[aA]
 rw[e]
structure tJ(r:Rw)(k:Nat):Prop where
 b:sX (r.sl k)
 n:(r.sl k).length<=r.bn k
 ne:∀a∈r.sl k,a.l≠[]
def ou(s:am)(r:Rw)(k:Nat):Prop:=(s.k=6->∃sl,r.sl k=[sl]/\r.bn k=1)/\(s.k=7->r.sl k≠[])
def stT(q)(x)(hx:x.Im)(v)(r)(hr:r.n<=16)(K:Nat)(o:K<6)(s:am)(i:s.y=ofNat K+1)(u:s.k≠3)(right:Bool)(k:Nat)(j:k<16)(gm:gJ q K 8)(ok:tJ r k)(B:ou s r k) :
 aR au G16 98 [p0,.agg s.c,.own (10+k) (r.vs k) 0 (r.sl k).length none,iI (rI right)] (q.hw x v (r.h [])) (.own (10+k) (r.vs k) 0 (r.sl k).length none)
  ((oq K right s q (r.sl k)).1.hw x (aA v K (v K+Ei s (r.sl k))) ((r.gu k (oq K right s q (r.sl k)).2).h [])):=by
 unfold oq Ei;rw[wh u];by_cases g:s.k=6
 .rw[wl g,wl (.inr g)];obtain⟨sl,e,D⟩:=B.1 g;have H:=(ok.b.2 sl (by rw[e];simp)).2;have E:=ok.ne sl (by rw[e];simp);have:=qoB q x hx v r hr K o s i g (gm.mono ab) (rI right) k j sl e D (un.2 E) ab;rw[e];omega
 rw[wh g,wh (show ¬(s.k=3∨s.k=6) from λh=>h.elim u g)];by_cases f:s.k=7
 .rw[wl f,wl f,Mk,qk9];have A:0<(r.sl k).length:=un.2 (B.2 f);refine qoC q x v r K o s i f (gm.mono ab) right k j (r.sl k).length A (by have:=ok.n;omega) ?_;have:=(ok.b.2 _ (Z1 (d:=aO) A)).2;omega
 rw[wh f,wh f,←XE];exact qoE q x hx v r hr K o s i u g f right k j (gm.mono (by have:=ok.b.1;omega)) ok.n λa C=>⟨ok.ne a C,by have:=(ok.b.2 a C).2;omega⟩
def Rw.Hx(r:Rw)(k:Nat)(l:List aB):Rw:={ r with vs:=aA r.vs k (r.vs k+1),bn:=aA r.bn k 1,sl:=aA r.sl k l }
def Mt{i vi j a:Nat}{x:T}(hx:aF x=true):m9 i vi j a x=x:=by
 cases x<;>first|rfl|(simp[aF,zV] at hx;done)|(unfold m9;grind)
def XG{i vi a m aj off len:Nat}{c:Option Nat}(h:m<26):m9 i vi 26 a (.own m aj off len c) = .own m aj off len c:=by
 show(bif m==26 then _ else _)=_;rw[show(m==26)=false by grind];rfl
def qq1(r:Rw)(k:Nat)(id:List aB)(a:id.length=1)(j:Nat)(d:j<16):[T.own (10+j) (aA r.vs k (r.vs k+1) j) 0 (aA r.sl k id j).length none]=[bif j==k then T.own 26 0 0 1 none else .own (10+j) (r.vs j) 0 (r.sl j).length none].map (m9 (10+k) (r.vs k) 26 0):=by
 unfold aA;by_cases c:j=k
 .subst c;rw[wl rfl,wl rfl,wF,a];rfl
 .rw[wh c,wh c,show(j==k)=false by grind,wq];show _=[m9 _ _ _ _ _];rw[XG ab]
def qtj(i vi a:Nat)(x:Wx)(hx:x.Im):[x.sl,.own 1 0 0 6 none,.own 2 0 0 6 none,x.cr,x.he,x.fa,uI x.d]=[x.sl,.own 1 0 0 6 none,.own 2 0 0 6 none,x.cr,x.he,x.fa,uI x.d].map (m9 i vi 26 a):=by
 show _=[m9 i vi 26 a x.sl,.own 1 0 0 6 none,.own 2 0 0 6 none,m9 i vi 26 a x.cr,m9 i vi 26 a x.he,m9 i vi 26 a x.fa,uI x.d];rw[Mt hx.sl,Mt hx.cr,Mt hx.he,Mt hx.fa]
def qtk(i vi a:Nat)(ln v:Nat->Nat)(e:Nat)(he:e<6):(tB ln v).get e=((tB ln v).get e).map (m9 i vi 26 a):=by
 show [T.own (3+e) _ _ _ _]=[m9 i vi 26 a (.own (3+e) _ _ _ _)];rw[XG ab]
def qtl{aa:t8}{nt:Nat}{l:t8}{K0:Nat}(h0:K0<=26)(q:Ys)(x:Wx)(hx:x.Im)(v:Nat->Nat)(r:Rw)(hr:r.n<=16)(k:Nat)(f:k<16)(id:List aB)(d:id.length=1){vs aW:t7}
 (g:vs.map (ad (10+k) (r.vs k) 26 0)=aW) :
 ak G16 aa nt l K0 vs (Hg (gq q x v) (Mm r.o r.n k r.vs (λj=>(r.sl j).length) (.own 26 0 0 1 none)) r.row [.mk 0 2 1 (λj=>(id.getD j aO).c) false false none]) aW (q.hw x v ((r.Hx k id).h [])):=by
 have u:=qtj (10+k) (r.vs k) 0 x hx;have s:=qtk (10+k) (r.vs k) 0 (λe=>(q.tb e).length) v;have i:=λj (a:j<r.n)=>qq1 r k id d j ab;refine .trans (ak.rD (10+k) 26 (bi:=r.row k) ab rfl h0 ?_ rfl rfl) ?_
 .cases Qb f
  all_goals rfl
 rw[show(r.row k).aj=r.vs k from rfl,show(ap.mk 0 2 1 (λj=>(id.getD j aO).c) false false none).aj=0 from rfl,g];refine .same ?_;cases Qb f
 all_goals
  refine .cons ⟨rfl,rfl,rfl,λh=>h,λ_ _=>u⟩ ?_ rfl
  repeat (first|exact .nil|refine .cons ⟨rfl,rfl,rfl,λh=>h,λ_ _=>rfl⟩ ?_ rfl|refine .cons ⟨rfl,rfl,rfl,λh=>h,λj a=>s j a⟩ ?_ rfl|refine .cons ⟨rfl,rfl,rfl,λh=>h,λj a=>i j a⟩ ?_ rfl)
def dl{α}(right:Bool)(l:List α):List α:=bif right then l else l.reverse
def Hz{α}(right)(l:List α):(dl right l).length=l.length:=by cases right<;>simp[dl]
def XH{α}(right)(l)(d:α){i}(h:i<l.length):(dl right l).getD i d=l.getD (jx right l.length i) d:=by
 cases right with
 |true=>rfl
 |false =>
  show l.reverse.getD i d=l.getD (l.length-1-i) d;rw[wg,wg,xO h]
def Dn(K:Nat)(right:Bool)(q:Ys)(l:List aB)(i:Nat):Ys:=((dl right l).take i).foldl (λq s=>q.e8 K (z8 s right)) q
def XI(K)(right)(q)(l):Dn K right q l l.length=BE K right q l:=by
 unfold Dn BE;rw[show(dl right l).take l.length=dl right l by rw[←Hz right l,xh]];rfl
def XJ(K)(right)(q)(l){i:Nat}(h:i<l.length):Dn K right q l (i+1)=(Dn K right q l i).e8 K (z8 (l.getD (jx right l.length i) aO) right):=by
 unfold Dn;rw[zC _ aO (by rw[Hz];exact h),xC,XH right l aO h];rfl
def Rl(s)(right):(z8 s right).length=s.l.length:=by unfold z8;cases right<;>simp
def Rm(K)(right)(q)(l)(d:∀a∈l,a.l.length<=4)(B):∀i,i<=l.length->gJ q K (B+4*i)->gJ (Dn K right q l i) K B
 |0,_,h=>h
 |i+1,e,h=>by
  rw[XJ K right q l ab];refine gJ.e8 ?_;have:=Rm K right q l d _ i ab (by rw[show B+4+4*i=B+4*(i+1) by omega];exact h);refine this.mono ?_;rw[Rl];grind[jx]
def FE{right}{n i}(h:i<n):jx right n i<n:=by unfold jx;cases right<;>simp<;>omega
def XK{right}{n i}(h:i<n)(hn:n<1000000):(bif decide (rI right=0) then i64.wrap (i64.wrap (ofNat n-1)-ofNat i) else ofNat i)=ofNat (jx right n i):=by
 cases right with
 |true=>rfl
 |false =>
  show i64.wrap _=ofNat (n-1-i);rw[Qv (x:=ofNat n-1) bP bP,Qv bP bP];grind
def ex:Ex:=.normal
def qoO(h0:qa)(q:Ys)(x:Wx)(v:Nat->Nat)(r)(K)(E:K<6)(G:Nat->am)(M i wk:Nat)(right:Bool)(k:Nat)(u:k<16)(B:k<r.n)(ok:tJ r k)(gm:gJ q K 20) :
 Pq 62 h0 [2,2,2,0,1,2,0,0,2] ca [p0,aN G M none,oL r.o r.n,yK K,iI (rI right),iI (ofNat wk),iI (ofNat i),iI (ofNat k)] (q.hw x v (r.h []))
  .normal b7 [p0,aN G M none,oL r.o r.n,yK K,iI (rI right),iI (ofNat wk),iI (ofNat i)] ((BE K right q (r.sl k)).hw x v (r.h [])):=by
 obtain⟨Eh,Q⟩:=qz au G16 24;obtain⟨P5,P⟩:=qz au G16 99;have run:=λ{p l W h l1 X h1 e} (k:cD 62 p l W h l1=some (e,X,h1))=>aP h0 k
 let l:=r.sl k
 let n:=l.length
 have hn4:n<=4:=ok.b.1
 let a:T:=p0
 let row:T:=aN G M none
 let f:T:=iI (rI right)
 let w:T:=iI (ofNat wk)
 let g:T:=iI (ofNat i)
 let s:T:=iI (ofNat k)
 let V:Nat->t7:=λj=>[a,row,oL r.o r.n,yK K,f,w,g,s,iI (ofNat j)]
 let st:Nat->Ys:=λj=>Dn K right q l j
 let d:Nat->qa:=λj=>(st j).hw x v (r.h [])
 obtain⟨e1,e2⟩:=P4 E;have S:(decide (0<=ofNat K)&&decide (ofNat K<6))=true:=by grind
 have A:∀j,d j=Hg (gq (st j) x v) (ot r.o r.n r.vs (λj=>(r.sl j).length)) (fX r.row k (gX (r.vs k) (r.bn k) (r.sl k))) []:=λj=>P1 (st j) x v r k [];have I:dj k r.n=true:=by unfold dj;grind
 have round:∀j,j<n->Pq 62 h0 [0,0,2,2,2,2,0,1,2,0,0,2] cj (V j) (d j) .normal cj (V (j+1)) (d (j+1)):=by
  intro j D
  let m:=jx right n j
  have R:m<n:=FE D;have lj:gJ (st j) K 4:=Rm K right q l (λa ha=>(ok.b.2 a ha).2) 4 j (by omega) (gm.mono ab)
  let sl:=l.getD m aO
  have hsl:sl.l.length<=4:=(ok.b.2 sl (Z1 R)).2;have O:=run ((ov9 a row f (yK K) w i j k u (gq (st j) x v) r.row r.o r.n r.vs (λj=>(r.sl j).length) (r.bn k) (r.sl k)).trans (qj aq (qj I (qj aq (qj (qN B) (qj aq (qj (wt rx) rfl)))))));have pB:=run (qwL a row (oL r.o r.n) (yK K) f w g s (ofNat j) (d j));have pC:Pq 62 h0 pg ef [a,row,oL r.o r.n,yK K,f,w,g,s,iI (ofNat j),iI (ofNat j)] (d j) .normal ef [a,row,oL r.o r.n,yK K,f,w,g,s,iI (ofNat j),iI (ofNat m)] (d j):=by
   have U:=qwP a row (yK K) w (rI right) (ofNat i) (ofNat j) (ofNat j) k u (gq (st j) x v) r.row r.o r.n r.vs (λj=>(r.sl j).length) (r.bn k) (r.sl k);have ej:=XK (right:=right) D ab;show Pq 62 h0 _ _ _ _ _ _ [_,_,_,_,_,_,_,_,_,iI (ofNat (jx right n j))] _;rw[←ej,A];cases right with
   |true=>exact run (U.trans (qB (by simp[rI]) rfl))
   |false=>exact run (U.trans (qj (by simp[rI]) (qj aq (qj I (qj aq (qj (qN B) (qj aq rfl)))))))
  have t1:TO 24 [.agg sl.c,f] (lR (z8 sl right)):=by
   have:=V1 (b:=sl.b) (l:=sl.l) (r:=rI right) ab (by cases right<;>simp[rI]);rw[WG] at this;exact this
  have Z:TO 99 [lR ((st j).Y K).pe,lR (z8 sl right)] (.new (lR (Zt ((st j).Y K).pe (z8 sl right)))):=Wd _ _ (by have:=lj.2.2.2.2;omega) (by rw[Rl];omega);have C:=qwQ Eh P5 x (λe=>((st j).Y e).y) (gq (st j) x v) r.row k u r.o r.n K wk i j m M (rI right) G r.vs (λj=>(r.sl j).length) (r.bn k) (r.sl k) (z8 sl right) (Zt ((st j).Y K).pe (z8 sl right));rw[e1,e2,show(r.sl k).getD (0+m) aO=sl by rw[wo]] at C;have cm:dj m (r.sl k).length=true:=by unfold dj;grind
  have C:=C.trans (qj S (qj (qN E) (P7 B (qj aq (qj cm (qj aq (qj (qN (by have:=ok.n;have:m<(r.sl k).length:=R;omega)) (qj (qu Q t1) (qj (qu P Z) (qj S (qj (by rw[qN E];rfl) rfl)))))))))));have pD:Pq 62 h0 ph ef [a,row,oL r.o r.n,yK K,f,w,g,s,iI (ofNat j),iI (ofNat m)] (d j) .normal cj [a,row,oL r.o r.n,yK K,f,w,g,s,iI (ofNat j)] (d (j+1)):=by
   rw[A j];refine Pz.post (bR (qr (qr qm (qn Q)) (qn P)) h0 C) λnt=>?_;show ak _ _ _ _ _ _ _ _ ((Dn K right q l (j+1)).hw x v (r.h []));rw[XJ K right q l D];unfold Ys.e8;rw[←P3,Mi];exact Zs (x:=x) (Y:=λe=>((st j).Y e).y) (ln:=λe=>((st j).tb e).length) (v:=v) (L:=λe j'=>(((st j).tb e).getD j' dP).l) (rest:=r.h []) (K:=K) (y:=(Yn.mk ((st j).Y K).i ((st j).Y K).pl ((st j).Y K).ct ((st j).Y K).w (Zt ((st j).Y K).pe (z8 sl right))).y) (.refl _)
  have N:=run (qwM a row (oL r.o r.n) (yK K) f w g s j (d (j+1)));rw[dH ab] at N;rw[←A] at O;exact ao O (ao (cO 3 (ao pB (ao pC pD))) N)
 have last:=run ((qwO a row f (yK K) w i n k u (gq (st n) x v) r.row r.o r.n r.vs (λj=>(r.sl j).length) (r.bn k) (r.sl k)).trans (qj aq (qj I (qj aq (qj (qN B) (qj aq (qB (gW (show ¬ofNat n<ofNat n by omega)) rfl)))))));rw[←A] at last;have lp:Pq 62 h0 [0,2,2,2,2,0,1,2,0,0,2] cj (V 0) (d 0) (.exit 2) b7 [a,row,oL r.o r.n,yK K,f,w,g] (d n):=Pz.count qh V d (n:=n) aq round (ed last);have p8:=run (ov8 a row (oL r.o r.n) (yK K) f w g s (d 0));have e:=XI K right q l;have H:=Pz.seq (p:=[2,2,2,0,1,2,0,0,2]) qh p8 (cO 2 lp);show Pq 62 h0 _ _ _ (d 0) _ _ _ ((BE K right q l).hw x v (r.h []));rw[←e];exact H
def Ke(a:Bool)(K:Nat)(p:am×List aB):Nat:=if a=true/\p.1.y=ofNat K+1 then sY p.1 p.2 else 0
section
variable {P:Nat->Nat} {q:Ys} {H H' R fa ord:List aw} {K:Nat}
def Rn(k:K<6)(right d):∀(t:List (am×List aB)) (P:Nat->Nat) (q:Ys) (R ord:List aw),cq P q (bH (t.map Prod.snd).flatten++R) fa ord->(q.Y K).i=true →
 (∀p∈t,sX p.2/\(p.1.y=ofNat K+1->Hv p.1 p.2))->P K+16*t.length<=4096 →
 ∃x,cq (aA P K (P K+16*t.length)) (me K right d q t).1 (bH (me K right d q t).2.flatten++R) fa x/\x.length<=ord.length+(t.map (Ke d K)).sum/\((me K right d q t).1.Y K).i=true
 |[],P,q,R,ord,h,f,_,_=>⟨ord,h.mono (Hw P K ab),aq,f⟩
 |(s,l)::t,P,q,R,ord,h,f,r,u=>by
  have j:=r (s,l) aq;have M:bH (((s,l)::t).map Prod.snd).flatten=bH l++bH (t.map Prod.snd).flatten:=yF _ _;rw[M] at h;have u:P K+16*(t.length+1)<=4096:=u;have step:∃A,cq (aA P K (P K+16)) (ly K right d s q l).1 (bH (ly K right d s q l).2++(bH (t.map Prod.snd).flatten++R)) fa A/\A.length<=ord.length+Ke d K (s,l)/\((ly K right d s q l).1.Y K).i=true:=by
   unfold ly;by_cases c:d=true/\s.y=ofNat K+1
   .rw[wl c];obtain⟨o,m,e,g⟩:=qqZ (P:=P) (R:=bH (t.map Prod.snd).flatten++R) k ab right s (by rw[←wP];exact h) f j.1 (j.2 c.2);exact⟨o,m,by unfold Ke;rw[wl c];exact e,g⟩
   .rw[wh c];have h':cq P q (bH l++(bH (t.map Prod.snd).flatten++R)) fa ord:=by rw[←wP];exact h
    obtain⟨m,g⟩:=qoM k right h' f j.1 λa L=>h'.sub (wS.2 (.inl L));exact⟨ord,m,xR _ _,g⟩
  obtain⟨C,m1,Q,I⟩:=step;have N:cq (aA P K (P K+16)) (ly K right d s q l).1 (bH (t.map Prod.snd).flatten++(bH (ly K right d s q l).2++R)) fa C:=m1.perm (by
   rw[←wP,←wP];exact vt R xp)
  obtain⟨B,D,O,E⟩:=Rn k right d t _ _ _ _ N I (λp J=>r p (wX _ J)) (by rw[ZI];omega);refine⟨B,(D.mono (Xy P K ?_)).perm ?_,?_,E⟩
  .rw[ZI,vc];omega
  .show List.Perm _ (bH ((ly K right d s q l).2::(me K right d (ly K right d s q l).1 t).2).flatten++R);rw[List.flatten_cons,yF,←wP];exact vt R xp
  grind
def Kf(K)(right a):∀(t:List (am×List aB)) (q:Ys),(me K right a q t).2.length=t.length/\∀i p,t[i]?=some p->∃e,(me K right a q t).2.getD i []=(ly K right a p.1 e p.2).2
 |[],_=>⟨rfl,λi p h=>rx⟩
 |(s,l)::t,q=>by
  obtain⟨g,f⟩:=Kf K right a t (ly K right a s q l).1;refine⟨by show _+1=_+1;rw[g],λi p d=>?_⟩
  match i,d with
  |0,d=>obtain rfl:(s,l)=p:=rx
        exact⟨q,rfl⟩
  |i+1,d=>exact f i p rx
def XL(x:K<6)(right f)(row)(d)(D:row.length=d.length)(h:cq P q (bH d.flatten++R) fa ord)(r:(q.Y K).i=true)
 (s:∀p∈row.zip d,sX p.2/\(p.1.y=ofNat K+1->Hv p.1 p.2)) (u:P K+16*row.length<=4096) :
 ∃A,cq (aA P K (P K+16*row.length)) (mu K right f row q d).1 (bH (mu K right f row q d).2.flatten++R) fa A/\A.length<=ord.length+((row.zip d).map (Ke f K)).sum/\((mu K right f row q d).1.Y K).i=true:=by
 have g:(row.zip d).length=row.length:=by rw[List.length_zip,D,Nat.min_self]
 have es:(row.zip d).map Prod.snd=d:=List.map_snd_zip ab;unfold mu;cases right with
 |true =>
  obtain⟨o,m,e,k⟩:=Rn x true f _ P q R ord (by rw[es];exact h) r s (by rw[g];exact u);rw[g] at m;grind
 |false =>
  have E:(((row.zip d).reverse).map Prod.snd).flatten=d.reverse.flatten:=by rw[ur,es]
  have j:∀l:List (List aB),(bH l.reverse.flatten).Perm (bH l.flatten):=λl=>by
   induction l with
   |nil=>simp_all
   |cons a t B =>
    have J:(a::t).reverse.flatten=t.reverse.flatten++a:=by simp
    have I:(a::t).flatten=a++t.flatten:=rfl;rw[J,I,yF,yF];exact xp.trans (vE _ B)
  obtain⟨o,m,e,k⟩:=Rn x false f (row.zip d).reverse P q R ord (by rw[E];exact h.perm (vt R (j d).symm)) r (λp C=>s p (List.mem_reverse.1 C)) (by rw[xf,g];exact u);rw[xf,g] at m;refine⟨o,m.perm (vt R (j _).symm),?_,k⟩;rw[ur,List.sum_reverse] at e;exact e
def Rp(K)(right g)(row)(d)(r:row.length=d.length)(q) :
 (mu K right g row q d).2.length=d.length/\∀i s l,row[i]?=some s->d[i]?=some l->∃k,(mu K right g row q d).2.getD i []=(ly K right g s k l).2:=by
 have o:(row.zip d).length=d.length:=by rw[List.length_zip,r,Nat.min_self]
 have x:∀i s l,row[i]?=some s->d[i]?=some l->(row.zip d)[i]?=some (s,l):=λi s l f j=>by
  rw[xy];exact⟨f,j⟩
 unfold mu;cases right with
 |true =>
  obtain⟨f,j⟩:=Kf K true g (row.zip d) q;grind
 |false =>
  obtain⟨f,j⟩:=Kf K false g (row.zip d).reverse q;rw[xf,o] at f;refine⟨by show(List.reverse _).length=_;rw[xf,f],λi s l a b=>?_⟩;have u:i<d.length:=by
   grind
  obtain⟨k,e⟩:=j (d.length-1-i) (s,l) (by
   grind)
  refine⟨k,?_⟩;rw[←e];show(List.reverse _).getD i []=_;rw[wg,wg,xO ab,f]
end
def XM{α}{d:α}{l m:List α}(h:l.length=m.length)(e:∀(i:Nat) (a:α),m[i]?=some a->l.getD i d=a):l=m:=by
 refine List.ext_getElem h λi g f=>?_;have:=e i m[i] (wi f);rw[←this,wg,wi g];rfl
def j4{α}{d:α}{l:List α}{i}(h:i<l.length):l[i]?=some (l.getD i d):=by
 rw[wg,wi h];rfl
def j5{α}{l:List α}{i}{a:α}(h:l[i]?=some a):i<l.length:=by
 grind
def XN{α β}{l:List α}{m}{p:α×β}(h:p∈l.zip m):∃i:Nat,l[i]?=some p.1/\m[i]?=some p.2:=by
 obtain⟨i,a⟩:=xo.1 h;exact⟨i,xy.1 a⟩
section
variable {P:Nat->Nat} {q:Ys} {H H' R fa ord:List aw} {K:Nat}
def qoP(s)(l):(AW s l).length=sY s l:=by
 unfold AW sY;by_cases d:s.k=3
 .rw[wl d,wl d];rfl
 rw[wh d,wh d];by_cases e:s.k=6
 .rw[wl e]
  match l with
  |[]=>rfl
  |a::t=>simp
 rw[wh e];split<;>simp
def uF.len{s}{l l'}(h:uF s l l'):l'.length=sY s l:=by
 rw[←qoP,←h.1,wW]
def Rq(s:am)(l:List aB):Prop:=sX l/\Hv s l/\(s.k=6->∀a∈l,a.l.length<=3)
def uF.b{s}{l l'}(h:uF s l l')(g:Rq s l):sX l':=by
 refine⟨?_,λx hx=>⟨h.2 x hx,?_⟩⟩
 .rw[h.len];unfold sY;have:=g.1.1;split<;>omega
 .have d:x.l.length∈AW s l:=by rw[←h.1];exact wY.2 ⟨x,hx,rfl⟩
  revert d;generalize x.l.length=n;unfold AW;by_cases j:s.k=3
  .rw[wl j];intro d;have:n=1:=by simpa using d
   omega
  rw[wh j];by_cases i:s.k=6
  .rw[wl i]
   match l,g with
   |[],_=>intro d;cases d
   |a::t,g =>
    intro d;rcases wJ.1 d with r|r
    .have:=g.2.2 i a aq;omega
    .obtain⟨y,f,e⟩:=wY.1 r;have:=(g.1.2 y (by simp[f])).2;omega
  rw[wh i];by_cases o:s.k=7
  .rw[wl o];intro d;obtain⟨y,f,e⟩:=wY.1 d;have:=(g.1.2 y f).2;omega
  grind
def qmT(P:Nat->Nat)(K):∀y,aA P K (P K) y<=P y:=λy=>by
 grind[aA]
def XO(r):zi r = -13∨zi r=179:=by cases r<;>simp[zi]
def qq2(k:K<6)(row:List am)(right)(p)(j:row.length=p.2.length)(h:cq P p.1 (bH p.2.flatten) fa ord)
 (E:∀t∈row.zip p.2,sX t.2/\(t.1.y=ofNat K+1->Hv t.1 t.2)) (hP:P K+32*row.length<=4096) :
 ∃u,cq (aA P K (P K+32*row.length)) (iy row right p K).1 (bH (iy row right p K).2.flatten) fa u/\u.length<=ord.length+((row.zip p.2).map (Ke true K)).sum ∧
  (iy row right p K).2.length=p.2.length/\∀(i:Nat) (s:am) (l:List aB),row[i]?=some s->p.2[i]?=some l->(s.y=ofNat K+1->uF s l ((iy row right p K).2.getD i []))/\(s.y≠ofNat K+1->(iy row right p K).2.getD i []=l):=by
 unfold iy;cases D:Jv row K with
 |false =>
  rw[wl rfl];refine⟨ord,h.mono (Hw P K ab),xR _ _,rfl,λi s l x I=>⟨λe=>?_,λ_=>?_⟩⟩
  .unfold Jv at D;rw[List.any_eq_false] at D;exact absurd (wt e) (D s (wx x))
  grind
 |true =>
  rw[wh aq];obtain⟨q,d⟩:=p;have j:row.length=d.length:=j;have h:cq P q (bH d.flatten) fa ord:=h;have HB:∃g:Ys,(if (q.Y K).i=false then q.dp K ⟨true,zi (!right),(q.Y K).ct,true,(q.Y K).pe⟩ else q)=g/\cq P g (bH d.flatten) fa ord/\(g.Y K).i=true:=by
   refine⟨_,rfl,?_⟩;cases r:(q.Y K).i with
   |true=>rw[wh aq];grind
   |false =>
    rw[wl rfl];have N:=h.yr K k;obtain⟨_,_,A,o4⟩:=N.out r;refine⟨(h.dp (y:=⟨true,zi (!right),(q.Y K).ct,true,(q.Y K).pe⟩) (P':=P K) k ⟨N.ct,λ_=>⟨XO _,?_,?_,?_⟩,λe=>(by cases e),λ_ _=>rfl⟩).mono (qmT P K),?_⟩
    .grind
    .show BH (q.Y K).pe;rw[A];exact λi r=>absurd r aq
    .grind
    .show(aA q.Y K _ K).i=true;rw[ZI]
  obtain⟨g,e1,m1,M⟩:=HB;simp only[];rw[e1];have Ro:cq P g (bH d.flatten++[]) fa ord:=by rw[vu];exact m1
  have Q:=Rp K (!right) false row d j g;have e2:(mu K (!right) false row g d).2=d:=XM Q.1 λi l r=>by
   obtain⟨L,e⟩:=Q.2 i (row.getD i ⟨0,0,0,0,false⟩) l (j4 (by rw[j];grind)) r;rw[e];unfold ly;rw[wh aq]
  have HD:∃f:Ys,(if (g.Y K).pl≠zi (!right) then(mu K (!right) false row g d).1 else g)=f/\∃u,cq (aA P K (P K+16*row.length)) f (bH d.flatten) fa u/\u.length<=ord.length/\(f.Y K).i=true:=by
   refine⟨_,rfl,?_⟩;by_cases c:(g.Y K).pl≠zi (!right)
   ·rw[wl c];obtain⟨o,m,e,i'⟩:=XL k (!right) false row d j Ro M E ab;rw[e2,vu] at m;refine⟨o,m,?_,i'⟩;have z:((row.zip d).map (Ke false K)).sum=0:=by
     have:(row.zip d).map (Ke false K)=(row.zip d).map λ_=>0:=ve λa _=>by unfold Ke;rw[wh aq]
     rw[this]
     induction row.zip d with
     |nil=>rfl
     |cons a t ih=>grind
    omega
   .rw[wh c];exact⟨ord,m1.mono (Hw P K ab),wc _,M⟩
  obtain⟨f,e3,o2,U,W,i2⟩:=HD;rw[e3];obtain⟨A,B,V,C⟩:=XL (R:=[]) k right true row d j (by rw[vu];exact U) i2 E (by rw[ZI];omega);have O:=Rp K right true row d j f;rw[vu] at B;have J:=B.yr K k;obtain⟨k1,Z,k3,X⟩:=J.rQ C;have S:=B.dp k (y:=⟨((mu K right true row f d).1.Y K).i,zi right,((mu K right true row f d).1.Y K).ct,((mu K right true row f d).1.Y K).w,((mu K right true row f d).1.Y K).pe⟩) (P':=P K+32*row.length)
   ⟨J.ct,λ_=>⟨XO _,by rw[ZI,ZI] at Z;grind,k3,X⟩,λe=>(by rw[show((mu K right true row f d).1.Y K).i=false from e] at C;cases C),J.fst⟩
  refine⟨A,S.mono λy=>?_,wM V (Nat.add_le_add_right W _),O.1,λi s l x I=>?_⟩
  .grind[aA]
  .obtain⟨L,e⟩:=O.2 i s l x I;have hz:(s,l)∈row.zip d:=wx (xy.2 ⟨x,I⟩);refine⟨λc=>?_,λc=>?_⟩
   .show uF s l ((mu K right true row f d).2.getD i []);rw[e];unfold ly;rw[wl ⟨rfl,c⟩];exact Rh K right s L (E _ hz).1
   grind[ly]
def XR(row:List am)(right:Bool)(p:Ys×List (List aB))(A:row.length=p.2.length)(h:cq P p.1 (bH p.2.flatten) fa ord)
 (x:∀(i:Nat) (s:am) (l:List aB),row[i]?=some s->p.2[i]?=some l->Rq s l) (E:∀(i:Nat) (s:am),row[i]?=some s->1<=s.y) (B:∀y,y<6->P y+32*row.length<=4096):∀k,k<=6 →
 ∃o,cq (λy=>if y<k then P y+32*row.length else P y) ((List.range k).foldl (iy row right) p).1 (bH ((List.range k).foldl (iy row right) p).2.flatten) fa o ∧
  o.length<=ord.length+((List.range k).map λK=>((row.zip p.2).map (Ke true K)).sum).sum/\((List.range k).foldl (iy row right) p).2.length=p.2.length ∧
  ∀(i:Nat) (s:am) (l:List aB),row[i]?=some s->p.2[i]?=some l->(1<=s.y/\s.y<=(k:Int)->uF s l (((List.range k).foldl (iy row right) p).2.getD i []))/\((k:Int)<s.y->((List.range k).foldl (iy row right) p).2.getD i []=l)
 |0,_=>⟨ord,h,aq,rfl,λi s l _ d=>⟨λc=>absurd c ab,λ_=>by rw[wg];grind⟩⟩
 |k+1,V=>by
  obtain⟨S,m1,U,n1,s1⟩:=XR row right p A h x E B k ab;rw[vV,xC];show ∃o,cq _ (iy row right ((List.range k).foldl (iy row right) p) k).1 (bH (iy row right ((List.range k).foldl (iy row right) p) k).2.flatten) fa o/\_/\(iy row right ((List.range k).foldl (iy row right) p) k).2.length=_/\∀i s l,_->_->(_->uF s l ((iy row right ((List.range k).foldl (iy row right) p) k).2.getD i []))/\(_->(iy row right ((List.range k).foldl (iy row right) p) k).2.getD i []=l);generalize hz:(List.range k).foldl (iy row right) p=z at *
  have eF:∀(i:Nat) (s:am) (j:List aB),row[i]?=some s->z.2[i]?=some j->sX j/\(s.y=ofNat k+1->p.2[i]?=some j):=λi s j a d=>by
   have W:=j5 d;have f:p.2[i]?=some (p.2.getD i []):=j4 ab;have g:=x i s _ a f;have O:z.2.getD i []=j:=by rw[wg,d];rfl
   obtain⟨u,r⟩:=s1 i s _ a f;rw[O] at u r;by_cases c:(k:Int)<s.y
   .have e:=r c;rw[e];exact⟨g.1,λ_=>f⟩
   .by_cases D:1<=s.y
    .exact⟨(u ⟨D,ab⟩).b g,λe=>by simp only[wn] at e;omega⟩
    .exact absurd (E i s a) D
  obtain⟨I,J,L,n2,Q⟩:=qq2 (K:=k) ab row right z (by rw[n1];exact A) m1 (λt M=>by
   obtain⟨i,a,d⟩:=XN M;obtain⟨u,r⟩:=eF i _ _ a d;exact⟨u,λe=>(x i _ _ a (r e)).2.1⟩) (by rw[wh ab];exact B k ab)
  have N:(row.zip z.2).map (Ke true k)=(row.zip p.2).map (Ke true k):=by
   refine List.ext_getElem? λi=>?_;rw[wE,wE];rcases wu i row.length with c|c
   .have a:row[i]?=some (row.getD i ⟨0,0,0,0,false⟩):=j4 c;have d:z.2[i]?=some (z.2.getD i []):=j4 ab;have f:p.2[i]?=some (p.2.getD i []):=j4 ab;rw[show(row.zip z.2)[i]?=some (row.getD i ⟨0,0,0,0,false⟩,z.2.getD i []) from xy.2 ⟨a,d⟩,show(row.zip p.2)[i]?=some (row.getD i ⟨0,0,0,0,false⟩,p.2.getD i []) from xy.2 ⟨a,f⟩];show some (Ke true k (row.getD i _,_))=some (Ke true k (row.getD i _,_));unfold Ke;by_cases cc:(row.getD i ⟨0,0,0,0,false⟩).y=ofNat k+1
    .have:=(eF i _ _ a d).2 cc;rw[f] at this;rw[we this]
    .rw[wh (λh=>cc h.2),wh (λh=>cc h.2)]
   .rw[wz (by rw[List.length_zip];omega),wz (by rw[List.length_zip];omega)]
  rw[N] at L;refine⟨I,J.mono λy=>?_,?_,n2.trans n1,λi s l a d=>?_⟩
  .show aA (λy=>if y<k then P y+32*row.length else P y) k ((if k<k then P k+32*row.length else P k)+32*row.length) y<=if y<k+1 then P y+32*row.length else P y;unfold aA;by_cases c:y=k
   .subst c;rw[wl rfl,wh (Nat.lt_irrefl _),wl ab];exact wc _
   .rw[wh c];show(if y<k then P y+32*row.length else P y)<=_;by_cases C:y<k
    .rw[wl C,wl ab];exact wc _
    .rw[wh C,wh ab];exact wc _
  .rw[vh,List.sum_append];simp only[xt,List.map_nil,List.sum_cons,List.sum_nil];omega
  grind
end
structure OS where
 (q:Ys) (r:Rw) (c:Nat)
def lV(K:Nat)(right ah:Bool)(s:am)(k:Nat)(z:OS):OS :=
 if ah=true/\s.y=ofNat K+1 then ⟨(oq K right s z.q (z.r.sl k)).1,if s.k=3 then z.r.Hx k (oq K right s z.q (z.r.sl k)).2 else z.r.gu k (oq K right s z.q (z.r.sl k)).2,z.c+Ei s (z.r.sl k)⟩
 else ⟨BE K right z.q (z.r.sl k),z.r,z.c⟩
def fV(K:Nat)(right ah:Bool)(G:Nat->am)(n:Nat)(z:OS):Nat->OS
 |0=>z
 |i+1=>lV K right ah (G (jx right n i)) (jx right n i) (fV K right ah G n z i)
def OS.h(z:OS)(x:Wx)(v:Nat->Nat)(K:Nat):qa:=z.q.hw x (aA v K (v K+z.c)) (z.r.h [])
theorem HE(K)(right ah)(s)(k)(z):(lV K right ah s k z).q=(ly K right ah s z.q (z.r.sl k)).1/\(lV K right ah s k z).r.sl k=(ly K right ah s z.q (z.r.sl k)).2/\(∀e,e≠k->(lV K right ah s k z).r.sl e=z.r.sl e/\(lV K right ah s k z).r.vs e=z.r.vs e/\(lV K right ah s k z).r.bn e=z.r.bn e)/\(lV K right ah s k z).r.o=z.r.o/\(lV K right ah s k z).r.n=z.r.n:=by
 unfold lV ly;by_cases c:ah=true/\s.y=ofNat K+1
 .rw[wl c,wl c];by_cases a:s.k=3
  .rw[wl a];exact⟨rfl,Yg _ _ _,λe he=>⟨wh he,wh he,wh he⟩,rfl,rfl⟩
  .rw[wh a];exact⟨rfl,Yg _ _ _,λe he=>⟨wh he,rfl,rfl⟩,rfl,rfl⟩
 grind
theorem XT{right}{n i j}(d:i<n)(a:j<n)(h:jx right n i=jx right n j):i=j:=by
 unfold jx at h;grind
theorem Rs(K)(right ah)(G)(n)(z):∀i,(fV K right ah G n z i).r.o=z.r.o/\(fV K right ah G n z i).r.n=z.r.n
 |0=>⟨rfl,rfl⟩
 |i+1=>by
  obtain⟨d,a⟩:=Rs K right ah G n z i;obtain⟨_,_,_,f,e⟩:=HE K right ah _ _ _;exact⟨f.trans d,e.trans a⟩
theorem HF(K)(right ah)(G)(n)(z:OS):∀i,i<=n->∀m,i<=m->m<n->(fV K right ah G n z i).r.sl (jx right n m)=z.r.sl (jx right n m)/\(fV K right ah G n z i).r.vs (jx right n m)=z.r.vs (jx right n m)/\(fV K right ah G n z i).r.bn (jx right n m)=z.r.bn (jx right n m)
 |0,_,m,_,_=>⟨rfl,rfl,rfl⟩
 |i+1,A,m,u,s=>by
  obtain⟨k,g,f⟩:=HF K right ah G n z i ab m ab s;obtain⟨_,_,o,_,_⟩:=HE K right ah (G (jx right n i)) (jx right n i) (fV K right ah G n z i);obtain⟨d,a,k3⟩:=o (jx right n m) λe=>by have:=XT ab ab e;omega
  exact⟨d.trans k,a.trans g,k3.trans f⟩
theorem qoQ(K)(right)(s)(q)(l)(d:sX l)(B:Nat)(h:gJ q K (B+20)):gJ (oq K right s q l).1 K B:=by
 unfold oq;by_cases g:s.k=3
 .rw[wl g];exact(h.mono (C:=B+1) ab).loop _ _
 rw[wh g];by_cases f:s.k=6
 .rw[wl f];exact(h.mono (C:=B+1) ab).loop _ _
 rw[wh f];by_cases e:s.k=7
 .rw[wl e];refine gJ.e8 (h.mono ?_);rw[Rl]
  match l,d with
  |[],_=>show B+0<=_;omega
  |a::t,d=>have:=(d.2 a aq).2;grind
 rw[wh e,←XE];exact P6 K right q l B l.length (h.mono (by have:=d.1;omega))
theorem qmV(K)(right)(q)(l)(d:sX l)(B)(h:gJ q K (B+20)):gJ (BE K right q l) K B:=by
 rw[←XI];exact Rm K right q l (λa e=>(d.2 a e).2) B l.length (wc _) (h.mono (by have:=d.1;omega))
theorem XU{K}{right}{s}{q}{l}(a:sX l)(d:s.k≠3):(oq K right s q l).2.length=l.length:=by
 rw[(Rh K right s q a).len];unfold sY;rw[wh d]
theorem qtm(o n k)(vs a):Mm o n k vs a (.own (10+k) (vs k) 0 (a k) none)=ot o n vs a:=by
 grind[ot,Mm]
def bI(b:Bool):Nat:=bif b then 1 else 0
section
variable (x:Wx) (hx:x.Im) (v:Nat->Nat) (K:Nat) (hK:K<6) (G:Nat->am) (hG:∀j,(G j).Ok) (right ah:Bool)
include hx hK hG
theorem qoR(h0)(n i k)(d:k<n)(hn:n<=16)(q a:Ys)(v1 v2:Nat->Nat)(r:Rw)(hr:r.n=n)(l':List aB)(f:l'.length=(r.sl k).length)
 (t:aR au G16 98 [p0,(G k).t,.own (10+k) (r.vs k) 0 (r.sl k).length none,iI (rI right)] (q.hw x v1 (r.h [])) (.own (10+k) (r.vs k) 0 (r.sl k).length none) (a.hw x v2 ((r.gu k l').h []))) (y wk:Int) :
 Pq 62 h0 oD ca [p0,aN G n none,oL r.o n,iI y,iI (rI right),iI wk,iI (ofNat i),iI (ofNat k)] (q.hw x v1 (r.h []))
  .normal b7 [p0,aN G n none,oL r.o n,iI y,iI (rI right),iI wk,iI (ofNat i)] (a.hw x v2 ((r.gu k l').h [])):=by
 subst hr;obtain⟨s,hw⟩:=ZY au G16 98;obtain⟨g,_⟩:=WM (r:=r) (k:=k) (l:=l') f;have e:dj k r.n=true:=by unfold dj;grind
 rw[P0,P0,g] at t ⊢;have q7:=WS s (gq q x v1) (gq a x v2) r.row (r.gu k l').row k ab r.o r.n r.n (rI right) y (ofNat i) wk G r.vs (λj=>(r.sl j).length) (.own (10+k) (r.vs k) 0 (r.sl k).length none) [] (.inl ⟨rfl,rfl⟩);have q7:=q7.trans (qj e (P7 d (qj (QR hw t) (qj aq (qj e (qj aq (qj (by rw[qN d];rfl) rfl)))))));rw[qtm] at q7;exact bR (qA qm (Qy hw)) h0 q7
theorem qmW(h0:qa)(U:h0.length<=26)(n i:Nat)(z:OS)(hr:z.r.n=n)(hn:n<=16)(L:i<n)(ok:tJ z.r (jx right n i))(V:ah=true->(G (jx right n i)).y=ofNat K+1->ou (G (jx right n i)) z.r (jx right n i))(gm:gJ z.q K 20) :
 Pq 62 h0 [0,0,2] b7 [p0,aN G n none,oL z.r.o n,yK K,iI (rI right),iI (ofNat (bI ah)),iI (ofNat i)] (z.h x v K)
  .normal b7 [p0,aN G n none,oL z.r.o n,yK K,iI (rI right),iI (ofNat (bI ah)),iI (ofNat (i+1))] ((lV K right ah (G (jx right n i)) (jx right n i) z).h x v K):=by
 have run:=λ{p l D h R f W e} (k:cD 62 p l D h R=some (e,f,W))=>aP h0 k
 let k:=jx right n i
 have A:k<n:=FE L
 let s:=G k
 let H:=z.h x v K
 let row:T:=aN G n none
 let a:T:=iI (rI right)
 let w:T:=iI (ofNat (bI ah))
 have P:=run ((ov2 G p0 (oL z.r.o n) (yK K) a w n i H).trans (qj (wt bP) rfl));have O:=run (ov3 p0 row (oL z.r.o n) (yK K) a w (ofNat i) H);have N:Pq 62 h0 [1,2,0,1,2,0,0,2] ca [p0,row,oL z.r.o n,yK K,a,w,iI (ofNat i),iI (ofNat i)] H .normal ca [p0,row,oL z.r.o n,yK K,a,w,iI (ofNat i),iI (ofNat k)] H:=by
  have E:=ov4 G p0 (oL z.r.o n) (yK K) w n (rI right) (ofNat i) (ofNat i) H;have Y:=XK (right:=right) L ab;show Pq 62 h0 _ _ _ _ _ _ [_,_,_,_,_,_,_,iI (ofNat (jx right n i))] _;rw[←Y];cases right with
  |true=>exact run (E.trans (qB (by simp[rI]) rfl))
  |false=>exact run (E.trans (qj (by simp[rI]) rfl))
 have B:dj k n=true:=by unfold dj;grind
 have Ru:i64.wrap s.y=s.y:=Qv (by have:=(hG k).y;grind) (by have:=(hG k).y;grind);have q6:=ov6 p0 (oL z.r.o n) G (rI right) (ofNat i) (ofNat K+1) (ofNat (bI ah)) k n H;have S:(G k)=s:=rfl;have Ek:Pq 62 h0 [2,2,0,1,2,0,0,2] ca [p0,row,oL z.r.o n,yK K,a,w,iI (ofNat i),iI (ofNat k)] H (bif ah&&decide (s.y=ofNat K+1) then .exit 1 else .normal) b7 [p0,row,oL z.r.o n,yK K,a,w,iI (ofNat i)] ((lV K right ah s k z).h x v K):=by
  have d:¬(ah=true/\s.y=ofNat K+1)->Pq 62 h0 [1,1,2,2,0,1,2,0,0,2] ca [p0,row,oL z.r.o n,yK K,a,w,iI (ofNat i),iI (ofNat k)] H .normal pG [p0,row,oL z.r.o n,yK K,a,w,iI (ofNat i),iI (ofNat k),.bool false] H →
   Pq 62 h0 [2,2,0,1,2,0,0,2] ca [p0,row,oL z.r.o n,yK K,a,w,iI (ofNat i),iI (ofNat k)] H .normal b7 [p0,row,oL z.r.o n,yK K,a,w,iI (ofNat i)] ((lV K right ah s k z).h x v K):=λc u=>by
   have Q:=run (qwK p0 row (oL z.r.o n) (yK K) a w (iI (ofNat i)) (iI (ofNat k)) (.bool false) H);have J:=qoO h0 z.q x (aA v K (v K+z.c)) z.r K hK G n i (bI ah) right k ab ab ok gm;rw[hr] at J;unfold lV;rw[wh c];exact ao (ao u (Pz.fU 41 qh rfl Q)) J
  cases hw:ah with
  |false =>
   rw[hw] at d q6;subst hw;exact d aq (run (q6.trans (qB (by simp[bI]) rfl)))
  |true =>
   subst hw;have q6:=q6.trans (qj (by simp[bI]) (qj B rfl));rw[S,Ru] at q6;by_cases c:s.y=ofNat K+1
   .rw[show(true&&decide (s.y=ofNat K+1))=true by grind,wp];have u:=run (q6.trans (qj (wt c) rfl));obtain⟨Rt,hw⟩:=ZY au G16 98
    let f:=aA v K (v K+z.c)
    have fit:=V rfl c;have key:Pq 62 h0 oD ca [p0,row,oL z.r.o n,yK K,a,w,iI (ofNat i),iI (ofNat k)] H .normal b7 [p0,row,oL z.r.o n,yK K,a,w,iI (ofNat i)] ((lV K right true s k z).h x v K):=by
     unfold lV OS.h;rw[wl ⟨rfl,c⟩];by_cases g:s.k=3
     .rw[wl g];have es:oq K right s z.q (z.r.sl k)=(z.q.loop K 0 [],[⟨0,[lJ z.q K]⟩]):=by unfold oq;rw[wl g]
      have X:Ei s (z.r.sl k)=1:=by unfold Ei;rw[wl (.inl g)]
      rw[es,X];have t:=qoA z.q x hx f z.r ab K hK s c g (gm.mono ab) (rI right) (.own (10+k) (z.r.vs k) 0 (z.r.sl k).length none);rw[WQ] at t;have q7:=WS Rt (gq z.q x f) (gq (z.q.loop K 0 []) x (aA v K (v K+(z.c+1)))) z.r.row z.r.row k ab z.r.o n n (rI right) (ofNat K+1) (ofNat i) (ofNat (bI true)) G z.r.vs (λj=>(z.r.sl j).length) (.own 26 0 0 1 none) [Hm z.q K] (.inr ⟨rfl,_,rfl⟩);have M:aR au G16 98 [p0,(G k).t,.own (10+k) (z.r.vs k) 0 (z.r.sl k).length none,iI (rI right)] (Hg (gq z.q x f) (ot z.r.o n z.r.vs λj=>(z.r.sl j).length) z.r.row []) (.own 26 0 0 1 none) (Hg (gq (z.q.loop K 0 []) x (aA v K (v K+(z.c+1)))) (ot z.r.o n z.r.vs λj=>(z.r.sl j).length) z.r.row [Hm z.q K]):=by
       rw[←hr];exact t
      have q7:=q7.trans (qj B (P7 A (qj (QR hw M) (qj aq (qj B (qj aq (qj (by rw[qN A];rfl) rfl)))))));have Z:H=Hg (gq z.q x f) (ot z.r.o n z.r.vs λj=>(z.r.sl j).length) z.r.row []:=by rw[←hr];rfl
      rw[Z];refine Pz.post (bR (qA qm (Qy hw)) h0 q7) λnt=>?_;have C:=qtl (aa:=(ar 62).aa) (nt:=nt) (l:=b7) (K0:=h0.length) U (z.q.loop K 0 []) x hx (aA v K (v K+(z.c+1))) z.r ab k ab [⟨0,[lJ z.q K]⟩] rfl (vs:=[p0,row,oL z.r.o n,yK K,a,w,iI (ofNat i)]) (aW:=[p0,row,oL z.r.o n,yK K,a,w,iI (ofNat i)]) rfl;rw[hr] at C;exact C
     ·rw[wh g];have t:=stT z.q x hx f z.r ab K hK s c g right k ab (gm.mono ab) ok fit;have ev:aA f K (f K+Ei s (z.r.sl k))=aA v K (v K+(z.c+Ei s (z.r.sl k))):=funext λe=>by
       grind[aA]
      rw[ev] at t;exact qoR x hx K hK G hG right h0 n i k A hn z.q _ f _ z.r hr _ (XU ok.b g) t _ _
    have pe:=run (qwJ p0 row (oL z.r.o n) (yK K) a w (iI (ofNat i)) ((lV K right true s k z).h x v K));exact ed (ao u (Pz.im 41 qh rfl (Pz.drop rfl (ao key pe))))
   .rw[show(true&&decide (s.y=ofNat K+1))=false by grind,wq];exact d (λh=>c h.2) (run (q6.trans (qB (gW c) rfl)))
 have I:=run (qwN p0 row (oL z.r.o n) (yK K) a w i ((lV K right ah s k z).h x v K));rw[dH ab] at I;refine ao P (ao (Pz.dZ (id:=1) (e:=bif ah&&decide (s.y=ofNat K+1) then .exit 1 else .normal) qh ?_ (ao O (ao N Ek))) I);cases ah&&decide (s.y=ofNat K+1)<;>rfl
end
def Rv(K)(right ah)(G)(n)(z)(ok:∀k,k<n->tJ z.r k)(B):∀i,i<=n->gJ z.q K (B+20*i)->gJ (fV K right ah G n z i).q K B
 |0,_,h=>h
 |i+1,g,h=>by
  have a:=Rv K right ah G n z ok _ i ab (by rw[show B+20+20*i=B+20*(i+1) by omega];exact h);obtain⟨e,_⟩:=HE K right ah _ _ _;obtain⟨f,_⟩:=HF K right ah G n z i ab i (wc _) ab;show gJ (lV K right ah (G (jx right n i)) (jx right n i) (fV K right ah G n z i)).q K B;rw[e,f];have d:=(ok _ (FE (right:=right) (show i<n by omega))).b;unfold ly;by_cases c:ah=true/\(G (jx right n i)).y=ofNat K+1
  .rw[wl c];exact qoQ K right _ _ _ d B a
  .rw[wh c];exact qmV K right _ _ d B a
def tJ.uE{r a}{k}(h:tJ r k)(e1:a.sl k=r.sl k)(d:a.bn k=r.bn k):tJ a k:=⟨by rw[e1];exact h.b,by rw[e1,d];exact h.n,by rw[e1];exact h.ne⟩
def ou.uE{s}{r a}{k}(h:ou s r k)(e1:a.sl k=r.sl k)(d:a.bn k=r.bn k):ou s a k:=by grind[ou]
section
variable (x:Wx) (hx:x.Im) (v:Nat->Nat) (K:Nat) (hK:K<6) (G:Nat->am) (hG:∀j,(G j).Ok) (right ah:Bool)
include hx hK hG
def XV(n:Nat)(q:Ys)(r:Rw)(hr:r.n=n)(hn:n<=16)(ok:∀k,k<n->tJ r k)(I:∀k,k<n->ah=true->(G k).y=ofNat K+1->ou (G k) r k)(gm:gJ q K (20+20*n)) :
 aR au G16 62 [p0,aN G n none,oL r.o n,yK K,iI (rI right),iI (ofNat (bI ah))] (q.hw x v (r.h [])) (.aJ []) ((fV K right ah G n ⟨q,r,0⟩ n).h x v K):=by
 let z:OS:=⟨q,r,0⟩
 let st:=fV K right ah G n z
 have L:z.h x v K=q.hw x v (r.h []):=by
  show q.hw x (aA v K (v K+0)) (r.h [])=_;rw[Mk]
 let H:=q.hw x v (r.h [])
 have run:=λ{p l u h E B d e} (k:cD 62 p l u h E=some (e,B,d))=>aP H k
 let V:Nat->t7:=λi=>[p0,aN G n none,oL r.o n,yK K,iI (rI right),iI (ofNat (bI ah)),iI (ofNat i)]
 have round:∀i,i<n->Pq 62 H [0,0,2] b7 (V i) ((st i).h x v K) .normal b7 (V (i+1)) ((st (i+1)).h x v K):=λi a=>by
  obtain⟨N,M⟩:=Rs K right ah G n z i;obtain⟨s,O,g⟩:=HF K right ah G n z i ab i (wc _) a;have D:=Rv K right ah G n z ok 20 i ab (gm.mono ab);have f:=FE (right:=right) a;have:=qmW x hx v K hK G hG right ah H (by show 26<=26;omega) n i (st i) (M.trans hr) hn a ((ok _ f).uE s g) (λd J=>(I _ f d J).uE s g) D;rw[show(st i).r.o=r.o from N] at this;exact this
 have last:=run ((qwI G p0 (oL r.o n) (yK K) (iI (rI right)) (iI (ofNat (bI ah))) n n ((st n).h x v K)).trans (qB (gW bP) rfl));have lp:Pq 62 H [0,2] b7 (V 0) ((st 0).h x v K) (.exit 0) [] [] ((st n).h x v K):=Pz.count qh V (λi=>(st i).h x v K) (n:=n) aq round (ed last);have C:=run (ov1 p0 (aN G n none) (oL r.o n) (yK K) (iI (rI right)) (iI (ofNat (bI ah))) H);rw[show(st 0).h x v K=H from L] at lp;exact Pz.rM (A:=ar) qY Tryz.func62 qh qh (l:=tq) rfl (ao C (cO 0 lp)) rfl
end
def XW(K)(right ah):∀(a b:List (am×List aB)) (q:Ys),me K right ah q (a++b)=((me K right ah (me K right ah q a).1 b).1,(me K right ah q a).2++(me K right ah (me K right ah q a).1 b).2)
 |[],b,q=>rfl
 |(s,l)::a,b,q=>by
  have d:=XW K right ah a b (ly K right ah s q l).1;show((me K right ah (ly K right ah s q l).1 (a++b)).1,(ly K right ah s q l).2::(me K right ah (ly K right ah s q l).1 (a++b)).2)=_;rw[d];rfl
def pw(G:Nat->am)(r:Rw)(n:Nat):List (am×List aB):=(List.range n).map λk=>(G k,r.sl k)
def zD{α}(f)(d:α){n i}(h:i<n):((List.range n).map f).getD i d=f i:=by
 rw[wg,wE,xc h];rfl
def XX(K)(right ah)(G)(n)(z):∀i,i<=n->(fV K right ah G n z i).q=(me K right ah z.q ((dl right (pw G z.r n)).take i)).1 ∧
 ∀m,m<i->(fV K right ah G n z i).r.sl (jx right n m)=(me K right ah z.q ((dl right (pw G z.r n)).take i)).2.getD m []
 |0,_=>⟨rfl,λm h=>absurd h (vy m)⟩
 |i+1,D=>by
  obtain⟨o,k⟩:=XX K right ah G n z i ab;obtain⟨d,_⟩:=HF K right ah G n z i ab i (wc _) ab;obtain⟨A,u,s,_⟩:=HE K right ah (G (jx right n i)) (jx right n i) (fV K right ah G n z i);have a:(pw G z.r n).length=n:=by simp[pw]
  have g:(dl right (pw G z.r n)).getD i (⟨0,0,0,0,false⟩,[])=(G (jx right n i),z.r.sl (jx right n i)):=by
   rw[XH right _ _ (by omega),a];exact zD _ _ (FE ab)
  rw[zC _ (⟨0,0,0,0,false⟩,[]) (by rw[Hz,a];omega),g,XW];have f:=(Kf K right ah ((dl right (pw G z.r n)).take i) z.q).1;rw[vL,Hz,a,uf ab] at f;generalize B:me K right ah z.q ((dl right (pw G z.r n)).take i)=y at *
  show(lV K right ah _ _ (fV K right ah G n z i)).q=(ly K right ah (G (jx right n i)) y.1 (z.r.sl (jx right n i))).1/\∀m,m<i+1->(lV K right ah _ _ (fV K right ah G n z i)).r.sl (jx right n m)=(y.2++[(ly K right ah (G (jx right n i)) y.1 (z.r.sl (jx right n i))).2]).getD m [];rw[←o];refine⟨by rw[A,d],λm C=>?_⟩;rw[zS,f];by_cases c:m=i
  .rw[wl c,c,u,d]
  .rw[wh c,←k m ab];exact(s _ λe=>c (XT ab ab e)).1
def XY(K)(right ah)(G)(n)(q)(r)(c):(fV K right ah G n ⟨q,r,c⟩ n).q=(mu K right ah ((List.range n).map G) q ((List.range n).map r.sl)).1 ∧
 ∀k,k<n->(fV K right ah G n ⟨q,r,c⟩ n).r.sl k=(mu K right ah ((List.range n).map G) q ((List.range n).map r.sl)).2.getD k []:=by
 have i:((List.range n).map G).zip ((List.range n).map r.sl)=pw G r n:=by
  unfold pw;rw[List.zip_map']
 obtain⟨d,a⟩:=XX K right ah G n ⟨q,r,c⟩ n (wc _);have g:(pw G r n).length=n:=by simp[pw]
 have o:(dl right (pw G r n)).take n=dl right (pw G r n):=by
  rw[List.take_of_length_le (by rw[Hz,g];omega)]
 have d:(fV K right ah G n ⟨q,r,c⟩ n).q=(me K right ah q ((dl right (pw G r n)).take n)).1:=d;have a:∀m,m<n->(fV K right ah G n ⟨q,r,c⟩ n).r.sl (jx right n m)=(me K right ah q ((dl right (pw G r n)).take n)).2.getD m []:=a;rw[o] at d a;unfold mu;rw[i];cases right with
 |true=>exact⟨d,λk e=>a k e⟩
 |false =>
  refine⟨d,λk e=>?_⟩;have:=a (n-1-k) ab;rw[show jx false n (n-1-k)=k by show n-1-(n-1-k)=k;omega] at this;rw[this];have f:(me K false ah q (pw G r n).reverse).2.length=n:=by
   have:=(Kf K false ah (pw G r n).reverse q).1;rw[xf,g] at this;omega
  show(me K false ah q (pw G r n).reverse).2.getD (n-1-k) []=((me K false ah q (pw G r n).reverse).2.reverse).getD k [];rw[wg,wg,xO (by rw[f];exact e),f]
def pr0(w)(a:T):cD 27 [1] ir [.agg (w.cc none),a] [] eH =
( zN [a,bu w] []):=qh
def pr1(p)(w)(G)(n):cK (qt.add 54 (qH p λ_=>some (iI 0))) 27 eH eH [aN G n none,bu w] [] eH =
( gD (qx (p [aN G n
 none] (iI 0)))<|zN [aN G n
 none,bu w] []):=qh
def pr2(p)(w)(G)(n)(m):cK (qt.add 20 (qH p λ_=>some (iI m))) 27 lD eH [aN G n none,bu w] [] eH =
( gD (qx (p [aN G n
 none] (iI m)))<|bif !decide (m=ofNat w.sl.length) then zR [aN G n
 none,bu w] [] else
 zN [aN G n
 none,bu w] []):=qh
def pr4(a j i g f e d:T)(c)(H):cD 27 k7 eH [a,.ag [j,i,g,aQ c,f,e,d]] H [1,2,8] =
( zN [a,.ag [j,i,g,aQ c,f,e,d],aQ c] H):=qh
def pr5(a b c:T)(H):cD 27 eK [1,2,8] [a,b,c] H [1,2,8,9] =
( zN [a,b,c,iI 0] H):=qh
def pr6(a b c d:T)(H):cD 27 lY [1,2,8,9] [a,b,c,d] H [1,2,8,9,10] =
( zN [a,b,c,d,.ae] H):=qh
def pr7(a b c d e:T)(H):cD 27 qs [1,2,8,9,10] [a,b,c,d,e] H da =
( zN [a,b,c,d,e,iI 0] H):=qh
def prc(G)(n i)(b c d e:T)(H):cD 27 gN da [aN G n none,b,c,d,e,iI (ofNat i)] H da =
( bif decide (ofNat i<ofNat n) then zN [aN G n
 none,b,c,d,e,iI (.ofNat i)] H else
 zX 0 [aN G n
 none,b,c,d,e,iI (.ofNat i)] H):=qh
def prx(G)(n i)(b c d e:T)(H):cD 27 gN da [aN G n none,b,c,d,e,iI (ofNat i)] H [8,10] =
( bif decide (ofNat i<ofNat n) then zN [c,e] H else
 zX 0 [c,e] H):=qh
def qwU(G)(n i)(b c d e:T)(H):cD 27 pL da [aN G n none,b,c,d,e,iI (ofNat i)] H [1,2,8,9,10,11,12] =
( gD (decide (0<=ofNat i)&&decide (ofNat i<ofNat n))<|zN [aN G n
 none,b,c,d,e,iI (.ofNat i),.ag (G i).c] H):=qh
def qwV(p)(s:am)(m)(a b c d e f:T)(H):cK (qt.add 50 (qH p λ_=>some (iI m))) 27 pq [1,2,8,9,10,11,12] [a,b,c,d,e,f,.ag s.c] H [1,2,8,9,10,11,12,13] =
( gD (qx (p [s.t] (iI m)))<|zN [a,b,c,d,e,f,.ag s.c,iI m] H):=qh
def qwW(a b c d e f g h:T)(H):cD 27 pf [1,2,8,9,10,11,12,13] [a,b,c,d,e,f,g,h] H sy =
( zN [a,b,c,d,e,f,g,h,.ae] H):=qh
def qwX(a b c d e f g h i:T)(H):cD 27 nL sy [a,b,c,d,e,f,g,h,i] H ez =
( zN [a,b,c,d,e,f,g,h,i,.ae] H):=qh
def qwY(a b c e f g h i j:T)(oi)(H):cD 27 l9 ez [a,b,c,iI oi,e,f,g,h,i,j] H bm =
( zN [a,b,c,iI oi,e,f,g,h,i,j,iI oi] H):=qh
def qwZ(a b c e f g i j:T)(oi k m)(H):cD 27 lf bm [a,b,c,iI (ofNat oi),e,f,g,iI (ofNat m),i,j,iI (ofNat k)] H bm =
( bif decide (ofNat k<i64.wrap (ofNat oi+ofNat m)) then zN [a,b,c,iI (.ofNat oi),e,f,g,iI (.ofNat m),i,j,iI (.ofNat k)] H else
 zX 2 [a,b,c,iI (.ofNat oi),e,f,g,iI (.ofNat m),i,j,iI (.ofNat k)] H):=qh
def qtn(a b c e f g i j:T)(oi k m)(H):cD 27 lf bm [a,b,c,iI (ofNat oi),e,f,g,iI (ofNat m),i,j,iI (ofNat k)] H ez =
( bif decide (ofNat k<i64.wrap (ofNat oi+ofNat m)) then zN [a,b,c,iI (.ofNat oi),e,f,g,iI (.ofNat m),i,j] H else
 zX 2 [a,b,c,iI (.ofNat oi),e,f,g,iI (.ofNat m),i,j] H):=qh
def qw0(a b c d e f g h i j:T)(k)(H):cD 27 [2,2,0,0,2,1,2,2,2,2,0,1,2,0,0,2,1,2,2,2,2,2,2,2] bm [a,b,c,d,e,f,g,h,i,j,iI (ofNat k)] H bm =
( zN [a,b,c,d,e,f,g,h,i,j,iI (i64.wrap (ofNat k+1))] H):=qh
def qw1(a b c e f g i j:T)(oi m)(H):cD 27 gB ez [a,b,c,iI (ofNat oi),e,f,g,iI (ofNat m),i,j] H hE =
( zN [a,b,c,iI (i64.wrap (ofNat oi+ofNat m)),e,f,g,i,j] H):=qh
def XZ(s:am)(a b c d e f j:T)(H):cD 27 lq bf [a,b,c,d,e,f,.ag s.c,j] H ol =
( bif decide (s.k=4) then zN [a,b,c,d,e,f,.ag s.c,j,.bool true] H else
 bif decide (s.k=5) then zN [a,b,c,d,e,f,.ag s.c,j,.bool true] H else
 zN [a,b,c,d,e,f,.ag s.c,j,.bool false] H):=qh
def X0(s:am)(a b c d e f j:T)(H):cD 27 kr bf [a,b,c,d,e,f,.ag s.c,j] H oo =
( bif decide (s.k=8) then zN [a,b,c,d,e,f,.ag s.c,j,.bool true] H else
 zN [a,b,c,d,e,f,.ag s.c,j,.bool false] H):=qh
def qtq(a b c d e f g j k:T)(H):cD 27 [4,2,1,2,2,2,2,2,2,2,0,1,2,0,0,2,1,2,2,2,2,2,2,2] ol [a,b,c,d,e,f,g,j,k] H bf =
( zN [a,b,c,d,e,f,g,j] H):=qh
def qtr(a b c d e f g j k:T)(H):cD 27 [4,2,1,2,2,2,2,2,2,2,2,0,1,2,0,0,2,1,2,2,2,2,2,2,2] oo [a,b,c,d,e,f,g,j,k] H g6 =
( zN [a,b,c,d,e,f,j] H):=qh
def qw2(a b c d e:T)(i)(H):cD 27 ri da [a,b,c,d,e,iI (ofNat i)] H da =
( zN [a,b,c,d,e,iI (i64.wrap (ofNat i+1))] H):=qh
def qw3(c)(n)(H):cD 27 sg [8,10] [aQ c,.own 0 n 0 n none] H [4,5,6] =
( zR [.own 0 n 0 n
 none,aQ c,iI 0] H):=qh
def Hq(a:ap)(X:Nat->ap)(o:ap)(f:Nat->ap)(z:qa):qa:=a::X 0::X 1::X 2::X 3::X 4::X 5::X 6::X 7::X 8::X 9::X 10::X 11::X 12::X 13::X 14::X 15::Hf o f z
def fv(N:Nat)(b:Nat->Int)(c:Nat->T):ap:=.mk N 2 N (λj=>[uI (b j),c j]) false false none
def fC(g:Nat->T)(k:Nat)(c:T)(j:Nat):T:=bif j==k then c else g j
def dI(N:Nat):T:=.ag [.own 0 N 0 N none,.undef,.undef,.undef,.undef,.undef,.undef]
def mg(a e:Nat)(d:Nat->t7):ap:=.mk a 1 e d true false none
def Ci(a m:Nat)(d:Nat->t7)(j:Nat):t7:=bif j.blt a then d (0+j) else List.map Qk ([[iI (ofNat m)]].getD (j-a) [])
def X3(a m:Nat)(d:Nat->t7)(j:Nat):t7:=bif (0+a).ble j&&j.blt (0+a+1) then List.map Qk ([[iI (ofNat m)]].getD (j-(0+a)) []) else d j
def Rz(e:Nat)(g:Nat->t7)(x:t7)(j:Nat):t7:=bif j.blt e then g (0+j) else [x].getD (0+(j-e)) []
def liP(e:Nat)(g:Nat->t7)(x:t7)(j:Nat):t7:=bif (0+e).ble j&&j.blt (0+e+1) then [x].getD (0+(j-(0+e))) [] else g j
def X4(e:Nat)(g:Nat->t7)(x:t7)(j:Nat):t7:=bif j.blt e then g (0+j) else [x].getD (j-e) []
def liQ(e:Nat)(g:Nat->t7)(x:t7)(j:Nat):t7:=bif (0+e).ble j&&j.blt (0+e+1) then [x].getD (j-(0+e)) [] else g j
def RA(x:t7):ap:=.mk 0 2 1 (λj=>[x].getD j []) false true none
def qts(N k:Nat)(x:k<16)(b:Nat->Int)(i:Nat->T)(X)(a:ap)(f:Nat->ap)(z:qa)(m:Nat)(A:Nat->aw)(u s r j o d g e fD:T):cD 27 c6 bm [u,dI N,s,r,j,o,d,g,e,fD,iI (ofNat k)] (Hq (fv N b (fC i k (.own (1+k) 0 0 m none))) X a f z) af =
 (bif N==N&&true then bif dj k N then bif N==N&&true then bif k.blt N then some (.normal,[u,dI N,s,r,j,o,d,g,e,fD,iI (ofNat k),.ag [uI (b k),.own (1+k) 0 0 m none]],(Hq (fv N b (fC i k (.own (1+k) 0 0 m none))) X a f z)) else none else none else none else none):=by
 cases Qb x
 all_goals kernel_rfl
def qtt(N k:Nat)(A:k<16)(b:Nat->Int)(j:Nat->T)(X)(d)(f)(z)(m)(a)(x u s o r e i g fD:T):cD 27 c6 bm [x,dI N,u,s,o,r,e,i,g,fD,iI (ofNat k)] (Hq (fv N b (fC j k (aX a m none))) X d f z) af =
 (bif N==N&&true then bif dj k N then bif N==N&&true then bif k.blt N then some (.normal,[x,dI N,u,s,o,r,e,i,g,fD,iI (ofNat k),.ag [uI (b k),aX a m none]],(Hq (fv N b (fC j k (aX a m none))) X d f z)) else none else none else none else none):=by
 cases Qb A
 all_goals kernel_rfl
def qtu(s:am)(i m)(x:Nat->aw)(u)(r o k j f g e a fD d:T)(H):cD 27 hY af [r,o,k,j,f,g,.ag s.c,e,a,fD,d,.ag [uI u,.own i 0 0 m none]] H af=some (.normal,[r,o,k,j,f,g,.ag s.c,e,a,fD,d,.ag [uI 0,.own i 0 0 m none]],H):=qh
def qtv(s:am)(i m)(x:Nat->aw)(u r o j f g e a fD d:T)(H):cD 27 cv af [u,r,o,j,f,g,.ag s.c,e,a,fD,d,.ag [uI 0,.own i 0 0 m none]] H af =
 (bif decide (s.k=2) then some (.normal,[u,r,o,j,f,g,.ag s.c,e,a,fD,d,.ag [uI 1,.own i 0 0 m none]],H) else bif decide (s.k=5) then some (.normal,[u,r,o,j,f,g,.ag s.c,e,a,fD,d,.ag [uI 1,.own i 0 0 m none]],H) else some (.normal,[u,r,o,j,f,g,.ag s.c,e,a,fD,d,.ag [uI 0,.own i 0 0 m none]],H)):=qh
def qtw(s:am)(i m:Nat)(d)(x)(u r o k g j f a fD e:T)(H):cD 27 hY af [u,r,o,k,g,j,.ag s.c,f,a,fD,e,.ag [uI x,aX d m none]] H af=some (.normal,[u,r,o,k,g,j,.ag s.c,f,a,fD,e,.ag [uI 0,aX d m none]],H):=qh
def qtx(s:am)(i m:Nat)(d)(x u r o g j f a fD e:T)(H):cD 27 cv af [x,u,r,o,g,j,.ag s.c,f,a,fD,e,.ag [uI 0,aX d m none]] H af =
 (bif decide (s.k=2) then some (.normal,[x,u,r,o,g,j,.ag s.c,f,a,fD,e,.ag [uI 1,aX d m none]],H) else bif decide (s.k=5) then some (.normal,[x,u,r,o,g,j,.ag s.c,f,a,fD,e,.ag [uI 1,aX d m none]],H) else some (.normal,[x,u,r,o,g,j,.ag s.c,f,a,fD,e,.ag [uI 0,aX d m none]],H)):=qh
def qty(u)(X)(e)(f)(j)(m d a)(r)(i)(s)(E D C B x A g o fD k:T):cK (KG qt) 27 gR af [E,D,C,B,x,A,g,o,.own 35 d 0 a none,fD,k,.ag [uI s,aX i m none]] (Hq u X e f [j,mg d a r]) af =
 (bif d==d&&true then bif (0+a).ble a then bif ((a+1)*9).ble 70368744177664 then bif (0+a+1).ble a then some (.normal,[E,D,C,B,x,A,g,o,.own 35 d 0 (a+1) none,fD,k,.ag [uI s,aX i m none]],(Hq u X e f [j,mg d a (X3 a m r)])) else some (.normal,[E,D,C,B,x,A,g,o,.own 35 (d+1) 0 (a+1) none,fD,k,.ag [uI s,aX i m none]],(Hq u X e f [j,mg (d+1) (a+1) (Ci a m r)])) else none else none else none):=qh
def qtz(k)(I:k<16)(x:ap)(X:Nat->ap)(e:ap)(f:Nat->ap)(j:ap)(m d a:Nat)(s:Nat->t7)(i:Nat->aw)(u:Int)(H E D C A B g r fD o:T):cK (KG qt) 27 gR af [H,E,D,C,A,B,g,r,.own 35 d 0 a none,fD,o,.ag [uI u,.own (1+k) 0 0 m none]] (Hq x (fX X k (iB m i)) e f [j,mg d a s]) af =
 (bif d==d&&true then bif (0+a).ble a then bif ((a+1)*9).ble 70368744177664 then bif (0+a+1).ble a then some (.normal,[H,E,D,C,A,B,g,r,.own 35 d 0 (a+1) none,fD,o,.ag [uI u,.own (1+k) 0 0 m none]],(Hq x (fX X k (iB m i)) e f [j,mg d a (X3 a m s)])) else some (.normal,[H,E,D,C,A,B,g,r,.own 35 (d+1) 0 (a+1) none,fD,o,.ag [uI u,.own (1+k) 0 0 m none]],(Hq x (fX X k (iB m i)) e f [j,mg (d+1) (a+1) (Ci a m s)])) else none else none else none):=by
 cases Qb I
 all_goals kernel_rfl
def qtA(s)(X)(a)(f)(cb)(m v e)(g)(j)(r)(D C B A u x d o i k:T):cK (KG qt) 27 gS af [D,C,B,A,u,x,d,o,i,.own 34 v 0 e none,k,.ag [uI r,aX j m none]] (Hq s X a f [bZ v e g,cb]) bm =
 (bif v==v&&true then bif (0+e).ble e then bif ((e+1)*33).ble 70368744177664 then bif (0+e+1).ble e then some (.normal,[D,C,B,A,u,x,d,o,i,.own 34 v 0 (e+1) none,k],(Hq s X a f [bZ v e (liQ e g [uI r,aX j m none]),cb])) else some (.normal,[D,C,B,A,u,x,d,o,i,.own 34 (v+1) 0 (e+1) none,k],(Hq s X a f [bZ (v+1) (e+1) (X4 e g [uI r,aX j m none]),cb])) else none else none else none):=qh
def qtB(k)(H:k<16)(u)(X)(d)(f)(cb)(m v e)(g)(o)(a)(E D C B x A i s j r:T):cK (KG qt) 27 gS af [E,D,C,B,x,A,i,s,j,.own 34 v 0 e none,r,.ag [uI a,.own (1+k) 0 0 m none]] (Hq u (fX X k (iB m o)) d f [bZ v e g,cb]) bm =
 (bif v==v&&true then bif (0+e).ble e then bif ((e+1)*33).ble 70368744177664 then bif (0+e+1).ble e then some (.normal,[E,D,C,B,x,A,i,s,j,.own 34 v 0 (e+1) none,r],(Hq u (fX X k (iB m o)) d f [bZ v e (liP e g [uI a,.own (1+k) 0 0 m none]),cb,RA [uI a,.own (1+k) 0 0 m none]])) else some (.normal,[E,D,C,B,x,A,i,s,j,.own 34 (v+1) 0 (e+1) none,r],(Hq u (fX X k (iB m o)) d f [bZ (v+1) (e+1) (Rz e g [uI a,.own (1+k) 0 0 m none]),cb,RA [uI a,.own (1+k) 0 0 m none]])) else none else none else none):=by
 rfl
def qw4(s:am)(c)(l)(g f e a d:T)(H):cD 27 [1,3,2,1,2,2,2,2,2,2,2,2,0,1,2,0,0,2,1,2,2,2,2,2,2,2] bf [g,f,aQ c,e,a,d,.ag s.c,bQ l none] H ea =
( zN [g,f,aQ c,e,a,d,.ag s.c,bQ l
 none,iI (-1:Int)] H):=qh
def qw5(s:am)(c)(l)(j i e a d:T)(H)(g):cD 27 [1,1,2,3,2,1,2,2,2,2,2,2,2,2,0,1,2,0,0,2,1,2,2,2,2,2,2,2] ea [j,i,aQ c,e,a,d,.ag s.c,bQ l none,iI g] H qg =
( bif s.f then zN [j,i,aQ c,e,a,d,.ag s.c,bQ l
 none,iI g,.bool true] H else
 zN [j,i,aQ c,e,a,d,.ag s.c,bQ l
 none,iI g,.bool false] H):=qh
def qw6(s:am)(c)(l)(g f e a d:T)(H):cD 27 [3,2,1,2,3,2,1,2,2,2,2,2,2,2,2,0,1,2,0,0,2,1,2,2,2,2,2,2,2] bf [g,f,aQ c,e,a,d,.ag s.c,bQ l none] H ea =
( zN [g,f,aQ c,e,a,d,.ag s.c,bQ l
 none,iI 1] H):=qh
def qtC(s:am)(c)(l)(i f e a d:T)(H)(g)(t:T):cD 27 [4,2,1,2,3,2,1,2,2,2,2,2,2,2,2,0,1,2,0,0,2,1,2,2,2,2,2,2,2] qg [i,f,aQ c,e,a,d,.ag s.c,bQ l none,iI g,t] H ea =
( zN [i,f,aQ c,e,a,d,.ag s.c,bQ l
 none,iI g] H):=qh
def qw7(s:am)(c)(l)(i f e a d:T)(H)(g):cD 27 [1,1,2,2,3,2,1,2,2,2,2,2,2,2,2,0,1,2,0,0,2,1,2,2,2,2,2,2,2] ea [i,f,aQ c,e,a,d,.ag s.c,bQ l none,iI g] H b4 =
( zN [i,f,aQ c,e,a,d,.ag s.c,bQ l
 none,iI g,iI 0] H):=qh
def qw8(s:am)(c)(l)(j i f d e:T)(H)(g)(a):cD 27 fL b4 [j,i,aQ c,f,d,e,.ag s.c,bQ l none,iI g,iI (ofNat a)] H b4 =
( bif decide (ofNat a<s.a) then zN [j,i,aQ c,f,d,e,.ag s.c,bQ l
 none,iI g,iI (.ofNat a)] H else
 zX 4 [j,i,aQ c,f,d,e,.ag s.c,bQ l
 none,iI g,iI (.ofNat a)] H):=qh
def qtD(s:am)(c)(l)(j i f d e:T)(H)(g)(a):cD 27 fL b4 [j,i,aQ c,f,d,e,.ag s.c,bQ l none,iI g,iI (ofNat a)] H bf =
( bif decide (ofNat a<s.a) then zN [j,i,aQ c,f,d,e,.ag s.c,bQ l
 none] H else
 zX 4 [j,i,aQ c,f,d,e,.ag s.c,bQ l
 none] H):=qh
def qw9(s:am)(c)(l)(j i f d e:T)(H)(g)(a):cD 27 [2,2,0,0,2,1,2,2,3,2,1,2,2,2,2,2,2,2,2,0,1,2,0,0,2,1,2,2,2,2,2,2,2] b4 [j,i,aQ c,f,d,e,.ag s.c,bQ l none,iI g,iI (ofNat a)] H b4 =
( zN [j,i,aQ c,f,d,e,.ag s.c,bQ l
 none,iI g,iI (i64.wrap (ofNat a+1))] H):=qh
def qxa(s:am)(c)(l)(j i f d e:T)(H)(g)(a):cD 27 [1,0,1,2,0,0,2,1,2,2,3,2,1,2,2,2,2,2,2,2,2,0,1,2,0,0,2,1,2,2,2,2,2,2,2] b4 [j,i,aQ c,f,d,e,.ag s.c,bQ l none,iI g,iI (ofNat a)] H bX =
( zN [j,i,aQ c,f,d,e,.ag s.c,bQ l
 none,iI g,iI (.ofNat a),iI s.a] H):=qh
def qxb(s:am)(c)(l)(j i f d e:T)(H)(g)(a)(b):cD 27 eB bX [j,i,aQ c,f,d,e,.ag s.c,bQ l none,iI g,iI (ofNat a),iI (ofNat b)] H bX =
( bif decide (ofNat b<i64.wrap (s.a+s.b)) then zN [j,i,aQ c,f,d,e,.ag s.c,bQ l
 none,iI g,iI (.ofNat a),iI (.ofNat b)] H else
 zX 6 [j,i,aQ c,f,d,e,.ag s.c,bQ l
 none,iI g,iI (.ofNat a),iI (.ofNat b)] H):=qh
def qtE(s:am)(c)(l)(j i f d e:T)(H)(g)(a)(b):cD 27 eB bX [j,i,aQ c,f,d,e,.ag s.c,bQ l none,iI g,iI (ofNat a),iI (ofNat b)] H b4 =
( bif decide (ofNat b<i64.wrap (s.a+s.b)) then zN [j,i,aQ c,f,d,e,.ag s.c,bQ l
 none,iI g,iI (.ofNat a)] H else
 zX 6 [j,i,aQ c,f,d,e,.ag s.c,bQ l
 none,iI g,iI (.ofNat a)] H):=qh
def qxc(s:am)(c)(l)(j i f d e:T)(H)(g)(a)(b):cD 27 [2,2,0,0,2,0,1,2,0,0,2,1,2,2,3,2,1,2,2,2,2,2,2,2,2,0,1,2,0,0,2,1,2,2,2,2,2,2,2] bX [j,i,aQ c,f,d,e,.ag s.c,bQ l none,iI g,iI (ofNat a),iI (ofNat b)] H bX =
( zN [j,i,aQ c,f,d,e,.ag s.c,bQ l
 none,iI g,iI (.ofNat a),iI (i64.wrap (ofNat b+1))] H):=qh
def qxd(s:am)(c)(l)(j i f d e:T)(H)(g)(a)(b):cD 27 [1,0,1,2,0,0,2,0,1,2,0,0,2,1,2,2,3,2,1,2,2,2,2,2,2,2,2,0,1,2,0,0,2,1,2,2,2,2,2,2,2] bX [j,i,aQ c,f,d,e,.ag s.c,bQ l none,iI g,iI (ofNat a),iI (ofNat b)] H bV =
( zN [j,i,aQ c,f,d,e,.ag s.c,bQ l
 none,iI g,iI (.ofNat a),iI (.ofNat b),iI 0] H):=qh
def qxe(s:am)(c)(l)(j i f d e:T)(H)(g)(a)(b)(u):cD 27 ee bV [j,i,aQ c,f,d,e,.ag s.c,bQ l none,iI g,iI (ofNat a),iI (ofNat b),iI (ofNat u)] H bV =
( gD (decide (0<=ofNat a)&&decide (ofNat a<ofNat l.length))<|bif decide (ofNat u<ofNat (l.getD a (aB.mk (0:Int) [])).l.length) then zN [j,i,aQ c,f,d,e,.ag s.c,bQ l
 none,iI g,iI (.ofNat a),iI (.ofNat b),iI (.ofNat u)] H else
 zX 8 [j,i,aQ c,f,d,e,.ag s.c,bQ l
 none,iI g,iI (.ofNat a),iI (.ofNat b),iI (.ofNat u)] H):=qh
def qtF(s:am)(c)(l)(j i f d e:T)(H)(g)(a)(b)(u):cD 27 ee bV [j,i,aQ c,f,d,e,.ag s.c,bQ l none,iI g,iI (ofNat a),iI (ofNat b),iI (ofNat u)] H bX =
( gD (decide (0<=ofNat a)&&decide (ofNat a<ofNat l.length))<|bif decide (ofNat u<ofNat (l.getD a (aB.mk (0:Int) [])).l.length) then zN [j,i,aQ c,f,d,e,.ag s.c,bQ l
 none,iI g,iI (.ofNat a),iI (.ofNat b)] H else
 zX 8 [j,i,aQ c,f,d,e,.ag s.c,bQ l
 none,iI g,iI (.ofNat a),iI (.ofNat b)] H):=qh
def qxf(s:am)(c)(l)(j i f d e:T)(H)(g)(a)(b)(u):cD 27 [2,2,0,0,2,0,1,2,0,0,2,0,1,2,0,0,2,1,2,2,3,2,1,2,2,2,2,2,2,2,2,0,1,2,0,0,2,1,2,2,2,2,2,2,2] bV [j,i,aQ c,f,d,e,.ag s.c,bQ l none,iI g,iI (ofNat a),iI (ofNat b),iI (ofNat u)] H bV =
( zN [j,i,aQ c,f,d,e,.ag s.c,bQ l
 none,iI g,iI (.ofNat a),iI (.ofNat b),iI (i64.wrap (ofNat u+1))] H):=qh
def qxg(s:am)(c)(l)(j i f d e:T)(H)(g)(a)(b)(u):cD 27 [1,0,1,2,0,0,2,0,1,2,0,0,2,0,1,2,0,0,2,1,2,2,3,2,1,2,2,2,2,2,2,2,2,0,1,2,0,0,2,1,2,2,2,2,2,2,2] bV [j,i,aQ c,f,d,e,.ag s.c,bQ l none,iI g,iI (ofNat a),iI (ofNat b),iI (ofNat u)] H bG =
( zN [j,i,aQ c,f,d,e,.ag s.c,bQ l
 none,iI g,iI (.ofNat a),iI (.ofNat b),iI (.ofNat u),iI 0] H):=qh
def qxh(s:am)(c)(l)(j i f d e:T)(H)(g)(a)(b)(u)(y):cD 27 c8 bG [j,i,aQ c,f,d,e,.ag s.c,bQ l none,iI g,iI (ofNat a),iI (ofNat b),iI (ofNat u),iI (ofNat y)] H bG =
( gD (decide (0<=ofNat b)&&decide (ofNat b<ofNat l.length))<|bif decide (ofNat y<ofNat (l.getD b (aB.mk (0:Int) [])).l.length) then zN [j,i,aQ c,f,d,e,.ag s.c,bQ l
 none,iI g,iI (.ofNat a),iI (.ofNat b),iI (.ofNat u),iI (.ofNat y)] H else
 zX 10 [j,i,aQ c,f,d,e,.ag s.c,bQ l
 none,iI g,iI (.ofNat a),iI (.ofNat b),iI (.ofNat u),iI (.ofNat y)] H):=qh
def qtG(s:am)(c)(l)(j i f d e:T)(H)(g)(a)(b)(u)(y):cD 27 c8 bG [j,i,aQ c,f,d,e,.ag s.c,bQ l none,iI g,iI (ofNat a),iI (ofNat b),iI (ofNat u),iI (ofNat y)] H bV =
( gD (decide (0<=ofNat b)&&decide (ofNat b<ofNat l.length))<|bif decide (ofNat y<ofNat (l.getD b (aB.mk (0:Int) [])).l.length) then zN [j,i,aQ c,f,d,e,.ag s.c,bQ l
 none,iI g,iI (.ofNat a),iI (.ofNat b),iI (.ofNat u)] H else
 zX 10 [j,i,aQ c,f,d,e,.ag s.c,bQ l
 none,iI g,iI (.ofNat a),iI (.ofNat b),iI (.ofNat u)] H):=qh
def qxi(s:am)(c)(l)(j i f d e:T)(H)(g)(a)(b)(u)(y):cD 27 [2,2,0,0,2,0,1,2,0,0,2,0,1,2,0,0,2,0,1,2,0,0,2,1,2,2,3,2,1,2,2,2,2,2,2,2,2,0,1,2,0,0,2,1,2,2,2,2,2,2,2] bG [j,i,aQ c,f,d,e,.ag s.c,bQ l none,iI g,iI (ofNat a),iI (ofNat b),iI (ofNat u),iI (ofNat y)] H bG =
( zN [j,i,aQ c,f,d,e,.ag s.c,bQ l
 none,iI g,iI (.ofNat a),iI (.ofNat b),iI (.ofNat u),iI (i64.wrap (ofNat y+1))] H):=qh
def qxj(p)(d)(s:am)(c)(l)(k j i e f:T)(H)(g)(a)(b)(u)(y):cK (qt.add 56 (qH p λ_=>some (.new (aQ d)))) 27 [0,1,2,0,0,2,0,1,2,0,0,2,0,1,2,0,0,2,0,1,2,0,0,2,1,2,2,3,2,1,2,2,2,2,2,2,2,2,0,1,2,0,0,2,1,2,2,2,2,2,2,2] bG [k,j,aQ c,i,e,f,.ag s.c,bQ l none,iI g,iI (ofNat a),iI (ofNat b),iI (ofNat u),iI (ofNat y)] H bG =
( gD (decide (0<=ofNat a)&&decide (ofNat a<ofNat l.length))<|gD (decide (0<=ofNat u)&&decide (ofNat u<ofNat (l.getD a (aB.mk (0:Int) [])).l.length))<|gD (decide (0<=ofNat b)&&decide (ofNat b<ofNat l.length))<|gD (decide (0<=ofNat y)&&decide (ofNat y<ofNat (l.getD b (aB.mk (0:Int) [])).l.length))<|gD (qx (p [aQ c,.agg ((l.getD a (aB.mk (0:Int) [])).l.getD u (aw.mk (0:Int) (0:Int))).c,.agg ((l.getD b (aB.mk (0:Int) [])).l.getD y (aw.mk (0:Int) (0:Int))).c,iI g] (aQ d).new))<|zN [k,j,aQ d,i,e,f,.ag s.c,bQ l
 none,iI g,iI (.ofNat a),iI (.ofNat b),iI (.ofNat u),iI (.ofNat y)] H):=qh
end Go.Ab
