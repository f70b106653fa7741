/- A part of the proof: nothing is assumed. -/
import Derived.Test.YtfcpfihblbbelaaGreatDoorP4
import Derived.Test.YtfcpfihblbbelaaGreatDoorP3
set_option linter.all false
namespace Go.Ab
open IntKind(i64 u8)
open Int(ofNat)
open Go.Proofs
def ct1(w:bD)(a k t i:Nat)(d:Int)(S f:aq)(e:Nat->JO)(X R:Nat->aq):cD 20 [0,1,2,0,0,2,1,2,2,2,2] [1,2,3,7] [bz w,.ah bL,nC a k t .ag .ag .ag d,iI (ofNat i)] (mq S X f (.mk t 1 t e false false none) R []) [1,2,3,7] =
( gD (decide (0<=ofNat i)&&decide (ofNat i<6))<|bif (w.q.tb i).length==(0:Nat) then gD (t==t&&true)<|gD (((0:Nat)+t).ble t)<|gD (((t+(1:Nat))*(25:Nat)).ble 70368744177664)<|bif ((0:Nat)+t+(1:Nat)).ble t then zN [bz w,.ah [.ag,.ag,.ag,.ag,.ag,.ag,uI 0],.ah [.own 0 a 0 a
 none,.own 17 k 0 k
 none,.own 18 t 0 (t+1)
 none,.ag,.ag,.ag,uI d],iI (.ofNat i)] [S,X (0:Nat),X (1:Nat),X (2:Nat),X (3:Nat),X (4:Nat),X (5:Nat),X (6:Nat),X (7:Nat),X (8:Nat),X (9:Nat),X (10:Nat),X (11:Nat),X (12:Nat),X (13:Nat),X (14:Nat),X (15:Nat),f,.mk t 1 t (λj=>bif ((0:Nat)+t).ble j&&j.blt (0+t+1) then [[T.own 25 0 0 0 (some 0)]].getD ((0:Nat)+(j-(0+t))) []
 else e j) false false
 none,R (0:Nat),R (1:Nat),R (2:Nat),R (3:Nat),R (4:Nat),R (5:Nat),.mk 0 4 0 (λj=>[]) true true
 none,.mk 0 1 1 (λj=>[[T.own 25 0 0 0 (some 0)]].getD j []) false true
 none] else
 zN [bz w,.ah [.ag,.ag,.ag,.ag,.ag,.ag,uI 0],.ah [.own 0 a 0 a
 none,.own 17 k 0 k
 none,.own 18 (t+1) (0:Nat) (t+1)
 none,.ag,.ag,.ag,uI d],iI (.ofNat i)] [S,X (0:Nat),X (1:Nat),X (2:Nat),X (3:Nat),X (4:Nat),X (5:Nat),X (6:Nat),X (7:Nat),X (8:Nat),X (9:Nat),X (10:Nat),X (11:Nat),X (12:Nat),X (13:Nat),X (14:Nat),X (15:Nat),f,.mk (t+1) (1:Nat) (t+1) (λj=>bif j.blt t then e (0+j)
 else [[T.own 25 0 0 0 (some 0)]].getD ((0:Nat)+(j-t)) []) false false
 none,R (0:Nat),R (1:Nat),R (2:Nat),R (3:Nat),R (4:Nat),R (5:Nat),.mk 0 4 0 (λj=>[]) true true
 none,.mk 0 1 1 (λj=>[[T.own 25 0 0 0 (some 0)]].getD j []) false true
 none] else
 gD ((((0:Nat)+(w.q.tb i).length)*(57:Nat)).ble 70368744177664)<|bif ((0:Nat)+(w.q.tb i).length).ble 0 then gD (((0:Nat)+(w.q.tb i).length).ble 0)<|gD (t==t&&true)<|gD (((0:Nat)+t).ble t)<|gD (((t+(1:Nat))*(25:Nat)).ble 70368744177664)<|bif ((0:Nat)+t+(1:Nat)).ble t then zN [bz w,.ah [.ag,.ag,.ag,.ag,.ag,.ag,uI 0],.ah [.own 0 a 0 a
 none,.own 17 k 0 k
 none,.own 18 t 0 (t+1)
 none,.ag,.ag,.ag,uI d],iI (.ofNat i)] [S,X (0:Nat),X (1:Nat),X (2:Nat),X (3:Nat),X (4:Nat),X (5:Nat),X (6:Nat),X (7:Nat),X (8:Nat),X (9:Nat),X (10:Nat),X (11:Nat),X (12:Nat),X (13:Nat),X (14:Nat),X (15:Nat),f,.mk t 1 t (λj=>bif ((0:Nat)+t).ble j&&j.blt (0+t+1) then [[T.own 25 0 0 ((0:Nat)+(w.q.tb i).length) (some 0)]].getD ((0:Nat)+(j-(0+t))) []
 else e j) false false
 none,R (0:Nat),R (1:Nat),R (2:Nat),R (3:Nat),R (4:Nat),R (5:Nat),.mk 0 4 0 (λj=>bif Nat.ble 0 j&&j.blt ((0:Nat)+(w.q.tb i).length) then [uI ((w.q.tb i).getD j (Lp.mk (0:Int) false [] [])).b,.bool ((w.q.tb i).getD j (Lp.mk (0:Int) false [] [])).w,aX ((w.q.tb i).getD j (Lp.mk (0:Int) false [] [])).th,lV ((w.q.tb i).getD j (Lp.mk (0:Int) false [] [])).ps]
 else []) ((w.q.tb i).length.ble 8&&(List.range (w.q.tt.ln (ofNat i).toNat)).all λj=>((λj=>(w.q.tt.L (ofNat i).toNat j).c) j).all qG) true
 none,.mk 0 1 1 (λj=>[[T.own 25 0 0 ((0:Nat)+(w.q.tb i).length) (some 0)]].getD j []) false true
 none] else
 zN [bz w,.ah [.ag,.ag,.ag,.ag,.ag,.ag,uI 0],.ah [.own 0 a 0 a
 none,.own 17 k 0 k
 none,.own 18 (t+1) (0:Nat) (t+1)
 none,.ag,.ag,.ag,uI d],iI (.ofNat i)] [S,X (0:Nat),X (1:Nat),X (2:Nat),X (3:Nat),X (4:Nat),X (5:Nat),X (6:Nat),X (7:Nat),X (8:Nat),X (9:Nat),X (10:Nat),X (11:Nat),X (12:Nat),X (13:Nat),X (14:Nat),X (15:Nat),f,.mk (t+1) (1:Nat) (t+1) (λj=>bif j.blt t then e (0+j)
 else [[T.own 25 0 0 ((0:Nat)+(w.q.tb i).length) (some 0)]].getD ((0:Nat)+(j-t)) []) false false
 none,R (0:Nat),R (1:Nat),R (2:Nat),R (3:Nat),R (4:Nat),R (5:Nat),.mk 0 4 0 (λj=>bif Nat.ble 0 j&&j.blt ((0:Nat)+(w.q.tb i).length) then [uI ((w.q.tb i).getD j (Lp.mk (0:Int) false [] [])).b,.bool ((w.q.tb i).getD j (Lp.mk (0:Int) false [] [])).w,aX ((w.q.tb i).getD j (Lp.mk (0:Int) false [] [])).th,lV ((w.q.tb i).getD j (Lp.mk (0:Int) false [] [])).ps]
 else []) ((w.q.tb i).length.ble 8&&(List.range (w.q.tt.ln (ofNat i).toNat)).all λj=>((λj=>(w.q.tt.L (ofNat i).toNat j).c) j).all qG) true
 none,.mk 0 1 1 (λj=>[[T.own 25 0 0 ((0:Nat)+(w.q.tb i).length) (some 0)]].getD j []) false true
 none] else
 gD (t==t&&true)<|gD (((0:Nat)+t).ble t)<|gD (((t+(1:Nat))*(25:Nat)).ble 70368744177664)<|bif ((0:Nat)+t+(1:Nat)).ble t then zN [bz w,.ah [.ag,.ag,.ag,.ag,.ag,.ag,uI 0],.ah [.own 0 a 0 a
 none,.own 17 k 0 k
 none,.own 18 t 0 (t+1)
 none,.ag,.ag,.ag,uI d],iI (.ofNat i)] [S,X (0:Nat),X (1:Nat),X (2:Nat),X (3:Nat),X (4:Nat),X (5:Nat),X (6:Nat),X (7:Nat),X (8:Nat),X (9:Nat),X (10:Nat),X (11:Nat),X (12:Nat),X (13:Nat),X (14:Nat),X (15:Nat),f,.mk t 1 t (λj=>bif ((0:Nat)+t).ble j&&j.blt (0+t+1) then [[T.own 26 0 0 ((0:Nat)+(w.q.tb i).length)
 none]].getD ((0:Nat)+(j-(0+t))) []
 else e j) false false
 none,R (0:Nat),R (1:Nat),R (2:Nat),R (3:Nat),R (4:Nat),R (5:Nat),.mk 0 4 0 (λj=>[]) true true
 none,.mk 0 4 ((0:Nat)+(w.q.tb i).length) (λj=>[uI ((w.q.tb i).getD j (Lp.mk (0:Int) false [] [])).b,.bool ((w.q.tb i).getD j (Lp.mk (0:Int) false [] [])).w,aX ((w.q.tb i).getD j (Lp.mk (0:Int) false [] [])).th,lV ((w.q.tb i).getD j (Lp.mk (0:Int) false [] [])).ps]) ((w.q.tb i).length.ble 8&&(List.range (w.q.tt.ln (ofNat i).toNat)).all λj=>((λj=>(w.q.tt.L (ofNat i).toNat j).c) j).all qG) false
 none,.mk 0 1 1 (λj=>[[T.own 26 0 0 ((0:Nat)+(w.q.tb i).length)
 none]].getD j []) false true
 none] else
 zN [bz w,.ah [.ag,.ag,.ag,.ag,.ag,.ag,uI 0],.ah [.own 0 a 0 a
 none,.own 17 k 0 k
 none,.own 18 (t+1) (0:Nat) (t+1)
 none,.ag,.ag,.ag,uI d],iI (.ofNat i)] [S,X (0:Nat),X (1:Nat),X (2:Nat),X (3:Nat),X (4:Nat),X (5:Nat),X (6:Nat),X (7:Nat),X (8:Nat),X (9:Nat),X (10:Nat),X (11:Nat),X (12:Nat),X (13:Nat),X (14:Nat),X (15:Nat),f,.mk (t+1) (1:Nat) (t+1) (λj=>bif j.blt t then e (0+j)
 else [[T.own 26 0 0 ((0:Nat)+(w.q.tb i).length)
 none]].getD ((0:Nat)+(j-t)) []) false false
 none,R (0:Nat),R (1:Nat),R (2:Nat),R (3:Nat),R (4:Nat),R (5:Nat),.mk 0 4 0 (λj=>[]) true true
 none,.mk 0 4 ((0:Nat)+(w.q.tb i).length) (λj=>[uI ((w.q.tb i).getD j (Lp.mk (0:Int) false [] [])).b,.bool ((w.q.tb i).getD j (Lp.mk (0:Int) false [] [])).w,aX ((w.q.tb i).getD j (Lp.mk (0:Int) false [] [])).th,lV ((w.q.tb i).getD j (Lp.mk (0:Int) false [] [])).ps]) ((w.q.tb i).length.ble 8&&(List.range (w.q.tt.ln (ofNat i).toNat)).all λj=>((λj=>(w.q.tt.L (ofNat i).toNat j).c) j).all qG) false
 none,.mk 0 1 1 (λj=>[[T.own 26 0 0 ((0:Nat)+(w.q.tb i).length)
 none]].getD j []) false true
 none]):=qh
set_option maxHeartbeats 1000000
set_option maxRecDepth 100000
def AQ(i x:Nat):Wa:=List.range 19++(List.range 6).map (λe=>bif e==i then x else 19+e)
def qn8(i x j:Nat)(d:i<6)(a:j<6)(e:j≠i)(hx:x=25∨x=26)(h:qa)(aj off len:Nat)(cap:Option Nat):qJ (AQ i x) h (.own (19+j) aj off len cap) = .own (19+j) aj off len cap:=by
 obtain rfl|rfl:=hx
 all_goals
  cases zy d
  all_goals
   cases zy a
   all_goals first|rfl|exact absurd rfl e
def qn9(i x:Nat)(a:i<6)(hx:x=25∨x=26)(h:qa)(aj off len:Nat)(cap:Option Nat):qJ (AQ i x) h (.own x aj off len cap) = .own (19+i) aj off len cap:=by
 obtain rfl|rfl:=hx
 all_goals
  cases zy a
  all_goals rfl
def qmw(i x j:Nat)(d:i<6)(a:j<16)(hx:x=25∨x=26)(h:qa)(aj off len:Nat)(cap:Option Nat):qJ (AQ i x) h (.own (1+j) aj off len cap) = .own (1+j) aj off len cap:=by
 obtain rfl|rfl:=hx
 all_goals
  cases zy d
  all_goals
   cases qW a
   all_goals rfl
section
variable (A:Nat->Bool) (w:bD)
def mr(j:Nat):JO:=[.own (19+j) 0 0 (w.q.tb j).length none]
def RS(i e:Nat):aq:=.mk 0 4 (bif e.blt i then(w.q.tb e).length else 0) (λj=>(((w.q.tb e).getD j eG).l).c) false false none
def di(i:Nat)(g:Nat->JO):aq:=.mk i 1 i g false false none
def DF(i:Nat)(g:Nat->JO)(R:Nat->aq)(r:qa):qa:=mq (bW w.sl.length w.sl.length (iv A w)) (XA A w w.sl.length) (Kz 6 (YF w)) (di i g) R r
def hT(i:Nat):qa:=DF A w i (mr w) (RS w i) []
def qmx{aa:Wa}{nt k:Nat}{l:Wa}{vs:JO}:am G17 aa nt l k vs (rh A w 6 []) vs (hT A w 0):=by
 refine .same (.cons ⟨rfl,rfl,rfl,λh=>h,λ_ _=>rfl⟩ ?_ rfl)
 repeat (first|exact .nil|refine .cons ⟨rfl,rfl,rfl,λh=>h,λ_ _=>rfl⟩ ?_ rfl|refine .cons ⟨rfl,rfl,rfl,(λh=>by cases h),λj a=>absurd a (vm j)⟩ ?_ rfl)
def o7(i:Nat):T:=nC w.sl.length 6 i .ag .ag .ag w.d
def GM(i x len:Nat)(cap:Option Nat)(j:Nat):JO:=bif j.blt i then mr w (0+j) else [[T.own x 0 0 len cap]].getD (0+(j-i)) []
def Vy{i x:Nat}(d:i<6)(hx:x=25∨x=26)(h:qa)(j:Nat)(a:j<16):iv A w j=(iv A w j).map (qJ (AQ i x) h):=by
 unfold iv;cases A j with
 |false=>rfl
 |true =>
  show [uI (bl w j).b,T.own (1+j) 0 0 (bl w j).l.length none]=[uI (bl w j).b,qJ (AQ i x) h (.own (1+j) 0 0 (bl w j).l.length none)];rw[qmw i x j d a hx]
def Vz{i x len:Nat}{cap:Option Nat}(a:i<6)(hx:x=25∨x=26)(h:qa)(j:Nat)(d:j<i+1):(bif j==i then [T.own (19+j) 0 0 len cap] else mr w j)=(GM w i x len cap j).map (qJ (AQ i x) h):=by
 unfold GM;by_cases c:j=i
 .subst c;rw[wF,wm,QP (wc _),wW,wp];show _=[qJ (AQ j x) h (.own x 0 0 len cap)];rw[qn9 j x a hx]
 .rw[show(j==i)=false by simpa using c,wp,qL ae,wm,wn];show mr w j=[qJ (AQ i x) h (.own (19+j) 0 0 (w.q.tb j).length none)];rw[qn8 i x j a ae c hx];rfl
def Pt:aq:=.mk 0 4 0 (λ_=>[]) true true none
def qua(i:Nat)(F:Bool):aq:=.mk 0 4 (0+(w.q.tb i).length) (λj=>(((w.q.tb i).getD j eG).l).c) F false none
def Pu(x len:Nat)(cap:Option Nat):aq:=.mk 0 1 1 (λj=>[[T.own x 0 0 len cap]].getD j []) false true none
def vT(i k:Nat):JO:=[bz w,.ah bL,o7 w i,iI (ofNat k)]
def qp2{aa:Wa}{nt:Nat}{l:Wa}(r:w.sl.length<=16){i:Nat}(d:i<6)(F:Bool)(len:Nat)(f:(w.q.tb i).length=len)(z:0<len) :
 am G17 aa nt l 0 (vT w (i+1) i) (DF A w (i+1) (GM w i 26 (0+len) none) (RS w i) [Pt,qua w i F,Pu 26 (0+len) none]) (vT w (i+1) i) (hT A w (i+1)):=by
 have o:=λh=>Vy A w (i:=i) (x:=26) d (.inr rfl) h;have k:=λh=>Vz w (i:=i) (x:=26) (len:=0+len) (cap:=none) d (.inr rfl) h;have g:∀j,j<i+1->mr w j=(bif j==i then [T.own (19+j) 0 0 (0+len) none] else mr w j):=λj a=>by
  by_cases c:j=i
  .subst c;rw[wF,wm,wn,←f];rfl
  .rw[show(j==i)=false by simpa using c];rfl
 have e:(RS w (i+1) i).n=0+(w.q.tb i).length:=by
  show(bif i.blt (i+1) then _ else 0)=_;rw[qL ae,wn];rfl
 cases zy d
 all_goals
  cases F
  all_goals
   refine am.bZ (AQ _ 26) rfl rfl rfl (.cons ⟨rfl,rfl,rfl,λh=>h,λj a=>o _ j (by have:j<w.sl.length:=a;omega)⟩ ?_ rfl)
   repeat (first|exact .nil|refine .cons ⟨rfl,rfl,rfl,λh=>h,λ_ _=>rfl⟩ ?_ rfl|refine .cons ⟨rfl,rfl,rfl,λh=>h,λj a=>(g j a).trans (k _ j a)⟩ ?_ rfl|refine .cons ⟨rfl,rfl,e,(λh=>by first|exact h|cases h),λ_ _=>rfl⟩ ?_ rfl)
end
section
variable (A:Nat->Bool) (w:bD)
def GN(i j:Nat):JO:=bif j==i then [T.own (19+j) 0 0 0 (some 0)] else mr w j
def qp3{aa:Wa}{nt:Nat}{l:Wa}(s:w.sl.length<=16){i:Nat}(e:i<6)(k:(w.q.tb i).length=0) :
 am G17 aa nt l 0 (vT w (i+1) i) (DF A w (i+1) (GM w i 25 0 (some 0)) (RS w i) [Pt,Pu 25 0 (some 0)]) (vT w (i+1) i) (hT A w (i+1)):=by
 have r:=λh=>Vy A w (i:=i) (x:=25) e (.inl rfl) h;have d:=λh=>Vz w (i:=i) (x:=25) (len:=0) (cap:=some 0) e (.inl rfl) h;have g:(RS w (i+1) i).n=0:=by
  show(bif i.blt (i+1) then _ else 0)=_;rw[qL ae];exact k
 have s1:am G17 aa nt l 0 (vT w (i+1) i) (DF A w (i+1) (GM w i 25 0 (some 0)) (RS w i) [Pt,Pu 25 0 (some 0)]) (vT w (i+1) i) (DF A w (i+1) (GN w i) (RS w (i+1)) []):=by
  cases zy e
  all_goals
   refine am.bZ (AQ _ 25) rfl rfl rfl (.cons ⟨rfl,rfl,rfl,λh=>h,λj a=>r _ j (by have:j<w.sl.length:=a;omega)⟩ ?_ rfl)
   repeat (first|exact .nil|refine .cons ⟨rfl,rfl,rfl,λh=>h,λ_ _=>rfl⟩ ?_ rfl|refine .cons ⟨rfl,rfl,rfl,λh=>h,λj a=>d _ j a⟩ ?_ rfl|refine .cons ⟨rfl,rfl,g,(λh=>by cases h),λj a=>absurd a (vm j)⟩ ?_ rfl)
 refine .trans s1 (.sO ?_);refine dG.one (p:=bW w.sl.length w.sl.length (iv A w)::XA A w w.sl.length 0::XA A w w.sl.length 1::XA A w w.sl.length 2::XA A w w.sl.length 3::XA A w w.sl.length 4::XA A w w.sl.length 5::XA A w w.sl.length 6::XA A w w.sl.length 7::XA A w w.sl.length 8::XA A w w.sl.length 9::XA A w w.sl.length 10::XA A w w.sl.length 11::XA A w w.sl.length 12::XA A w w.sl.length 13::XA A w w.sl.length 14::XA A w w.sl.length 15::[Kz 6 (YF w)])
  (q:=RS w (i+1) 0::RS w (i+1) 1::RS w (i+1) 2::RS w (i+1) 3::RS w (i+1) 4::[RS w (i+1) 5]) (b:=di (i+1) (GN w i)) (b2:=di (i+1) (mr w)) ⟨rfl,rfl,rfl,rfl⟩ rfl λj a=>?_
 have a:j<i+1:=a;show(mr w j).length=(GN w i j).length/\∀(o:Nat) c d,(GN w i j)[o]?=some c->(mr w j)[o]?=some d->rN _ c d;unfold GN;by_cases c:j=i
 .subst c;rw[wF,wm];refine⟨rfl,λo c d h1 f=>?_⟩;cases o with
  |succ o=>simp at h1
  |zero =>
   obtain rfl:=wa h1;obtain rfl:=wa f;refine .inr ⟨19+j,0,0,0,0,RS w (j+1) j,rfl,by show T.own (19+j) 0 0 (w.q.tb j).length none=_;rw[k],?_,by rw[g];exact wc _⟩;cases zy e
   all_goals rfl
 .rw[show(j==i)=false by simpa using c,wp];exact⟨rfl,λo c d h1 f=>by rw[h1] at f;obtain rfl:=wa f;exact .refl _⟩
def qlj(a:w.sl.length<=16)(u:∀e,(w.q.tb e).length<=1000000)(i:Nat)(f:i<6) :
 Pq 20 [] [0,0,2,1,2,2,2,2] [1,2,3,7] (vT w i i) (hT A w i) .normal [1,2,3,7] (vT w (i+1) (i+1)) (hT A w (i+1)):=by
 have run:=λ{p l j h s k h1 e} (q:cD 20 p l j h s=some (e,k,h1))=>cf [] q;have r:=run ((cr8 w (.ah bL) (o7 w i) i (hT A w i)).trans (qk (wq bH) rfl));have g:(decide ((0:Int)<=ofNat i)&&decide (ofNat i<(6:Int)))=true:=by simp;omega
 have q:=ct1 w w.sl.length 6 i i w.d (bW w.sl.length w.sl.length (iv A w)) (Kz 6 (YF w)) (mr w) (XA A w w.sl.length) (RS w i);have x:=u i;have o:Pq 20 [] [0,1,2,0,0,2,1,2,2,2,2] [1,2,3,7] (vT w i i) (hT A w i) .normal [1,2,3,7] (vT w (i+1) i) (hT A w (i+1)):=by
  by_cases z:(w.q.tb i).length=0
  .have q:=q.trans (qk g (qk (by simpa using z) (qk au (qk (qO ae) (qk (qO ae) (qF (by rw[ZG ae];simp) rfl))))));exact Pz.post (run q) λnt=>qp3 A w a f z
  .have q:=q.trans (qk g (qF (by simpa using z) (qk (qO ae) (qF (by rw[ZG ae];simp) (qk au (qk (qO ae) (qk (qO ae) (qF (by rw[ZG ae];simp) rfl))))))));exact Pz.post (run q) λnt=>qp2 A w a f _ (w.q.tb i).length rfl ae
 have q6:=cra (bz w) (.ah bL) (o7 w (i+1)) i (hT A w (i+1));rw[il ae] at q6;exact av r (av (fi 5 o) (run q6))
def qmz(f:w.sl.length<=16)(i:∀e,(w.q.tb e).length<=1000000):Pq 20 [] [1,2,2,2,2] [1,2,3] [bz w,.ah bL,o7 w 0] (hT A w 0) .normal [1,2,3] [bz w,.ah bL,o7 w 6] (hT A w 6):=by
 have run:=λ{p l a h g d h1 e} (q:cD 20 p l a h g=some (e,d,h1))=>cf [] q;exact av (run (cr7 _ _ _ _)) (fi 4 (Pz.count qh (λk=>vT w k k) (λk=>hT A w k) (n:=6) au (λk j=>qlj A w f i k j)
  (lk (run ((qt9 w (.ah bL) (o7 w 6) 6 (hT A w 6)).trans (qF au rfl))))))
end
def cu1(w:bD)(a k t:Nat)(d:Int)(S Y e:aq)(X R:Nat->aq):cD 20 [1,2,2,2,2,2] [1,2,3] [bz w,.ah bL,nC a k t .ag .ag .ag d] (mq S X Y e R []) [1,2,3] =
( bif w.cr.length==(0:Nat) then zN [bz w,.ah [.ag,.ag,.ag,.ag,.ag,.ag,uI 0],.ah [.own 0 a 0 a
 none,.own 17 k 0 k
 none,.own 18 t 0 t
 none,.ag,.ag,.ag,uI d]] [S,X (0:Nat),X (1:Nat),X (2:Nat),X (3:Nat),X (4:Nat),X (5:Nat),X (6:Nat),X (7:Nat),X (8:Nat),X (9:Nat),X (10:Nat),X (11:Nat),X (12:Nat),X (13:Nat),X (14:Nat),X (15:Nat),Y,e,R (0:Nat),R (1:Nat),R (2:Nat),R (3:Nat),R (4:Nat),R (5:Nat)] else
 gD ((w.cr.length*(41:Nat)).ble 70368744177664)<|zN [bz w,.ah [.ag,.ag,.ag,.ag,.ag,.ag,uI 0],.ah [.own 0 a 0 a
 none,.own 17 k 0 k
 none,.own 18 t 0 t
 none,.own 25 0 0 w.cr.length
 none,.ag,.ag,uI d]] [S,X (0:Nat),X (1:Nat),X (2:Nat),X (3:Nat),X (4:Nat),X (5:Nat),X (6:Nat),X (7:Nat),X (8:Nat),X (9:Nat),X (10:Nat),X (11:Nat),X (12:Nat),X (13:Nat),X (14:Nat),X (15:Nat),Y,e,R (0:Nat),R (1:Nat),R (2:Nat),R (3:Nat),R (4:Nat),R (5:Nat),cB (0:Nat) w.cr.length λj=>w.cr.getD j (aV.mk (0:Int) (0:Int) (0:Int) (0:Int) (0:Int))]):=qh
def cu2(w:bD)(a k t:Nat)(d:Int)(S Y e:aq)(X R:Nat->aq):cD 20 [1,2,2,2,2,2,2] [1,2,3] [bz w,.ah bL,nC a k t (aM w.cr) .ag .ag d] (mq S X Y e R []) [1,2,3] =
( bif w.he.length==(0:Nat) then zN [bz w,.ah [.ag,.ag,.ag,.ag,.ag,.ag,uI 0],.ah [.own 0 a 0 a
 none,.own 17 k 0 k
 none,.own 18 t 0 t
 none,aM w.cr,.ag,.ag,uI d]] [S,X (0:Nat),X (1:Nat),X (2:Nat),X (3:Nat),X (4:Nat),X (5:Nat),X (6:Nat),X (7:Nat),X (8:Nat),X (9:Nat),X (10:Nat),X (11:Nat),X (12:Nat),X (13:Nat),X (14:Nat),X (15:Nat),Y,e,R (0:Nat),R (1:Nat),R (2:Nat),R (3:Nat),R (4:Nat),R (5:Nat)] else
 gD ((w.he.length*(17:Nat)).ble 70368744177664)<|zN [bz w,.ah [.ag,.ag,.ag,.ag,.ag,.ag,uI 0],.ah [.own 0 a 0 a
 none,.own 17 k 0 k
 none,.own 18 t 0 t
 none,aM w.cr,.own 25 0 0 w.he.length
 none,.ag,uI d]] [S,X (0:Nat),X (1:Nat),X (2:Nat),X (3:Nat),X (4:Nat),X (5:Nat),X (6:Nat),X (7:Nat),X (8:Nat),X (9:Nat),X (10:Nat),X (11:Nat),X (12:Nat),X (13:Nat),X (14:Nat),X (15:Nat),Y,e,R (0:Nat),R (1:Nat),R (2:Nat),R (3:Nat),R (4:Nat),R (5:Nat),AM (0:Nat) w.he]):=qh
def cu3(w:bD)(a k t:Nat)(d:Int)(S Y e:aq)(X R:Nat->aq):cD 20 [1,2,2,2,2,2,2,2] [1,2,3] [bz w,.ah bL,nC a k t (aM w.cr) (aX w.he) .ag d] (mq S X Y e R []) [2,3] =
( bif w.fa.length==(0:Nat) then zN [.ah [.ag,.ag,.ag,.ag,.ag,.ag,uI 0],.ah [.own 0 a 0 a
 none,.own 17 k 0 k
 none,.own 18 t 0 t
 none,aM w.cr,aX w.he,.ag,uI d]] [S,X (0:Nat),X (1:Nat),X (2:Nat),X (3:Nat),X (4:Nat),X (5:Nat),X (6:Nat),X (7:Nat),X (8:Nat),X (9:Nat),X (10:Nat),X (11:Nat),X (12:Nat),X (13:Nat),X (14:Nat),X (15:Nat),Y,e,R (0:Nat),R (1:Nat),R (2:Nat),R (3:Nat),R (4:Nat),R (5:Nat)] else
 gD ((w.fa.length*(17:Nat)).ble 70368744177664)<|zN [.ah [.ag,.ag,.ag,.ag,.ag,.ag,uI 0],.ah [.own 0 a 0 a
 none,.own 17 k 0 k
 none,.own 18 t 0 t
 none,aM w.cr,aX w.he,.own 25 0 0 w.fa.length
 none,uI d]] [S,X (0:Nat),X (1:Nat),X (2:Nat),X (3:Nat),X (4:Nat),X (5:Nat),X (6:Nat),X (7:Nat),X (8:Nat),X (9:Nat),X (10:Nat),X (11:Nat),X (12:Nat),X (13:Nat),X (14:Nat),X (15:Nat),Y,e,R (0:Nat),R (1:Nat),R (2:Nat),R (3:Nat),R (4:Nat),R (5:Nat),AM (0:Nat) w.fa]):=qh
def cu4(w:bD)(a k t:Nat)(d:Int)(H:qa):cD 20 [2,2,2,2,2,2,2,2] [2,3] [.ah bL,nC a k t (aM w.cr) (aX w.he) (aX w.fa) d] H [2] =
( zR [.ah [.own 0 a 0 a
 none,.own 17 k 0 k
 none,.own 18 t 0 t
 none,aM w.cr,aX w.he,aX w.fa,uI d]] H):=qh
def cu5(w:bD)(a k t:Nat)(d:Int)(H:qa):ZE aw G17 (az 20).aa Tryz.f20 (qB [2] [nC a k t (aM w.cr) (aX w.he) (aX w.fa) d] H) (λv=>some (v,H)) =
( some ((.agg [.own 0 a 0 a
 none,.own 17 k 0 k
 none,.own 18 t 0 t
 none,aM w.cr,aX w.he,aX w.fa,uI d],H))):=qh
section
variable (A:Nat->Bool) (w:bD)
def qoc(h:qa)(j:Nat)(a:j<6):mr w j=(mr w j).map (qJ AP h):=by
 cases zy a
 all_goals rfl
def Pv{aa:Wa}{nt:Nat}{l:Wa}(e:w.sl.length<=16)(b:aq){vs aS:JO}(d:vs.map (mV AP (DF A w 6 (mr w) (RS w 6) [b]))=aS):am G17 aa nt l 0 vs (DF A w 6 (mr w) (RS w 6) [b]) aS (hT A w 6):=by
 refine am.bZ AP rfl d rfl (.cons ⟨rfl,rfl,rfl,λh=>h,λj a=>Vx A w _ j (by have:j<w.sl.length:=a;omega)⟩ ?_ rfl)
 repeat (first|exact .nil|refine .cons ⟨rfl,rfl,rfl,λh=>h,λ_ _=>rfl⟩ ?_ rfl|refine .cons ⟨rfl,rfl,rfl,λh=>h,λj a=>qoc w _ j a⟩ ?_ rfl)
def o8(cr he fa:T):T:=nC w.sl.length 6 6 cr he fa w.d
def qp4(a:w.sl.length<=16)(x:w.cr.length<=1000000)(s:w.he.length<=1000000)(u:w.fa.length<=1000000) :
 Pq 20 [] [2,2,2,2,2] [1,2,3] [bz w,.ah bL,o8 w .ag .ag .ag] (hT A w 6) .ret [2] [o8 w (aM w.cr) (aX w.he) (aX w.fa)] (hT A w 6):=by
 have run:=λ{p l f h r g h1 e} (q:cD 20 p l f h r=some (e,g,h1))=>cf [] q
 let S:=bW w.sl.length w.sl.length (iv A w)
 have o:Pq 20 [] [1,2,2,2,2,2] [1,2,3] [bz w,.ah bL,o8 w .ag .ag .ag] (hT A w 6) .normal [1,2,3] [bz w,.ah bL,o8 w (aM w.cr) .ag .ag] (hT A w 6):=by
  have q:=cu1 w w.sl.length 6 6 w.d S (Kz 6 (YF w)) (di 6 (mr w)) (XA A w w.sl.length) (RS w 6);by_cases z:w.cr.length=0
  ·refine Pz.post (run (q.trans (qk (by simpa using z) rfl))) λnt=>.sl (.Ue (.Ue (.cons (Ly (.Ue (.Ue (.Ue (.cons (by
    show fu .ag (sL (λj=>w.cr.getD j pN) w.cr.length none);rw[z];exact .fG _ _ (.inl rfl)) (.refl _)))))) .nil))) (.refl _)
  ·exact Pz.post (run (q.trans (qF (by simpa using z) (qk (qO ae) rfl)))) λnt=>Pv A w a _ (by
    show [bz w,.ah bL,.ah [.own 0 w.sl.length 0 w.sl.length none,.own 17 6 0 6 none,.own 18 6 0 6 none,bif Nat.ble (0+w.cr.length) w.cr.length then T.view 5 w.cr.length (λe=>(w.cr.getD (0+e) pN).c) none else .undef,.ag,.ag,uI w.d]]=_;rw[qO ae,wm];simp only[wn];rfl)
 have k:Pq 20 [] [1,2,2,2,2,2,2] [1,2,3] [bz w,.ah bL,o8 w (aM w.cr) .ag .ag] (hT A w 6) .normal [1,2,3] [bz w,.ah bL,o8 w (aM w.cr) (aX w.he) .ag] (hT A w 6):=by
  have q:=cu2 w w.sl.length 6 6 w.d S (Kz 6 (YF w)) (di 6 (mr w)) (XA A w w.sl.length) (RS w 6);by_cases z:w.he.length=0
  ·refine Pz.post (run (q.trans (qk (by simpa using z) rfl))) λnt=>.sl (.Ue (.Ue (.cons (Ly (.Ue (.Ue (.Ue (.Ue (.cons (by
    show fu .ag (fj (λj=>w.he.getD j bU) w.he.length none);rw[z];exact .fG _ _ (.inl rfl)) (.refl _))))))) .nil))) (.refl _)
  ·exact Pz.post (run (q.trans (qF (by simpa using z) (qk (qO ae) rfl)))) λnt=>Pv A w a _ (by
    show [bz w,.ah bL,.ah [.own 0 w.sl.length 0 w.sl.length none,.own 17 6 0 6 none,.own 18 6 0 6 none,aM w.cr,bif Nat.ble (0+w.he.length) w.he.length then T.view 2 w.he.length (λe=>(w.he.getD (0+e) bU).c) none else .undef,.ag,uI w.d]]=_;rw[qO ae,wm];simp only[wn];rfl)
 have i:Pq 20 [] [1,2,2,2,2,2,2,2] [1,2,3] [bz w,.ah bL,o8 w (aM w.cr) (aX w.he) .ag] (hT A w 6) .normal [2,3] [.ah bL,o8 w (aM w.cr) (aX w.he) (aX w.fa)] (hT A w 6):=by
  have q:=cu3 w w.sl.length 6 6 w.d S (Kz 6 (YF w)) (di 6 (mr w)) (XA A w w.sl.length) (RS w 6);by_cases z:w.fa.length=0
  ·refine Pz.post (run (q.trans (qk (by simpa using z) rfl))) λnt=>.sl (.Ue (.cons (Ly (.Ue (.Ue (.Ue (.Ue (.Ue (.cons (by
    show fu .ag (fj (λj=>w.fa.getD j bU) w.fa.length none);rw[z];exact .fG _ _ (.inl rfl)) (.refl _)))))))) .nil)) (.refl _)
  ·exact Pz.post (run (q.trans (qF (by simpa using z) (qk (qO ae) rfl)))) λnt=>Pv A w a _ (by
    show [T.ah bL,T.ah [.own 0 w.sl.length 0 w.sl.length none,.own 17 6 0 6 none,.own 18 6 0 6 none,aM w.cr,aX w.he,bif Nat.ble (0+w.fa.length) w.fa.length then T.view 2 w.fa.length (λe=>(w.fa.getD (0+e) bU).c) none else .undef,uI w.d]]=_;rw[qO ae,wm];simp only[wn];rfl)
 exact av o (av k (av i (run (cu4 w w.sl.length 6 6 w.d (hT A w 6)))))
def qmA:Pq 20 [] [1,2] [1,2] [bz w,.ah bL] [] .normal [1,2,3] [bz w,.ah bL,nC 0 0 0 .ag .ag .ag w.d] (uk A w 0):=by
 refine Pz.post (cf [] (cq2 w)) λnt=>?_;have e:∀k,(XA A w 0 k).n=0:=λk=>by
  show(bif A k&&Nat.blt k 0 then _ else 0)=_;rw[QP (wR _),Bool.and_false];rfl
 refine am.gh (uk A w 0) (λb a=>?_) (iN.Ue (iN.Ue (iN.cons (ng.ah (.cons (.own (k:=0) (b:=bW 0 0 (iv A w)) (wR _) rfl rfl) (.cons (.own (k:=17) (b:=YG) (wR _) rfl rfl) (.cons (.own (k:=18) (b:=TG) (wR _) rfl rfl) (.refl _))))) .nil))) (cT.refl _);simp only[uk,mq,wK,xa,or_false] at a;rcases a with h|h|h|h|h|h|h|h|h|h|h|h|h|h|h|h|h|h|h|h|h|h|h|h|h
 all_goals
  subst h
  first|exact⟨rfl,rfl⟩|exact⟨e _,rfl⟩
def Pw(a:w.sl.length<=16)(z:∀j,j<w.sl.length->1<=(bl w j).l.length/\(bl w j).l.length<=1000)(hp:∀e,(w.q.Y e).pe.length<=1000000)(r:∀e,(w.q.tb e).length<=1000000)(x:w.cr.length<=1000000)(s:w.he.length<=1000000)(u:w.fa.length<=1000000) :
 aR aw G17 20 [.agg (w.cc none)] [] (.agg [.own 0 w.sl.length 0 w.sl.length none,.own 17 6 0 6 none,.own 18 6 0 6 none,aM w.cr,aX w.he,aX w.fa,uI w.d]) (hT A w 6):=by
 have run:=λ{p l f h o g h1 e} (q:cD 20 p l f h o=some (e,g,h1))=>cf [] q;have k:Pq 20 [] [1,2,2] [1,2,3] [bz w,.ah bL,nC 0 0 0 .ag .ag .ag w.d] (uk A w 0) .normal [1,2,3] [bz w,.ah bL,o6 w 0 w.d] (rh A w 0 []) :=
  av (run (cq3 _ _ _ _)) (Pz.post (qmt A w a z) λnt=>qli A w)
 have i:=Pz.post (qmv A w a hp) λnt=>qmx A w;exact Pz.fI (A:=az) Qn Tryz.func20 qh qh (l:=[0]) rfl
  (av (run (cq1 w)) (av (qmA A w) (av k (av i (av (qmz A w a r) (qp4 A w a x s u)))))) (cu5 w w.sl.length 6 6 w.d (hT A w 6))
end
def tE(B:Nat->Int)(N:Nat)(C:Nat->Nat)(M k:Nat):ao:=pO B N (oS C M k) (qS B N C M k)
def DG{B:Nat->Int}{N:Nat}{C:Nat->Nat}{M:Nat}(k:Nat):∀r,k<r->(qS B N C M r).g k=tE B N C M k
 |0,h=>absurd h (vm k)
 |r+1,h=>by
  show aB (qS B N C M r).g r (tE B N C M r) k=_;unfold aB;by_cases c:k=r
  .rw[wl c,c]
  .rw[we c];exact DG k r ae
def LB{B:Nat->Int}{N:Nat}(hB:∀j,j<N->1<=B j/\B j<=3){C:Nat->Nat}{M R:Nat}(a:∀j,j<R->(qS B N C M j).i<N):∀r,r<=R →
 zd (λj=>((qS B N C M R).g j).n) r=((qS B N C M r).i:Int)/\zd (λj=>((qS B N C M R).g j).m) r=((qS B N C M r).m:Int)
 |0,_=>⟨rfl,rfl⟩
 |r+1,h=>by
  obtain⟨h1,d⟩:=LB hB a r ae;have p:=EK hB (oS C M r) (qS B N C M r) (a r ae);have e:=ao.nR (tE B N C M r) p.ok;have f:=ao.nS (tE B N C M r) p.ok;refine⟨?_,?_⟩
  .show zd _ r+((qS B N C M R).g r).n=(((qS B N C M r).i+(tE B N C M r).nN:Nat):Int);rw[h1,DG r R ae];unfold ao.nN;omega
  .show zd _ r+((qS B N C M R).g r).m=(((qS B N C M r).m+(tE B N C M r).mN:Nat):Int);rw[d,DG r R ae];unfold ao.mN;omega
def Cp.lJ(c:Cp)(i:Nat):rE (c.rw i) (c.rn i)=0/\mX (c.rw i) (c.rn i)=((c.ld i).1:Int)/\nY (c.rw i) (c.rn i)=((c.ld (i+1)).1:Int):=by
 obtain⟨x,f,a⟩:=c.iu i;obtain⟨A,z,_⟩:=c.iu (i+1);obtain⟨o,e,u,s⟩:=c.fB i;obtain⟨_,_,r⟩:=Kx (c.C i) (c.mi i) f a;obtain⟨s1,d⟩:=LB a r (c.rn i) (wc _);have n1:mX (c.rw i) (c.rn i)=((c.ld i).1:Int):=by
  have:mX (c.rw i) (c.rn i)=((c.st i).i:Int):=s1;rw[this,e]
 have m1:nY (c.rw i) (c.rn i)=((c.ld (i+1)).1:Int):=d;refine⟨?_,n1,m1⟩;have g:AI (c.rw i) (c.rn i)=true:=(J5 _ _).2 λj k=>o.v j k;unfold rE;rw[we ae,we ae,wl g,wl];rw[n1,m1];unfold Cn;simp;omega
def Cp.Am(c:Cp)(i k:Nat)(a:k<c.rn i):∃p:Nat,(p:Int)=zd (λj=>(c.rw i j).n) k/\p+(c.rw i k).nN<=(c.ld i).1/\(c.rw i k).Ok/\c9 (c.rw i k)=true/\iY (c.rw i k) (λe=>(c.ld i).2 (p+e)) (c.rw i k).nN=0/\1<=(c.rw i k).y/\(c.rw i k).y<=3:=by
 obtain⟨x,r,f⟩:=c.iu i;obtain⟨o,e,u,s⟩:=c.fB i;obtain⟨_,_,g⟩:=Kx (c.C i) (c.mi i) r f;obtain⟨s1,_⟩:=LB f g k (Nat.le_of_lt a);have p:=EK f (oS (c.C i) (c.mi i) k) (qS (c.ld i).2 (c.ld i).1 (c.C i) (c.mi i) k) (g k a);have d:c.rw i k=tE (c.ld i).2 (c.ld i).1 (c.C i) (c.mi i) k:=DG k (c.rn i) a;refine⟨(qS (c.ld i).2 (c.ld i).1 (c.C i) (c.mi i) k).i,s1.symm,?_,?_,?_,?_,(o.y k).1,(o.y k).2⟩
 .rw[d];have:=p.n;have:=g k a;show _+(pO _ _ _ _).nN<=_;omega
 .rw[d];exact p.ok
 .rw[d];exact p.v
 .rw[d];exact p.e
structure Rw where
 (o n:Nat) (vs bn:Nat->Nat) (sl:Nat->List aF)
def Rw.out(r:Rw):aq:=.mk r.o 1 r.n (λj=>[.own (10+j) (r.vs j) 0 (r.sl j).length none]) false false none
def Rw.row(r:Rw)(k:Nat):aq:=.mk (r.vs k) 2 (r.bn k) (λj=>((r.sl k).getD j be).c) false false none
def Rw.h(r:Rw)(z:qa):qa:=r.out::r.row 0::r.row 1::r.row 2::r.row 3::r.row 4::r.row 5::r.row 6::r.row 7::r.row 8::r.row 9::r.row 10::r.row 11::r.row 12::r.row 13::r.row 14::r.row 15::z
def mK(n:Nat)(th:Nat->aL):aq:=.mk 0 2 n (λj=>(th j).c) true false none
def LC(C:JO):aq:=.mk 0 4 1 (λj=>[C].getD j []) false true none
section
variable (x:Wx) (Y:Nat->b6) (ln v:Nat->Nat) (L:Nat->Nat->dO) (r:Rw) (K:Nat) (b ct:Int) (th:Nat->aL) (n m:Nat) (pe:Nat->bw) (i:Bool) (pl:Int) (w:Bool)
def mC(b:Int)(w:Bool)(c d:T):JO:=[uI b,.bool w,c,d]
def ri(ln v:Nat->Nat)(L:Nat->Nat->dO)(K:Nat)(C:JO):aq:=⟨v K+1,4,ln K+1,λj=>bif j.blt (ln K) then(L K (0+j)).c else [C].getD (0+(j-ln K)) [],false,false,none⟩
def rNo(ln v:Nat->Nat)(L:Nat->Nat->dO)(K:Nat)(C:JO):aq:=⟨v K,4,ln K,λj=>bif Nat.ble (0+ln K) j&&j.blt (0+ln K+1) then [C].getD (0+(j-(0+ln K))) [] else(L K j).c,false,false,none⟩
def EP(x:Wx)(Y:Nat->b6)(ln v:Nat->Nat)(L:Nat->Nat->dO)(r:Rw)(K:Nat)(ct:Int)(C:JO)(E:qa):Option (Ex×JO×qa) :=
 bif v K==v K&&true then bif (0+ln K).ble (ln K) then bif ((ln K+1)*57).ble 70368744177664 then bif (0+ln K+1).ble (ln K) then some (.normal,[rz,yP K,eQ K ct],mn x Y ln v L (lx ln v K (v K)) K (rNo ln v L K C) (r.h E)) else
  some (.normal,[rz,yP K,eQ K ct],mn x Y ln v L (lx ln v K (v K+1)) K (ri ln v L K C) (r.h E)) else none else none else none
def qrz(a:K<6):cK (KG qv) 80 [1,2,2,2] [0,1,2,3,8,9,10] [p0,yK K,uI b,fj th (n+1) none,rz,yP K,eQ K ct] (HW x (aB Y K ⟨i,pl,ct,w,pe,m+1⟩) ln v L (r.h [])) [8,9,10] =
 (bif Nat.blt 0 (0+(n+1))&&((0+(n+1))*17).ble 70368744177664 then bif Nat.blt 0 (0+(m+1))&&((0+(m+1))*25).ble 70368744177664 then
  EP x (aB Y K ⟨i,pl,ct,w,pe,m+1⟩) ln v L r K ct (mC b w (.own 26 0 0 (0+(n+1)) none) (.own 27 0 0 (0+(m+1)) none)) [mK (0+(n+1)) th,EH (0+(m+1)) pe,LC (mC b w (.own 26 0 0 (0+(n+1)) none) (.own 27 0 0 (0+(m+1)) none))] else none else none):=by
 cases w
 all_goals
  cases zy a
  all_goals kernel_rfl
def CE:T:=.view 2 0 (λj=>([]:List JO).getD j []) (some 0)
def GQ:T:=.view 4 0 (λj=>([]:List JO).getD j []) (some 0)
def qrA(a:K<6):cK (KG qv) 80 [1,2,2,2] [0,1,2,3,8,9,10] [p0,yK K,uI b,fj th (n+1) none,rz,yP K,eQ K ct] (HW x (aB Y K ⟨i,pl,ct,w,pe,0⟩) ln v L (r.h [])) [8,9,10] =
 (bif Nat.blt 0 (0+(n+1))&&((0+(n+1))*17).ble 70368744177664 then
  EP x (aB Y K ⟨i,pl,ct,w,pe,0⟩) ln v L r K ct (mC b w (.own 26 0 0 (0+(n+1)) none) GQ) [mK (0+(n+1)) th,LC (mC b w (.own 26 0 0 (0+(n+1)) none) GQ)] else none):=by
 cases w
 all_goals
  cases zy a
  all_goals kernel_rfl
def qrB(a:K<6):cK (KG qv) 80 [1,2,2,2] [0,1,2,3,8,9,10] [p0,yK K,uI b,.ag,rz,yP K,eQ K ct] (HW x (aB Y K ⟨i,pl,ct,w,pe,m+1⟩) ln v L (r.h [])) [8,9,10] =
 (bif Nat.blt 0 (0+(m+1))&&((0+(m+1))*25).ble 70368744177664 then
  EP x (aB Y K ⟨i,pl,ct,w,pe,m+1⟩) ln v L r K ct (mC b w CE (.own 26 0 0 (0+(m+1)) none)) [EH (0+(m+1)) pe,LC (mC b w CE (.own 26 0 0 (0+(m+1)) none))] else none):=by
 cases w
 all_goals
  cases zy a
  all_goals kernel_rfl
end
def j6:Wa:=List.range 26
def Zu{σ:Wa}{h:qa}{x:T}(hx:aH x=true):qJ σ h x=x:=by
 cases x<;>first|rfl|(simp[aH,zK] at hx;done)|(unfold qJ;simp only[hx,wm])
structure Wx.Im(x:Wx):Prop where
 sl:aH x.sl=true
 cr:aH x.cr=true
 he:aH x.he=true
 fa:aH x.fa=true
def qod(r:Rw)(h:qa)(j:Nat)(a:j<16):[T.own (10+j) (r.vs j) 0 (r.sl j).length none]=[T.own (10+j) (r.vs j) 0 (r.sl j).length none].map (qJ j6 h):=by
 cases qW a
 all_goals rfl
def qoe(ln v:Nat->Nat)(K m:Nat)(a:K<6)(h:qa)(e:Nat)(he:e<6):(lx ln v K m).get e=((lx ln v K m).get e).map (qJ j6 h):=by
 cases zy a
 all_goals
  cases zy he
  all_goals rfl
def qp5(x:Wx)(hx:x.Im)(h:qa):[x.sl,.own 1 0 0 6 none,.own 2 0 0 6 none,x.cr,x.he,x.fa,uI x.d]=[x.sl,.own 1 0 0 6 none,.own 2 0 0 6 none,x.cr,x.he,x.fa,uI x.d].map (qJ j6 h):=by
 show _=[qJ j6 h x.sl,.own 1 0 0 6 none,.own 2 0 0 6 none,qJ j6 h x.cr,qJ j6 h x.he,qJ j6 h x.fa,uI x.d];rw[Zu hx.sl,Zu hx.cr,Zu hx.he,Zu hx.fa]
def qof(ln v:Nat->Nat)(L:Nat->Nat->dO)(K:Nat)(C a:JO)(h:qa)(hC:C.map (qJ j6 h)=a)(j:Nat)(d:j<ln K+1):(rR ln v L K a).get j=((ri ln v L K C).get j).map (qJ j6 h):=by
 show(bif j.blt (ln K) then(L K (0+j)).c else [a].getD (j-ln K) [])=(bif j.blt (ln K) then(L K (0+j)).c else [C].getD (0+(j-ln K)) []).map (qJ j6 h);by_cases c:j<ln K
 .rw[qL c];rfl
 .obtain rfl:j=ln K:=by omega
  rw[QP (wc _),wW,←hC];rfl
def qp6{aa:Wa}{nt:Nat}{l:Wa}{k:Nat}(A:k<=26)(x:Wx)(hx:x.Im)(Y:Nat->b6)(ln v:Nat->Nat)(L:Nat->Nat->dO)(r:Rw)(hr:r.n<=16)(K:Nat)(f:K<6)(C d:JO)(E:qa){vs aS:JO}
 (i:zn k j6 (mn x Y ln v L (lx ln v K (v K+1)) K (ri ln v L K C) (r.h E))=true)
 (g:vs.map (mV j6 (mn x Y ln v L (lx ln v K (v K+1)) K (ri ln v L K C) (r.h E)))=aS) (hC:C.map (qJ j6 (mn x Y ln v L (lx ln v K (v K+1)) K (ri ln v L K C) (r.h E)))=d) :
 am G17 aa nt l k vs (mn x Y ln v L (lx ln v K (v K+1)) K (ri ln v L K C) (r.h E)) aS (mn x Y ln v L (lx ln v K (v K+1)) K (rR ln v L K d) (r.h [])):=by
 have z:=qp5 x hx;have u:=λh e (he:e<6)=>qoe ln v K (v K+1) f h e he;have s:=qof ln v L K C d _ hC;have o:=λh j (a:j<r.n)=>qod r h j ae;cases zy f
 all_goals
  refine am.bZ j6 i g rfl (.cons ⟨rfl,rfl,rfl,λh=>h,λ_ _=>z _⟩ ?_ rfl)
  repeat (first|exact .nil|refine .cons ⟨rfl,rfl,rfl,λh=>h,λ_ _=>rfl⟩ ?_ rfl|refine .cons ⟨rfl,rfl,rfl,λh=>h,λj a=>u _ j a⟩ ?_ rfl|refine .cons ⟨rfl,rfl,rfl,λh=>h,λj a=>s j a⟩ ?_ rfl|refine .cons ⟨rfl,rfl,rfl,λh=>h,λj a=>o _ j a⟩ ?_ rfl)
def LF(Y:Nat->b6)(K:Nat)(z:b6)(h:Y K=z):aB Y K z=Y:=funext λe=>by
 show(if e=K then z else Y e)=Y e;by_cases c:e=K
 .rw[wl c,c,h]
 .rw[we c]
def LG{x:Wx}{Y:Nat->b6}{ln v:Nat->Nat}{L:Nat->Nat->dO}{r:Rw}{K:Nat}{ct:Int}{C:JO}{E:qa}(a:ln K<=1000000):EP x Y ln v L r K ct C E=some (.normal,[rz,yP K,eQ K ct],mn x Y ln v L (lx ln v K (v K+1)) K (ri ln v L K C) (r.h E)):=by
 unfold EP;exact qk au (qk (qO ae) (qk (qO ae) (qF (by rw[ZG ae];simp) rfl)))
def qp7(q:Ys)(x:Wx)(hx:x.Im)(v:Nat->Nat)(r:Rw)(hr:r.n<=16)(K:Nat)(b:Int)(u:K<6)(th:List aL)(g:T)(R:(th=[]/\g = .ag/\(q.Y K).pe≠[])∨(th≠[]/\g=aX th))(M:(q.tb K).length<=1000000)(S:th.length<=1000000)(hp:(q.Y K).pe.length<=1000000) :
 Pq 80 (q.hw x v (r.h [])) [1,2,2,2] [0,1,2,3,8,9,10] [p0,yK K,uI b,g,rz,yP K,eQ K (q.Y K).ct] (q.hw x v (r.h [])) .normal [8,9,10] [rz,yP K,eQ K (q.Y K).ct]
  (HW x (λe=>(q.Y e).y) (aB (λe=>(q.tb e).length) K ((q.tb K).length+1)) (aB v K (v K+1)) (mY (λe j=>((q.tb e).getD j eG).l) K (q.tb K).length ((q.Y K).lp b th).l) (r.h [])):=by
 let Y:Nat->b6:=λe=>(q.Y e).y
 let ln:Nat->Nat:=λe=>(q.tb e).length
 let L:Nat->Nat->dO:=λe j=>((q.tb e).getD j eG).l
 have A:ln K<=1000000:=M;have J:OO (KG qv):=qC qp (λ_ _ _ _ h=>(by cases h))
 let a:Nat->bw:=λj=>(q.Y K).pe.getD j fv
 let d:Nat->aL:=λj=>th.getD j bU
 have f:∀(C s:JO) (E:qa),cK (KG qv) 80 [1,2,2,2] [0,1,2,3,8,9,10] [p0,yK K,uI b,g,rz,yP K,eQ K (q.Y K).ct] (HW x Y ln v L (r.h [])) [8,9,10]=some (.normal,[rz,yP K,eQ K (q.Y K).ct],mn x Y ln v L (lx ln v K (v K+1)) K (ri ln v L K C) (r.h E)) →
  C.map (qJ j6 (mn x Y ln v L (lx ln v K (v K+1)) K (ri ln v L K C) (r.h E)))=s->zn 26 j6 (mn x Y ln v L (lx ln v K (v K+1)) K (ri ln v L K C) (r.h E))=true->dY s ((q.Y K).lp b th).l.c →
  Pq 80 (q.hw x v (r.h [])) [1,2,2,2] [0,1,2,3,8,9,10] [p0,yK K,uI b,g,rz,yP K,eQ K (q.Y K).ct] (q.hw x v (r.h [])) .normal [8,9,10] [rz,yP K,eQ K (q.Y K).ct]
  (HW x Y (aB ln K (ln K+1)) (aB v K (v K+1)) (mY L K (ln K) ((q.Y K).lp b th).l) (r.h [])):=λC s E h1 P O N =>
  Pz.post (eD J (q.hw x v (r.h [])) h1) λnt=>.trans (qp6 (k:=26) (wc _) x hx Y ln v L r hr K u C s E O rfl P) (Pk (c:=s) (z:=((q.Y K).lp b th).l) N)
 rcases R with⟨rfl,rfl,H⟩|⟨H,rfl⟩
 .obtain⟨m,o⟩:∃m,(q.Y K).pe.length=m+1:=⟨(q.Y K).pe.length-1,by have:(q.Y K).pe.length≠0:=λh=>H (vN h);omega⟩;have z:=qrB x Y ln v L r K b (q.Y K).ct m a (q.Y K).i (q.Y K).pl (q.Y K).w u;rw[LF Y K _ (show Y K=⟨(q.Y K).i,(q.Y K).pl,(q.Y K).ct,(q.Y K).w,a,m+1⟩ by show(q.Y K).y=_;unfold Yn.y;rw[o]),LG A] at z;have z:=z.trans (qk (by rw[qL ae,qO ae];rfl) rfl);refine f _ (mC b (q.Y K).w CE (cH a (m+1) none)) _ z ?_ rfl ?_
  .show [uI b,.bool (q.Y K).w,CE,bif Nat.ble (0+(0+(m+1))) (0+(m+1)) then T.view 4 (0+(m+1)) (λe=>(a (0+e)).c) none else .undef]=_;rw[qO ae,wm];simp only[wn];rfl
  .refine .Ue (.Ue (.cons (.view (.inr rfl) λj B=>absurd B (vm j)) (.cons ?_ .nil)));show fu (cH a (m+1) none) (cH (λj=>(q.Y K).pe.getD j fv) (q.Y K).pe.length none);rw[o];exact .refl _
 .obtain⟨n,D⟩:∃n,th.length=n+1:=⟨th.length-1,by have:th.length≠0:=λh=>H (vN h);omega⟩;have Q:aX th=fj d (n+1) none:=by unfold aX;rw[D]
  rw[Q] at f ⊢;by_cases I:(q.Y K).pe=[]
  .have z:=qrA x Y ln v L r K b (q.Y K).ct d n a (q.Y K).i (q.Y K).pl (q.Y K).w u;rw[LF Y K _ (show Y K=⟨(q.Y K).i,(q.Y K).pl,(q.Y K).ct,(q.Y K).w,a,0⟩ by show(q.Y K).y=_;unfold Yn.y;rw[show(q.Y K).pe.length=0 by rw[I];rfl]),LG A] at z;have z:=z.trans (qk (by rw[qL ae,qO ae];rfl) rfl);refine f _ (mC b (q.Y K).w (fj d (n+1) none) GQ) _ z ?_ rfl ?_
   .show [uI b,.bool (q.Y K).w,bif Nat.ble (0+(0+(n+1))) (0+(n+1)) then T.view 2 (0+(n+1)) (λe=>(d (0+e)).c) none else .undef,GQ]=_;rw[qO ae,wm];simp only[wn];rfl
   .refine .Ue (.Ue (.cons ?_ (.cons ?_ .nil)))
    .show fu (fj d (n+1) none) (fj (λj=>th.getD j bU) th.length none);rw[D];exact .refl _
    .show fu GQ (cH (λj=>(q.Y K).pe.getD j fv) (q.Y K).pe.length none);rw[I];exact .view (.inr rfl) λj B=>absurd B (vm j)
  .obtain⟨m,o⟩:∃m,(q.Y K).pe.length=m+1:=⟨(q.Y K).pe.length-1,by have:(q.Y K).pe.length≠0:=λh=>I (vN h);omega⟩;have z:=qrz x Y ln v L r K b (q.Y K).ct d n m a (q.Y K).i (q.Y K).pl (q.Y K).w u;rw[LF Y K _ (show Y K=⟨(q.Y K).i,(q.Y K).pl,(q.Y K).ct,(q.Y K).w,a,m+1⟩ by show(q.Y K).y=_;unfold Yn.y;rw[o]),LG A] at z;have z:=z.trans (qk (by rw[qL ae,qO ae];rfl) (qk (by rw[qL ae,qO ae];rfl) rfl));refine f _ (mC b (q.Y K).w (fj d (n+1) none) (cH a (m+1) none)) _ z ?_ rfl ?_
   .show [uI b,.bool (q.Y K).w,bif Nat.ble (0+(0+(n+1))) (0+(n+1)) then T.view 2 (0+(n+1)) (λe=>(d (0+e)).c) none else .undef,bif Nat.ble (0+(0+(m+1))) (0+(m+1)) then T.view 4 (0+(m+1)) (λe=>(a (0+e)).c) none else .undef]=_;rw[qO ae,wm,qO ae,wm];simp only[wn];rfl
   .refine .Ue (.Ue (.cons ?_ (.cons ?_ .nil)))
    .show fu (fj d (n+1) none) (fj (λj=>th.getD j bU) th.length none);rw[D];exact .refl _
    .show fu (cH a (m+1) none) (cH (λj=>(q.Y K).pe.getD j fv) (q.Y K).pe.length none);rw[o];exact .refl _
def VE(q:Ys)(x:Wx)(hx:x.Im)(v:Nat->Nat)(r:Rw)(hr:r.n<=16)(K:Nat)(b:Int)(u:K<6)(th:List aL)(s:T)(Px:(th=[]/\s = .ag/\(q.Y K).pe≠[])∨(th≠[]/\s=aX th))(hi:(q.Y K).i=true)(h0:0<=(q.Y K).ct)(h1:(q.Y K).ct<1000000)(hn:(q.tb K).length<=1000000)(ht:th.length<=1000000)(hp:(q.Y K).pe.length<=1000000) :
 aR aw G17 80 [p0,yK K,uI b,s] (q.hw x v (r.h [])) (.agg [uI (ofNat K+1),iI (q.Y K).ct]) ((q.loop K b th).hw x (aB v K (v K+1)) (r.h [])):=by
 let a:qa:=r.h []
 have hD:yD K=ofNat K:=by
  unfold yD;rw[show ofNat K+1-1=ofNat K by omega,Qp bH bH]
 have h8:u8.wrap (ofNat K+1)=ofNat K+1:=s9 bH bH
 let Y:Nat->b6:=λe=>(q.Y e).y
 let ln:Nat->Nat:=λe=>(q.tb e).length
 let L:Nat->Nat->dO:=λe j=>((q.tb e).getD j eG).l
 have Z:=cf (q.hw x v a) (Pc x Y ln v L a K b s);have J:=Pd x Y ln v L a K b s;rw[hD,show 0+(ofNat K).toNat=K by simp] at J;have X:=cf (q.hw x v a) (J.trans (qk (EF u) rfl));have W:=cf (q.hw x v a) ((Pe x Y ln v L a K b s).trans (qk (qL u) rfl));have V:=qp7 q x hx v r hr K b u th s Px hn ht hp
 have key:∀(d:Nat->b6) (k:Nat->Nat) (o:Nat->Nat->dO) (g:Nat->Nat),(d K).i=true->(d K).ct=(q.Y K).ct->(d K).pl=(q.Y K).pl →
  Pq 80 (q.hw x v a) [2,2,2,2] [8,9,10] [rz,yP K,eQ K (q.Y K).ct] (HW x d k g o a) .ret [8] [eQ K (q.Y K).ct] (HW x (aB d K (q.Y K).next.y) k g o a):=by
  intro d k o g Q P O;have e1:i64.wrap ((d K).ct+1)=(q.Y K).ct+1:=by rw[P];exact Qp ae ae
  have I:=Pf x d k g o a K (q.Y K).ct;rw[e1] at I;have pe:=Pz.post (cf (q.hw x v a) (I.trans (qk (qL u) (qk (by rw[qL u];rfl) rfl)))) (v2:=[rz,yP K,eQ K (q.Y K).ct]) (h2:=HW x (aB d K ⟨true,(q.Y K).pl,(q.Y K).ct+1,(d K).w,(d K).pe,(d K).np⟩) k g o a) λnt=>Zt (by rw[Q,O];exact .refl _);have H:=Pg x (aB d K ⟨true,(q.Y K).pl,(q.Y K).ct+1,(d K).w,(d K).pe,(d K).np⟩) k g o a K (q.Y K).ct;have D:∀(f:Nat->b6) (z:b6),aB f K z K=z:=λf z=>wl rfl;have C:∀(f:Nat->b6) (z B:b6),aB (aB f K z) K B=aB f K B:=λf z B=>funext λe=>by
   show(if e=K then B else if e=K then z else f e)=if e=K then B else f e;by_cases c:e=K
   .rw[wl c,wl c]
   .rw[we c,we c,we c]
  rw[D] at H;have U:=Pz.post (cf (q.hw x v a) (H.trans (qk (by rw[qL u];rfl) rfl))) (v2:=[rz,yP K,eQ K (q.Y K).ct]) (h2:=HW x (aB d K ⟨true,(q.Y K).pl,(q.Y K).ct+1,false,(d K).pe,(d K).np⟩) k g o a) λnt=>by
   rw[←C d ⟨true,(q.Y K).pl,(q.Y K).ct+1,(d K).w,(d K).pe,(d K).np⟩ ⟨true,(q.Y K).pl,(q.Y K).ct+1,false,(d K).pe,(d K).np⟩];exact Zt (c:=(b6.mk true (q.Y K).pl ((q.Y K).ct+1) false (d K).pe (d K).np).c) (y:=⟨true,(q.Y K).pl,(q.Y K).ct+1,false,(d K).pe,(d K).np⟩) (.refl _)
  have E:=Ph x (aB d K ⟨true,(q.Y K).pl,(q.Y K).ct+1,false,(d K).pe,(d K).np⟩) k g o a K (q.Y K).ct;rw[D] at E;have S:=Pz.post (cf (q.hw x v a) (E.trans (qk (by rw[qL u];rfl) rfl))) (v2:=[rz,eQ K (q.Y K).ct]) (h2:=HW x (aB d K (q.Y K).next.y) k g o a) λnt=>by
   rw[←C d ⟨true,(q.Y K).pl,(q.Y K).ct+1,false,(d K).pe,(d K).np⟩ (q.Y K).next.y];exact Zt (c:=[.bool true,iI (q.Y K).pl,iI ((q.Y K).ct+1),.bool false,.ag]) (y:=(q.Y K).next.y) (.Ue (.Ue (.Ue (.Ue (.cons (.fG _ _ (.inl rfl)) .nil)))))
  have R:=cf (q.hw x v a) (Pj (HW x (aB d K (q.Y K).next.y) k g o a) K (q.Y K).ct);exact av pe (av U (av S R))
 have M:=key Y (aB ln K (ln K+1)) (mY L K (ln K) ((q.Y K).lp b th).l) (aB v K (v K+1)) hi rfl rfl;have e2:HW x (aB Y K (q.Y K).next.y) (aB ln K (ln K+1)) (aB v K (v K+1)) (mY L K (ln K) ((q.Y K).lp b th).l) a=(q.loop K b th).hw x (aB v K (v K+1)) a:=Pl q x v a K b th;rw[e2] at M;have t:=Pz.fI (A:=az) Qn Tryz.func80 qh qh (l:=[0,1,2,3]) rfl (av Z (av X (av W (av V M)))) (r:=.agg [uI (u8.wrap (ofNat K+1)),iI (q.Y K).ct]) rfl;rw[h8] at t;exact t
section
variable (x:Wx) (Y:Nat->b6) (ln v:Nat->Nat) (L:Nat->Nat->dO) (r:Rw) (K:Nat) (b ct:Int) (m:Nat) (pe:Nat->bw) (i:Bool) (pl:Int) (w:Bool)
def qp8(g0:aq)(a:K<6):cK (KG qv) 80 [1,2,2,2] [0,1,2,3,8,9,10] [p0,yK K,uI b,.ag,rz,yP K,eQ K ct] (HW x (aB Y K ⟨i,pl,ct,w,pe,m+1⟩) ln v L (r.h [g0])) [8,9,10] =
 (bif Nat.blt 0 (0+(m+1))&&((0+(m+1))*25).ble 70368744177664 then
  EP x (aB Y K ⟨i,pl,ct,w,pe,m+1⟩) ln v L r K ct (mC b w CE (.own 27 0 0 (0+(m+1)) none)) [g0,EH (0+(m+1)) pe,LC (mC b w CE (.own 27 0 0 (0+(m+1)) none))] else none):=by
 cases w
 all_goals
  cases zy a
  all_goals kernel_rfl
end
def j7:Wa:=List.range 27
def qmC(r:Rw)(h:qa)(j:Nat)(a:j<16):[T.own (10+j) (r.vs j) 0 (r.sl j).length none]=[T.own (10+j) (r.vs j) 0 (r.sl j).length none].map (qJ j7 h):=by
 cases qW a
 all_goals rfl
def qmD(ln v:Nat->Nat)(K m:Nat)(a:K<6)(h:qa)(e:Nat)(he:e<6):(lx ln v K m).get e=((lx ln v K m).get e).map (qJ j7 h):=by
 cases zy a
 all_goals
  cases zy he
  all_goals rfl
def qog(x:Wx)(hx:x.Im)(h:qa):[x.sl,.own 1 0 0 6 none,.own 2 0 0 6 none,x.cr,x.he,x.fa,uI x.d]=[x.sl,.own 1 0 0 6 none,.own 2 0 0 6 none,x.cr,x.he,x.fa,uI x.d].map (qJ j7 h):=by
 show _=[qJ j7 h x.sl,.own 1 0 0 6 none,.own 2 0 0 6 none,qJ j7 h x.cr,qJ j7 h x.he,qJ j7 h x.fa,uI x.d];rw[Zu hx.sl,Zu hx.cr,Zu hx.he,Zu hx.fa]
def qmE(ln v:Nat->Nat)(L:Nat->Nat->dO)(K:Nat)(C a:JO)(h:qa)(hC:C.map (qJ j7 h)=a)(j:Nat)(d:j<ln K+1):(rR ln v L K a).get j=((ri ln v L K C).get j).map (qJ j7 h):=by
 show(bif j.blt (ln K) then(L K (0+j)).c else [a].getD (j-ln K) [])=(bif j.blt (ln K) then(L K (0+j)).c else [C].getD (0+(j-ln K)) []).map (qJ j7 h);by_cases c:j<ln K
 .rw[qL c];rfl
 .obtain rfl:j=ln K:=by omega
  rw[QP (wc _),wW,←hC];rfl
def qoh{aa:Wa}{nt:Nat}{l:Wa}{k:Nat}(H:k<=27)(x:Wx)(hx:x.Im)(Y:Nat->b6)(ln v:Nat->Nat)(L:Nat->Nat->dO)(r:Rw)(hr:r.n<=16)(K:Nat)(o:K<6)(C g:JO)(f:Nat)(d:Nat->aL)(E:qa){vs aS:JO}
 (u:zn k j7 (mn x Y ln v L (lx ln v K (v K+1)) K (ri ln v L K C) (r.h (mK f d::E)))=true)
 (s:vs.map (mV j7 (mn x Y ln v L (lx ln v K (v K+1)) K (ri ln v L K C) (r.h (mK f d::E))))=aS) (hC:C.map (qJ j7 (mn x Y ln v L (lx ln v K (v K+1)) K (ri ln v L K C) (r.h (mK f d::E))))=g) :
 am G17 aa nt l k vs (mn x Y ln v L (lx ln v K (v K+1)) K (ri ln v L K C) (r.h (mK f d::E))) aS (mn x Y ln v L (lx ln v K (v K+1)) K (rR ln v L K g) (r.h [mK f d])):=by
 have D:=qog x hx;have B:=λh e (he:e<6)=>qmD ln v K (v K+1) o h e he;have A:=qmE ln v L K C g _ hC;have z:=λh j (a:j<r.n)=>qmC r h j ae;cases zy o
 all_goals
  refine am.bZ j7 u s rfl (.cons ⟨rfl,rfl,rfl,λh=>h,λ_ _=>D _⟩ ?_ rfl)
  repeat (first|exact .nil|refine .cons ⟨rfl,rfl,rfl,λh=>h,λ_ _=>rfl⟩ ?_ rfl|refine .cons ⟨rfl,rfl,rfl,λh=>h,λj a=>B _ j a⟩ ?_ rfl|refine .cons ⟨rfl,rfl,rfl,λh=>h,λj a=>A j a⟩ ?_ rfl|refine .cons ⟨rfl,rfl,rfl,λh=>h,λj a=>z _ j a⟩ ?_ rfl)
def qoi(q:Ys)(x:Wx)(hx:x.Im)(v:Nat->Nat)(r:Rw)(hr:r.n<=16)(K:Nat)(b:Int)(u:K<6)(d:Nat)(a:Nat->aL)(N:(q.Y K).pe≠[])(B:(q.tb K).length<=1000000)(hp:(q.Y K).pe.length<=1000000) :
 Pq 80 (q.hw x v (r.h [mK d a])) [1,2,2,2] [0,1,2,3,8,9,10] [p0,yK K,uI b,T.ag,rz,yP K,eQ K (q.Y K).ct] (q.hw x v (r.h [mK d a])) .normal [8,9,10] [rz,yP K,eQ K (q.Y K).ct]
  (HW x (λe=>(q.Y e).y) (aB (λe=>(q.tb e).length) K ((q.tb K).length+1)) (aB v K (v K+1)) (mY (λe j=>((q.tb e).getD j eG).l) K (q.tb K).length ((q.Y K).lp b []).l) (r.h [mK d a])):=by
 let Y:Nat->b6:=λe=>(q.Y e).y
 let ln:Nat->Nat:=λe=>(q.tb e).length
 let L:Nat->Nat->dO:=λe j=>((q.tb e).getD j eG).l
 have D:ln K<=1000000:=B;have A:OO (KG qv):=qC qp (λ_ _ _ _ h=>(by cases h))
 let f:Nat->bw:=λj=>(q.Y K).pe.getD j fv
 have o:∀(C g:JO) (E:qa),cK (KG qv) 80 [1,2,2,2] [0,1,2,3,8,9,10] [p0,yK K,uI b,T.ag,rz,yP K,eQ K (q.Y K).ct] (HW x Y ln v L (r.h [mK d a])) [8,9,10]=some (.normal,[rz,yP K,eQ K (q.Y K).ct],mn x Y ln v L (lx ln v K (v K+1)) K (ri ln v L K C) (r.h (mK d a::E))) →
  C.map (qJ j7 (mn x Y ln v L (lx ln v K (v K+1)) K (ri ln v L K C) (r.h (mK d a::E))))=g->zn 27 j7 (mn x Y ln v L (lx ln v K (v K+1)) K (ri ln v L K C) (r.h (mK d a::E)))=true->dY g ((q.Y K).lp b []).l.c →
  Pq 80 (q.hw x v (r.h [mK d a])) [1,2,2,2] [0,1,2,3,8,9,10] [p0,yK K,uI b,T.ag,rz,yP K,eQ K (q.Y K).ct] (q.hw x v (r.h [mK d a])) .normal [8,9,10] [rz,yP K,eQ K (q.Y K).ct]
  (HW x Y (aB ln K (ln K+1)) (aB v K (v K+1)) (mY L K (ln K) ((q.Y K).lp b []).l) (r.h [mK d a])):=λC g E h1 M J I =>
  Pz.post (eD A (q.hw x v (r.h [mK d a])) h1) λnt=>.trans (qoh (k:=27) (wc _) x hx Y ln v L r hr K u C g d a E J rfl M) (Pk (c:=g) (z:=((q.Y K).lp b []).l) I)
 .obtain⟨m,s⟩:∃m,(q.Y K).pe.length=m+1:=⟨(q.Y K).pe.length-1,by have:(q.Y K).pe.length≠0:=λh=>N (vN h);omega⟩;have z:=qp8 x Y ln v L r K b (q.Y K).ct m f (q.Y K).i (q.Y K).pl (q.Y K).w (mK d a) u;rw[LF Y K _ (show Y K=⟨(q.Y K).i,(q.Y K).pl,(q.Y K).ct,(q.Y K).w,f,m+1⟩ by show(q.Y K).y=_;unfold Yn.y;rw[s]),LG D] at z;have z:=z.trans (qk (by rw[qL ae,qO ae];rfl) rfl);refine o _ (mC b (q.Y K).w CE (cH f (m+1) none)) _ z ?_ rfl ?_
  .show [uI b,.bool (q.Y K).w,CE,bif Nat.ble (0+(0+(m+1))) (0+(m+1)) then T.view 4 (0+(m+1)) (λe=>(f (0+e)).c) none else .undef]=_;rw[qO ae,wm];simp only[wn];rfl
  .refine .Ue (.Ue (.cons (.view (.inr rfl) λj H=>absurd H (vm j)) (.cons ?_ .nil)));show fu (cH f (m+1) none) (cH (λj=>(q.Y K).pe.getD j fv) (q.Y K).pe.length none);rw[s];exact .refl _
def qp9(q:Ys)(x:Wx)(hx:x.Im)(v:Nat->Nat)(r:Rw)(hr:r.n<=16)(K:Nat)(b:Int)(s:K<6)(C:Nat)(B:Nat->aL)(aZ:(q.Y K).pe≠[])(hi:(q.Y K).i=true)(h0:0<=(q.Y K).ct)(h1:(q.Y K).ct<1000000)(hn:(q.tb K).length<=1000000)(hp:(q.Y K).pe.length<=1000000) :
 aR aw G17 80 [p0,yK K,uI b,T.ag] (q.hw x v (r.h [mK C B])) (.agg [uI (ofNat K+1),iI (q.Y K).ct]) ((q.loop K b []).hw x (aB v K (v K+1)) (r.h [mK C B])):=by
 let a:qa:=r.h [mK C B]
 have hD:yD K=ofNat K:=by
  unfold yD;rw[show ofNat K+1-1=ofNat K by omega,Qp bH bH]
 have h8:u8.wrap (ofNat K+1)=ofNat K+1:=s9 bH bH
 let Y:Nat->b6:=λe=>(q.Y e).y
 let ln:Nat->Nat:=λe=>(q.tb e).length
 let L:Nat->Nat->dO:=λe j=>((q.tb e).getD j eG).l
 have pa:=cf (q.hw x v a) (Pc x Y ln v L a K b T.ag);have M:=Pd x Y ln v L a K b T.ag;rw[hD,show 0+(ofNat K).toNat=K by simp] at M;have Z:=cf (q.hw x v a) (M.trans (qk (EF s) rfl));have X:=cf (q.hw x v a) ((Pe x Y ln v L a K b T.ag).trans (qk (qL s) rfl));have W:=qoi q x hx v r hr K b s C B aZ hn hp
 have key:∀(d:Nat->b6) (k:Nat->Nat) (o:Nat->Nat->dO) (g:Nat->Nat),(d K).i=true->(d K).ct=(q.Y K).ct->(d K).pl=(q.Y K).pl →
  Pq 80 (q.hw x v a) [2,2,2,2] [8,9,10] [rz,yP K,eQ K (q.Y K).ct] (HW x d k g o a) .ret [8] [eQ K (q.Y K).ct] (HW x (aB d K (q.Y K).next.y) k g o a):=by
  intro d k o g R Q P;have e1:i64.wrap ((d K).ct+1)=(q.Y K).ct+1:=by rw[Q];exact Qp ae ae
  have J:=Pf x d k g o a K (q.Y K).ct;rw[e1] at J;have pe:=Pz.post (cf (q.hw x v a) (J.trans (qk (qL s) (qk (by rw[qL s];rfl) rfl)))) (v2:=[rz,yP K,eQ K (q.Y K).ct]) (h2:=HW x (aB d K ⟨true,(q.Y K).pl,(q.Y K).ct+1,(d K).w,(d K).pe,(d K).np⟩) k g o a) λnt=>Zt (by rw[R,P];exact .refl _);have I:=Pg x (aB d K ⟨true,(q.Y K).pl,(q.Y K).ct+1,(d K).w,(d K).pe,(d K).np⟩) k g o a K (q.Y K).ct;have E:∀(f:Nat->b6) (z:b6),aB f K z K=z:=λf z=>wl rfl;have D:∀(f:Nat->b6) (z u:b6),aB (aB f K z) K u=aB f K u:=λf z u=>funext λe=>by
   show(if e=K then u else if e=K then z else f e)=if e=K then u else f e;by_cases c:e=K
   .rw[wl c,wl c]
   .rw[we c,we c,we c]
  rw[E] at I;have V:=Pz.post (cf (q.hw x v a) (I.trans (qk (by rw[qL s];rfl) rfl))) (v2:=[rz,yP K,eQ K (q.Y K).ct]) (h2:=HW x (aB d K ⟨true,(q.Y K).pl,(q.Y K).ct+1,false,(d K).pe,(d K).np⟩) k g o a) λnt=>by
   rw[←D d ⟨true,(q.Y K).pl,(q.Y K).ct+1,(d K).w,(d K).pe,(d K).np⟩ ⟨true,(q.Y K).pl,(q.Y K).ct+1,false,(d K).pe,(d K).np⟩];exact Zt (c:=(b6.mk true (q.Y K).pl ((q.Y K).ct+1) false (d K).pe (d K).np).c) (y:=⟨true,(q.Y K).pl,(q.Y K).ct+1,false,(d K).pe,(d K).np⟩) (.refl _)
  have H:=Ph x (aB d K ⟨true,(q.Y K).pl,(q.Y K).ct+1,false,(d K).pe,(d K).np⟩) k g o a K (q.Y K).ct;rw[E] at H;have U:=Pz.post (cf (q.hw x v a) (H.trans (qk (by rw[qL s];rfl) rfl))) (v2:=[rz,eQ K (q.Y K).ct]) (h2:=HW x (aB d K (q.Y K).next.y) k g o a) λnt=>by
   rw[←D d ⟨true,(q.Y K).pl,(q.Y K).ct+1,false,(d K).pe,(d K).np⟩ (q.Y K).next.y];exact Zt (c:=[.bool true,iI (q.Y K).pl,iI ((q.Y K).ct+1),.bool false,.ag]) (y:=(q.Y K).next.y) (.Ue (.Ue (.Ue (.Ue (.cons (.fG _ _ (.inl rfl)) .nil)))))
  have S:=cf (q.hw x v a) (Pj (HW x (aB d K (q.Y K).next.y) k g o a) K (q.Y K).ct);exact av pe (av V (av U S))
 have N:=key Y (aB ln K (ln K+1)) (mY L K (ln K) ((q.Y K).lp b []).l) (aB v K (v K+1)) hi rfl rfl;have e2:HW x (aB Y K (q.Y K).next.y) (aB ln K (ln K+1)) (aB v K (v K+1)) (mY L K (ln K) ((q.Y K).lp b []).l) a=(q.loop K b []).hw x (aB v K (v K+1)) a:=Pl q x v a K b [];rw[e2] at N;have t:=Pz.fI (A:=az) Qn Tryz.func80 qh qh (l:=[0,1,2,3]) rfl (av pa (av Z (av X (av W N)))) (r:=.agg [uI (u8.wrap (ofNat K+1)),iI (q.Y K).ct]) rfl;rw[h8] at t;exact t
def LH(s:ao)(a b c:T)(H:qa):cD 120 [1] [0,1,2,3] [a,.agg s.c,b,c] H [0,2,3,5] =
( zN [a,b,c,.ah s.c] H):=qh
def LI(s:ao)(a b c:T)(H:qa):cD 120 [1,2] [0,2,3,5] [a,b,c,.ah s.c] H [0,2,3,5,9] =
( zN [a,b,c,.ah s.c,iI (i64.wrap s.y)] H):=qh
def LJ(s:ao)(a b c d:T)(H:qa):cD 120 [1,1,2,2] [0,2,3,5,9] [a,b,c,.ah s.c,d] H [0,2,3,5,9,17] =
( bif decide (s.k=3) then zN [a,b,c,.ah s.c,d,.bool true] H else
 zN [a,b,c,.ah s.c,d,.bool false] H):=qh
def Py(s:ao)(a b c d:T)(H:qa):cD 120 [1,1,2,2,2] [0,2,3,5,9] [a,b,c,.ah s.c,d] H [0,2,3,5,9,26] =
( bif decide (s.k=6) then zN [a,b,c,.ah s.c,d,.bool true] H else
 zN [a,b,c,.ah s.c,d,.bool false] H):=qh
def VF(s:ao)(a b c d:T)(H:qa):cD 120 [1,1,2,2,2,2] [0,2,3,5,9] [a,b,c,.ah s.c,d] H [0,2,3,9,44] =
( bif decide (s.k=7) then zN [a,b,c,d,.bool true] H else
 zN [a,b,c,d,.bool false] H):=qh
def qub(a b c d:T)(H:qa):cD 120 [1,1,2,2,2,2,2] [0,2,3,9] [a,b,c,d] H [0,2,3,9,10] =
( zN [a,b,c,d,iI 0] H):=qh
def PA(a i:Int):qa:=[.mk 0 2 1 (λj=>[[uI a,iI i]].getD j []) true true none,.mk 0 2 1 (λj=>[[uI 0,.own 26 0 0 1 (some 1)]].getD j []) false true none]
def sa4(w:JO->qa->T->qa->Prop)(q e:Ys)(x:Wx)(v d:Nat->Nat)(r:Rw)(y a i:Int):cK (qv.cE 80 (jo w (Lv a i (e.hw x d (r.h []))))) 120 [1,3,2,1,2,2] [0,9] [p0,iI y] (q.hw x v (r.h [])) [8] =
 (bif qM (w [p0,iI y,uI 0,.ag] (q.hw x v (r.h [])) (.agg [uI a,iI i]) (e.hw x d (r.h []))) then some (.normal,[.own 27 0 0 1 (some 1)],e.hw x d (r.h (PA a i))) else none):=qh
def Hf(o:aq)(f:Nat->aq)(z:qa):qa:=o::f 0::f 1::f 2::f 3::f 4::f 5::f 6::f 7::f 8::f 9::f 10::f 11::f 12::f 13::f 14::f 15::z
def Hg(g:Nat->aq)(o:aq)(f:Nat->aq)(z:qa):qa:=g 0::g 1::g 2::g 3::g 4::g 5::g 6::g 7::g 8::Hf o f z
def fX(f:Nat->aq)(k:Nat)(b:aq)(j:Nat):aq:=bif j==k then b else f j
def tkX(N:Nat)(a i:Int)(l:Nat->aL):aq:=.mk 0 2 N (λj=>bif Nat.ble (0+N) j&&j.blt (0+N+1) then List.map Qj ([[uI a,iI i]].getD (j-(0+N)) []) else(l j).c) true false none
def EQ(N:Nat)(a i:Int)(l:Nat->aL):aq:=.mk 1 2 (N+1) (λj=>bif j.blt N then(l (0+j)).c else List.map Qj ([[uI a,iI i]].getD (j-N) [])) true false none
noncomputable def VG(p q:JO->T->Prop)(c e:T):bA:=(qv.add 122 (Qa p λ_=>some c)).add 121 (Qa q λ_=>some (.new e))
def Hy(x:Wx)(y:aq)(g:Nat->aq)(o:aq)(f:Nat->aq)(z:qa):qa:=wB x::y::g 2::g 3::g 4::g 5::g 6::g 7::g 8::Hf o f z
def ie(a d:Nat)(sl:List aF):aq:=.mk a 2 d (λj=>(sl.getD j be).c) false false none
def ot(K:Nat):Nat:=0+(yD K).toNat
def sa8(p q:JO->T->Prop)(x:Wx)(Y:Nat->b6)(g:Nat->aq)(o:aq)(f:Nat->aq)(k:Nat)(j:k<16)(a d len K:Nat)(sl:List aF)(l1 l2:List bw)(e:Int) :
 cK (VG p q (lV l1) (lV l2)) 120 [1,3,2,1,2,2,2,2] [0,2,3,9] [p0,.own (10+k) a 0 len none,iI e,yK K] (Hy x (yB Y) g o (fX f k (ie a d sl)) []) [2] =
 (bif decide (0<=yD K)&&decide (yD K<6) then bif (ot K).blt 6 then bif a==a&&true then bif decide ((0:Int)<ofNat len) then bif a==a&&true then bif Nat.blt 0 d then
  bif qM (p [.agg (sl.getD 0 be).c,iI e] (lV l1)) then bif qM (q [cH (Y (ot K)).pe (Y (ot K)).np none,lV l1] (.new (lV l2))) then
  bif decide (0<=yD K)&&decide (yD K<6) then bif (ot K).blt 6&&true&&true&&true then
  some (.normal,[.own (10+k) a 0 len none],Hy x (yG Y (ot K) [.bool (Y (ot K)).i,iI (Y (ot K)).pl,iI (Y (ot K)).ct,.bool (Y (ot K)).w,lV l2]) g o (fX f k (ie a d sl)) [])
  else none else none else none else none else none else none else none else none else none else none):=by
 cases qW j
 all_goals kernel_rfl
def rwK(d f j:Nat)(sl:List aF)(a b:Int):aq:=.mk d 2 f (λe=>[uI (bif e==0+j then(sl.getD (0+j) be).b else(sl.getD e be).b),
 bif e==0+j then .view 2 1 (λj=>[[uI a,iI b]].getD j []) (some 1) else aX (sl.getD e be).l]) false false none
def dj(j len:Nat):Bool:=decide ((0:Int)<=ofNat j)&&decide (ofNat j<ofNat len)
def quc(w:JO->qa->T->qa->Prop)(g g':Nat->aq)(o:aq)(f:Nat->aq)(k:Nat)(s:k<16)(d e len j:Nat)(sl:List aF)(y a b r i:Int) :
 cK (KG (qv.cE 80 (jo w (Lv a b (Hg g' o (fX f k (ie d e sl)) []))))) 120 [2,2,0,1,2,0,0,2,1,2,2,2,2,2] [0,2,3,9,10,11] [p0,.own (10+k) d 0 len none,iI r,iI y,iI i,iI (ofNat j)] (Hg g o (fX f k (ie d e sl)) []) [0,2,3,9,10] =
 (bif d==d&&true then bif dj j len then bif d==d&&true then bif d==d&&true then bif (0+j).blt e then bif d==d&&true then bif dj j len then bif d==d&&true then bif d==d&&true then bif (0+j).blt e then
  bif qM (w (p0::iI y::(sl.getD (0+j) be).c) (Hg g o (fX f k (ie d e sl)) []) (.agg [uI a,iI b]) (Hg g' o (fX f k (ie d e sl)) [])) then
  bif d==d&&true then bif dj j len then bif d==d&&true then bif d==d&&true then bif (0+j).blt e&&true&&true&&true then
  some (.normal,[p0,.own (10+k) d 0 len none,iI r,iI y,iI i],Hg g' o (fX f k (rwK d e j sl a b)) [])
  else none else none else none else none else none else none else none else none else none else none else none else none else none else none else none else none):=by
 cases qW s
 all_goals kernel_rfl
def qud(k v len:Nat)(H:qa):cD 120 [2,3,2,1,2,2] [8] [.own k v 0 len none] H [8] =
( zR [.own k v 0 len
 none] H):=qh
def que(k v len:Nat)(H:qa):cD 120 [2,3,2,1,2,2,2] [2] [.own k v 0 len none] H [8] =
( zR [.own k v 0 len
 none] H):=qh
def quf(k v len:Nat)(H:qa):cD 120 [2,3,2,1,2,2,2,2] [2] [.own k v 0 len none] H [8] =
( zR [.own k v 0 len
 none] H):=qh
def qug(k v len:Nat)(H:qa):cD 120 [2,2,2,2,2,2] [2] [.own k v 0 len none] H [8] =
( zR [.own k v 0 len
 none] H):=qh
def quh(a b c d:T)(i:Int)(H:qa):cD 120 [1,0,1,2,0,0,2,1,2,2,2,2,2] [0,2,3,9,10] [a,b,c,d,iI i] H [0,2,3,9,10,11] =
( zN [a,b,c,d,iI i,iI i] H):=qh
def qui(a b c d:T)(i:Nat)(H:qa):cD 120 [2,2,0,0,2,1,2,2,2,2,2] [0,2,3,9,10] [a,b,c,d,iI (ofNat i)] H [0,2,3,9,10] =
( zN [a,b,c,d,iI (i64.wrap (ofNat i+1))] H):=qh
def PB(a b c s d e:T)(H:qa):cD 120 [4,2,1,2,2] [0,2,3,5,9,17] [a,b,c,s,d,e] H [0,2,3,5,9] =
( zN [a,b,c,s,d] H):=qh
def VH(a b c s d e:T)(H:qa):cD 120 [4,2,1,2,2,2] [0,2,3,5,9,26] [a,b,c,s,d,e] H [0,2,3,5,9] =
( zN [a,b,c,s,d] H):=qh
def quj(a b c d e:T)(H:qa):cD 120 [4,2,1,2,2,2,2] [0,2,3,9,44] [a,b,c,d,e] H [0,2,3,9] =
( zN [a,b,c,d] H):=qh
def quk(a c d:T)(g:Nat->aq)(o:aq)(f:Nat->aq)(k:Nat)(r:k<16)(e j len i:Nat)(sl:List aF)(z:qa) :
 cD 120 [1,0,0,2,1,2,2,2,2,2] [0,2,3,9,10] [a,.own (10+k) e 0 len none,c,d,iI (ofNat i)] (Hg g o (fX f k (ie e j sl)) z) [0,2,3,9,10] =
 (bif e==e&&true then bif decide (ofNat i<ofNat len) then some (.normal,[a,.own (10+k) e 0 len none,c,d,iI (ofNat i)],Hg g o (fX f k (ie e j sl)) z)
  else some (.exit 0,[a,.own (10+k) e 0 len none,c,d,iI (ofNat i)],Hg g o (fX f k (ie e j sl)) z) else none):=by
 cases qW r
 all_goals kernel_rfl
def qrD(a c d:T)(g:Nat->aq)(o:aq)(f:Nat->aq)(k:Nat)(r:k<16)(e j len i:Nat)(sl:List aF)(z:qa) :
 cD 120 [1,0,0,2,1,2,2,2,2,2] [0,2,3,9,10] [a,.own (10+k) e 0 len none,c,d,iI (ofNat i)] (Hg g o (fX f k (ie e j sl)) z) [2] =
 (bif e==e&&true then bif decide (ofNat i<ofNat len) then some (.normal,[.own (10+k) e 0 len none],Hg g o (fX f k (ie e j sl)) z)
  else some (.exit 0,[.own (10+k) e 0 len none],Hg g o (fX f k (ie e j sl)) z) else none):=by
 cases qW r
 all_goals kernel_rfl
def qul(a d:T)(r i j:Int)(g:Nat->aq)(o:aq)(f:Nat->aq)(k:Nat)(u:k<16)(e s len:Nat)(sl:List aF)(z:qa) :
 cD 120 [1,2,0,1,2,0,0,2,1,2,2,2,2,2] [0,2,3,9,10,11] [a,.own (10+k) e 0 len none,iI r,d,iI i,iI j] (Hg g o (fX f k (ie e s sl)) z) [0,2,3,9,10,11] =
 (bif decide (r=0) then bif e==e&&true then some (.normal,[a,.own (10+k) e 0 len none,iI r,d,iI i,iI (i64.wrap (i64.wrap (ofNat len-1)-i))],Hg g o (fX f k (ie e s sl)) z) else none
  else some (.normal,[a,.own (10+k) e 0 len none,iI r,d,iI i,iI j],Hg g o (fX f k (ie e s sl)) z)):=by
 cases qW u
 all_goals kernel_rfl
def GR(l:List bw):Prop:=∀p∈l,p.d=0∨p.d=1
def qoj{p q:bw}(hp:p.d=0∨p.d=1)(a:q.d=0∨q.d=1):Ak p q=Cu p q:=by
 unfold Ak Cu;rcases hp with h|h<;>rcases a with k|k<;>rw[h,k]<;>cases decide (p.y=q.y)<;>cases decide (p.n=q.n)<;>cases p.f<;>cases q.f<;>rfl
def qok{l:List bw}{p:bw}(a:GR l)(hp:p.d=0∨p.d=1):GR (rS l p):=by
 unfold rS;split
 .exact λx hx=>a x (List.dropLast_subset l hx)
 .intro x hx;rcases wS.1 hx with h|h
  .exact a x h
  .obtain rfl:=wM.1 h;exact hp
def qmF{l:List bw}{p:bw}(e:GR l)(hp:p.d=0∨p.d=1):KO l p=rS l p:=by
 unfold KO rS;by_cases h:0<l.length
 ·have a:l.getD (l.length-1) fv∈l:=by
   rw[wh,wj ae];exact List.getElem_mem _
  rw[qoj (e _ a) hp]
 .rw[dF h,xT,xT]
def VJ:∀(m l:List bw),GR l->GR m->Zz l m=Cy l m
 |[],_,_,_=>rfl
 |p::m,l,e,d=>by
  have a:=d p au;show Zz (KO l p) m=Cy (rS l p) m;rw[qmF e a];exact VJ m (rS l p) (qok e a) λx hx=>d x (by simp[hx])
def qol(l:List bw)(p:bw):(rS l p).length<=l.length+1:=by
 unfold rS;split
 .rw[xY];omega
 .simp
def VK:∀(m l:List bw),(Cy l m).length<=l.length+m.length
 |[],_=>wc _
 |p::m,l=>by
  have h:=VK m (rS l p);have a:=qol l p;show(Cy (rS l p) m).length<=l.length+(m.length+1);omega
def Zv(s:aF)(right:Bool):List bw:=bif right then s.l.map (λi=>⟨i.y,i.n,decide (s.b=1),1⟩) else s.l.reverse.map (λi=>⟨i.y,i.n,decide (s.b=1),0⟩)
def ze(s:ao):Int:=if s.k=2∨s.k=5 then 1 else 0
def DH(f:Bool):Int:=if f then 1 else -1
def KA(l r:List aF):List (aL×aL):=l.flatMap λa=>r.flatMap λb=>a.l.flatMap λx=>b.l.map λy=>(x,y)
def ER(c:List aV)(l r:List aF)(s:Int):List aV:=(KA l r).foldl (λc p=>Z9 c p.1 p.2 s) c
def fJ(s:ao)(S:List aF):List aF:=(S.take s.nN).map λx=>⟨ze s,x.l⟩
def lz(s:ao)(l:List aF):List aF :=
 if s.k=4∨s.k=5 then [⟨ze s,(l.map aF.l).flatten⟩] else if s.k=8 then l.drop s.a.toNat++l.take s.a.toNat else l
def tF(s:ao)(l:List aF)(c:List aV):List aV:=if s.k=8 then ER c (l.take s.a.toNat) (l.drop s.a.toNat) (DH s.f) else c
def lK(q:Ys)(K:Nat):aL:=⟨ofNat K+1,(q.Y K).ct⟩
def Ys.fK(q:Ys)(K:Nat)(m:List bw):Ys:=q.dz K ⟨(q.Y K).i,(q.Y K).pl,(q.Y K).ct,(q.Y K).w,Zz (q.Y K).pe m⟩
def lA(K:Nat):Ys->List aF->Ys×List aF
 |q,[]=>(q,[])
 |q,s::l=>((lA K (q.loop K s.b s.l) l).1,⟨s.b,[lK q K]⟩::(lA K (q.loop K s.b s.l) l).2)
def AS(K:Nat)(right:Bool)(q:Ys)(l:List aF):Ys×List aF:=bif right then lA K q l else((lA K q l.reverse).1,(lA K q l.reverse).2.reverse)
def nZ(K:Nat)(right:Bool)(s:ao)(q:Ys)(l:List aF):Ys×List aF :=
 if s.k=3 then(q.loop K 0 [],[⟨0,[lK q K]⟩]) else
 if s.k=6 then(q.loop K 0 [],match l with|[]=>[]|a::t=>⟨a.b,a.l++[lK q K]⟩::t) else
 if s.k=7 then(q.fK K (Zv (l.getD 0 be) right),l) else AS K right q l
def uM(K:Nat)(right:Bool)(q:Ys)(l:List aF):Ys:=(bif right then l else l.reverse).foldl (λq s=>q.fK K (Zv s right)) q
def lL(K:Nat)(right a:Bool)(s:ao)(q:Ys)(l:List aF):Ys×List aF:=if a=true/\s.y=ofNat K+1 then nZ K right s q l else(uM K right q l,l)
def ms(K:Nat)(right a:Bool):Ys->List (ao×List aF)->Ys×List (List aF)
 |q,[]=>(q,[])
 |q,(s,l)::t=>((ms K right a (lL K right a s q l).1 t).1,(lL K right a s q l).2::(ms K right a (lL K right a s q l).1 t).2)
def ni(K:Nat)(right d:Bool)(row:List ao)(q:Ys)(a:List (List aF)):Ys×List (List aF) :=
 bif right then ms K right d q (row.zip a) else((ms K right d q (row.zip a).reverse).1,(ms K right d q (row.zip a).reverse).2.reverse)
def zr(right:Bool):Int:=if right then 179 else -13
def Bt(row:List ao)(K:Nat):Bool:=row.any λs=>decide (s.y=ofNat K+1)
def lM(row:List ao)(right:Bool)(p:Ys×List (List aF))(K:Nat):Ys×List (List aF) :=
 if Bt row K=false then p else
 let a:Ys:=if (p.1.Y K).i=false then p.1.dz K ⟨true,zr (!right),(p.1.Y K).ct,true,(p.1.Y K).pe⟩ else p.1
 let d:Ys:=if (a.Y K).pl≠zr (!right) then(ni K (!right) false row a p.2).1 else a
 let r:=ni K right true row d p.2
 (r.1.dz K ⟨(r.1.Y K).i,zr right,(r.1.Y K).ct,(r.1.Y K).w,(r.1.Y K).pe⟩,r.2)
def rI(right:Bool):Int:=bif right then 1 else 0
def VL(b r:Int)(l:List aL):∀i,jv b r l i=(List.range i).map λj=>tA b r (l.getD (if r=0 then l.length-1-j else j) bU)
 |0=>rfl
 |i+1=>by
  rw[xj,vF,←VL b r l i];rfl
def VM{α:Type}(l:List α)(d:α):(List.range l.length).map (λj=>l.getD j d)=l:=by
 refine List.ext_getElem? λi=>?_;rw[wE];by_cases h:i<l.length
 .rw[vW h,wj h];show some (l.getD i d)=_;rw[wh,wj h];rfl
 .rw[wz (by simp;omega),wz ae];rfl
def qmG{α:Type}(l:List α)(d:α)(j:Nat)(h:j<l.length):l.reverse.getD j d=l.getD (l.length-1-j) d:=by
 rw[wh,wh,xF h]
def VN(s:aF)(right:Bool):jv s.b (rI right) s.l s.l.length=Zv s right:=by
 rw[VL];cases right with
 |true =>
  have e:(List.range s.l.length).map (λj=>tA s.b (rI true) (s.l.getD (if rI true=0 then s.l.length-1-j else j) bU))=((List.range s.l.length).map λj=>s.l.getD j bU).map λi=>tA s.b 1 i:=by
   rw[List.map_map];exact va λj _=>by
    show tA s.b 1 (s.l.getD (if (1:Int)=0 then _ else j) bU)=tA s.b 1 (s.l.getD j bU);rw[we ae]
  rw[e,VM];rfl
 |false =>
  have e:(List.range s.l.length).map (λj=>tA s.b (rI false) (s.l.getD (if rI false=0 then s.l.length-1-j else j) bU))=((List.range s.l.reverse.length).map λj=>s.l.reverse.getD j bU).map λi=>tA s.b 0 i:=by
   rw[List.map_map,vO];exact va λj a=>by
    have a:=vQ.1 a;show tA s.b 0 (s.l.getD (if (0:Int)=0 then s.l.length-1-j else j) bU)=tA s.b 0 (s.l.reverse.getD j bU);rw[wl rfl,qmG _ _ _ a]
  rw[e,VM];rfl
def gP(q:Ys)(K B:Nat):Prop:=(q.Y K).i=true/\0<=(q.Y K).ct/\(q.Y K).ct+B<1000000/\(q.tb K).length+B<=1000000/\(q.Y K).pe.length+B<=1000000
def Yg{α:Type}(f:Nat->α)(K:Nat)(z:α):aB f K z K=z:=wl rfl
def gP.loop{q:Ys}{K B:Nat}(h:gP q K (B+1))(b:Int)(th:List aL):gP (q.loop K b th) K B:=by
 obtain⟨h1,i,g,f,e⟩:=h;have d:(q.loop K b th).Y K=(q.Y K).next:=Yg _ _ _
 have a:(q.loop K b th).tb K=q.tb K++[(q.Y K).lp b th]:=Yg _ _ _;unfold gP;rw[d,a,wD];refine⟨rfl,?_,?_,?_,?_⟩
 .show 0<=(q.Y K).ct+1;omega
 .show(q.Y K).ct+1+B<_;omega
 .show(q.tb K).length+1+B<=_;omega
 .show 0+B<=_;omega
def gP.mono{q:Ys}{K B C:Nat}(h:gP q K B)(d:C<=B):gP q K C:=by
 obtain⟨h1,a,g,f,e⟩:=h;exact⟨h1,a,ae,ae,ae⟩
def qmH(l:List bw)(p:bw):(KO l p).length<=l.length+1:=by
 unfold KO;split
 .rw[xY];omega
 .rw[wD];exact wc _
def VO:∀(m l:List bw),(Zz l m).length<=l.length+m.length
 |[],l=>wc _
 |p::m,l=>by
  have:=VO m (KO l p);have a:=qmH l p;show(Zz (KO l p) m).length<=_;rw[vc];omega
def gP.fK{q:Ys}{K B:Nat}{m:List bw}(h:gP q K (B+m.length)):gP (q.fK K m) K B:=by
 obtain⟨h1,a,g,f,e⟩:=h;have d:(q.fK K m).Y K=⟨(q.Y K).i,(q.Y K).pl,(q.Y K).ct,(q.Y K).w,Zz (q.Y K).pe m⟩:=Yg _ _ _;have:=VO m (q.Y K).pe;unfold gP;rw[d];exact⟨h1,a,by show(q.Y K).ct+_<_;omega,by show(q.tb K).length+_<=_;omega,by show(Zz (q.Y K).pe m).length+_<=_;omega⟩
section
variable (q:Ys) (x:Wx) (hx:x.Im) (v:Nat->Nat) (r:Rw) (hr:r.n<=16) (K:Nat) (hK:K<6)
include hx hr hK
def mdT(h:gP q K 1):aR aw G17 80 [p0,yK K,uI 0,.ag] (q.hw x v (r.h [])) (.agg [uI (ofNat K+1),iI (q.Y K).ct]) ((q.loop K 0 []).hw x (aB v K (v K+1)) (r.h [])):=by
 obtain⟨h1,a,f,e,d⟩:=h;by_cases c:(q.Y K).pe=[]
 .exact Pm q x v _ K 0 hK c h1 a ae ae
 .exact VE q x hx v r hr K 0 hK [] .ag (.inl ⟨rfl,rfl,c⟩) h1 a ae ae au ae
def qum(d:Nat)(a:Nat->aL)(h:gP q K 1):aR aw G17 80 [p0,yK K,uI 0,.ag] (q.hw x v (r.h [mK d a])) (.agg [uI (ofNat K+1),iI (q.Y K).ct]) ((q.loop K 0 []).hw x (aB v K (v K+1)) (r.h [mK d a])):=by
 obtain⟨h1,e,i,g,f⟩:=h;by_cases c:(q.Y K).pe=[]
 .exact Pm q x v _ K 0 hK c h1 e ae ae
 .exact qp9 q x hx v r hr K 0 hK d a c h1 e ae ae ae
end
def An(s:Wa):Wa:=List.range 26++s
def VP(s:Wa)(r:Rw)(h:qa)(j:Nat)(a:j<16):[T.own (10+j) (r.vs j) 0 (r.sl j).length none]=[T.own (10+j) (r.vs j) 0 (r.sl j).length none].map (qJ (An s) h):=by
 cases qW a
 all_goals rfl
def VQ(s:Wa)(ln v:Nat->Nat)(h:qa)(e:Nat)(he:e<6):(tB ln v).get e=((tB ln v).get e).map (qJ (An s) h):=by
 cases zy he
 all_goals rfl
def VS(s:Wa)(x:Wx)(hx:x.Im)(h:qa):[x.sl,.own 1 0 0 6 none,.own 2 0 0 6 none,x.cr,x.he,x.fa,uI x.d]=[x.sl,.own 1 0 0 6 none,.own 2 0 0 6 none,x.cr,x.he,x.fa,uI x.d].map (qJ (An s) h):=by
 show _=[qJ (An s) h x.sl,.own 1 0 0 6 none,.own 2 0 0 6 none,qJ (An s) h x.cr,qJ (An s) h x.he,qJ (An s) h x.fa,uI x.d];rw[Zu hx.sl,Zu hx.cr,Zu hx.he,Zu hx.fa]
def bk.pre:∀(p:qa) {h h2:qa},bk h h2->bk (p++h) (p++h2)
 |[],_,_,a=>a
 |b::p,_,_,a=>.cons ⟨rfl,rfl,rfl⟩ (λh=>⟨h,λ_ _=>rfl⟩) (λ_ _=>.refl _) (bk.pre p a)
def VT(q:Ys)(x:Wx)(v:Nat->Nat)(r:Rw)(z:qa):q.hw x v (r.h z)=q.hw x v (r.h [])++z:=rfl
def GS(q:Ys)(K:Nat):aq:=.mk 0 2 1 (λj=>(([⟨0,[lK q K]⟩]:List aF).getD j be).c) false false none
def o27:T:=.own 27 0 0 1 (some 1)
def qqb{aa:Wa}{nt:Nat}(q:Ys)(x:Wx)(hx:x.Im)(v:Nat->Nat)(r:Rw)(hr:r.n<=16)(a i:Int)(f:aL)(g:f=⟨a,i⟩) :
 am G17 aa nt [8] 26 [o27] (q.hw x v (r.h (PA a i))) [.own 26 0 0 1 none] (q.hw x v (r.h [.mk 0 2 1 (λj=>(([⟨0,[f]⟩]:List aF).getD j be).c) false false none])):=by
 have u:=VS [27] x hx;have s:=λh e (he:e<6)=>VQ [27] (λe=>(q.tb e).length) v h e he;have o:=λh j (d:j<r.n)=>VP [27] r h j ae;have k:∀(h:qa) (j:Nat),j<1->([[uI 0,.own 26 0 0 1 (some 1)]].getD j []).map (qJ (An [27]) (q.hw x v (r.h (PA a i))))=[uI 0,.view 2 1 (λj=>[[uI a,iI i]].getD (0+j) []) (some 1)]:=λh j d=>by
  obtain rfl:j=0:=vL.1 d;rfl
 refine .trans (am.bZ (aS:=[.own 26 0 0 1 (some 1)]) (h':=q.hw x v (r.h [.mk 0 2 1 (λ_=>[uI 0,.view 2 1 (λj=>[[uI a,iI i]].getD (0+j) []) (some 1)]) false false none])) (An [27]) rfl rfl rfl ?_) ?_
 .refine .cons ⟨rfl,rfl,rfl,λh=>h,λ_ _=>u _⟩ ?_ rfl
  repeat (first|exact .nil|refine .cons ⟨rfl,rfl,rfl,λh=>h,λ_ _=>rfl⟩ ?_ rfl|refine .cons ⟨rfl,rfl,rfl,λh=>h,λj d=>s _ j d⟩ ?_ rfl|refine .cons ⟨rfl,rfl,rfl,λh=>h,λj d=>o _ j d⟩ ?_ rfl|refine .cons ⟨rfl,rfl,rfl,(λh=>by cases h),λj d=>(k [] j d).symm⟩ ?_ rfl)
 .refine .trans (.cap (.cons (.own rfl (wc _)) .nil)) ?_;rw[VT,VT q x v r [.mk 0 2 1 (λj=>(([⟨0,[f]⟩]:List aF).getD j be).c) false false none]];refine .sl (.Ue .nil) (bk.pre _ (.cons ⟨rfl,rfl,rfl⟩ (λh=>by cases h) (λj d=>?_) (.refl _)));obtain rfl:j=0:=vL.1 d;refine .Ue (.cons (.view (.inr rfl) λj d=>?_) .nil);obtain rfl:j=0:=vL.1 d;rw[g];exact .refl _
def LK{q:Ys}{K B:Nat}(h:gP q K B)(hK:K<6){s:ao}(a:s.y=ofNat K+1):iI (i64.wrap s.y)=yK K:=by
 rw[a,Qp bH bH];rfl
def qom(q:Ys)(x:Wx)(hx:x.Im)(v:Nat->Nat)(r:Rw)(hr:r.n<=16)(K:Nat)(hK:K<6)(s:ao)(B:s.y=ofNat K+1)(C:s.k=3)(gn:gP q K 1)(a:Int)(t:T) :
 aR aw G17 120 [p0,.agg s.c,t,iI a] (q.hw x v (r.h [])) (.own 26 0 0 1 none) ((q.loop K 0 []).hw x (aB v K (v K+1)) (r.h [GS q K])):=by
 obtain⟨w,hw⟩:=YM aw G17 80;have run:=λ{p l f h z g h1 e} (k:cD 120 p l f h z=some (e,g,h1))=>cf (q.hw x v (r.h [])) k
 let H:qa:=q.hw x v (r.h [])
 have u:=run (LH s p0 t (iI a) H);have d:=run (LI s p0 t (iI a) H);rw[LK gn hK B] at d;have o:=run ((LJ s p0 t (iI a) (yK K) H).trans (qk (wq C) rfl));have j:Pq 120 H [1,3,2,1,2,2] [0,9] [p0,yK K] H .normal [8] [.own 26 0 0 1 none] ((q.loop K 0 []).hw x (aB v K (v K+1)) (r.h [GS q K])) :=
  Pz.post (eD (qC qp (zg hw)) H
   ((sa4 w q (q.loop K 0 []) x v (aB v K (v K+1)) r (ofNat K+1) (ofNat K+1) (q.Y K).ct).trans (qk (zM hw (mdT q x hx v r hr K hK gn)) rfl))) λnt=>qqb (q.loop K 0 []) x hx _ r hr _ _ _ rfl
 have i:=run (qud 26 0 1 ((q.loop K 0 []).hw x (aB v K (v K+1)) (r.h [GS q K])));exact Pz.fI (A:=az) Qn Tryz.func120 qh qh (l:=[0,1,2,3]) rfl
  (av u (av d (lk (av o (Pz.gE 17 qh rfl (Pz.drop rfl (av j i))))))) rfl
def Rw.gv(r:Rw)(k:Nat)(l:List aF):Rw:={ r with sl:=aB r.sl k l }
def gq(q:Ys)(x:Wx)(v:Nat->Nat)(j:Nat):aq :=
 match j with
 |0=>wB x
 |1=>yB λe=>(q.Y e).y
 |2=>tB (λe=>(q.tb e).length) v
 |j+3=>rB (λe=>(q.tb e).length) v (λe j=>((q.tb e).getD j eG).l) j
def PD(q:Ys)(x:Wx)(v:Nat->Nat)(r:Rw)(z:qa):q.hw x v (r.h z)=Hg (gq q x v) r.out r.row z:=rfl
def LL(r:Rw)(k:Nat):fX r.row k (ie (r.vs k) (r.bn k) (r.sl k))=r.row:=funext λj=>by
 show(bif j==k then _ else _)=_;by_cases c:j=k
 .rw[c,wF];rfl
 .rw[show(j==k)=false by simpa using c];rfl
def VU{r:Rw}{k:Nat}{l:List aF}(a:l.length=(r.sl k).length):(r.gv k l).out=r.out/\(r.gv k l).row=fX r.row k (ie (r.vs k) (r.bn k) l):=by
 refine⟨?_,funext λj=>?_⟩
 ·have e:(λj=>[T.own (10+j) (r.vs j) 0 (aB r.sl k l j).length none])=λj=>[T.own (10+j) (r.vs j) 0 (r.sl j).length none]:=funext λj=>by
   unfold aB;by_cases c:j=k
   ·rw[wl c,a,c]
   ·rw[we c]
  show aq.mk r.o 1 r.n _ false false none=aq.mk r.o 1 r.n _ false false none;rw[show(λj=>[T.own (10+j) ((r.gv k l).vs j) 0 ((r.gv k l).sl j).length none])=λj=>[T.own (10+j) (r.vs j) 0 (aB r.sl k l j).length none] from rfl,e]
 .show aq.mk (r.vs j) 2 (r.bn j) (λe=>((aB r.sl k l j).getD e be).c) false false none=bif j==k then _ else _;unfold aB;by_cases c:j=k
  .rw[wl c,c,wF];rfl
  .rw[we c,show(j==k)=false by simpa using c];rfl
def PE(q:Ys)(x:Wx)(v:Nat->Nat)(r:Rw)(k:Nat)(z:qa):q.hw x v (r.h z)=Hg (gq q x v) r.out (fX r.row k (ie (r.vs k) (r.bn k) (r.sl k))) z:=by
 rw[LL];rfl
def PF(q:Ys)(x:Wx)(v:Nat->Nat){r:Rw}{k:Nat}{l:List aF}(a:l.length=(r.sl k).length)(z:qa):q.hw x v ((r.gv k l).h z)=Hg (gq q x v) r.out (fX r.row k (ie (r.vs k) (r.bn k) l)) z:=by
 obtain⟨e,d⟩:=VU a;rw[PD,e,d]
def VV(g:Nat->aq)(o:aq)(f:Nat->aq)(k:Nat)(b b2:aq)(z:qa)(h1:b2.aj=b.aj/\b2.sz=b.sz/\b2.n=b.n)(e:b2.flat=false)(i:b2.mp=b.mp)(r:∀j,j<b.n->dY (b.get j) (b2.get j)):bk (Hg g o (fX f k b) z) (Hg g o (fX f k b2) z):=by
 have same:∀(b:aq) {h a:qa},bk h a->bk (b::h) (b::a):=λb _ _ d=>.cons ⟨rfl,rfl,rfl⟩ (λh=>⟨h,λ_ _=>rfl⟩) (λ_ _=>.refl _) d;have step:∀j {h a:qa},bk h a->bk (fX f k b j::h) (fX f k b2 j::a):=λj _ _ d=>by
  unfold fX;cases j==k with
  |true=>exact .cons h1 (λh=>by rw[show b2.flat=true from h] at e;cases e) r d i
  |false=>exact same _ d
 refine same _ (same _ (same _ (same _ (same _ (same _ (same _ (same _ (same _ (same _ ?_)))))))));exact step 0 (step 1 (step 2 (step 3 (step 4 (step 5 (step 6 (step 7 (step 8 (step 9 (step 10 (step 11 (step 12 (step 13 (step 14 (step 15 (.refl z))))))))))))))))
def CF(a e n:Nat)(d:Nat->aL)(sl:List aF):aq:=.mk a 2 e (λj=>[uI (sl.getD j be).b,bif j==0 then fj d (n+1) none else aX (sl.getD j be).l]) false false none
def qrE(a d:Nat)(s:aF)(t:List aF)(n:Nat)(h:s.l.length=n+1):ie a d (s::t)=CF a d n (λi=>s.l.getD i bU) (s::t):=by
 unfold ie CF;congr 1;refine funext λj=>?_;cases j with
 |zero=>show [_,aX s.l]=_;unfold aX;rw[h];rfl
 |succ j=>rfl
def ES(a f n:Nat)(c:T)(d:Nat->aL)(sl:List aF):aq:=.mk a 2 f (λe=>[uI (bif e==0 then(sl.getD 0 be).b else(sl.getD e be).b),bif e==0 then c else(bif e==0 then fj d (n+1) none else aX (sl.getD e be).l)]) false false none
def qun(w:JO->qa->T->qa->Prop)(g g':Nat->aq)(o:aq)(f:Nat->aq)(k:Nat)(r:k<16)(d j len n:Nat)(e:Nat->aL)(sl:List aF)(y a i:Int) :
 cK (KG (qv.cE 80 (jo w (Lv a i (Hg g' o (fX f k (CF d j n e sl)) [mK (0+(n+1)) e]))))) 120 [1,3,2,1,2,2,2] [0,2,9] [p0,.own (10+k) d 0 len none,iI y] (Hg g o (fX f k (CF d j n e sl)) []) [2] =
 (bif d==d&&true then bif decide ((0:Int)<ofNat len) then bif d==d&&true then bif d==d&&true then bif Nat.blt 0 j then bif Nat.blt 0 (0+(n+1))&&((0+(n+1))*17).ble 70368744177664 then
  bif qM (w [p0,iI y,uI 0,.ag] (Hg g o (fX f k (CF d j n e sl)) [mK (0+(n+1)) e]) (.agg [uI a,iI i]) (Hg g' o (fX f k (CF d j n e sl)) [mK (0+(n+1)) e])) then
  bif (0+(0+(n+1))).ble (0+(n+1)) then bif ((0+(n+1)+1)*17).ble 70368744177664 then bif (0+(0+(n+1))+1).ble (0+(n+1)) then
   bif d==d&&true then bif decide ((0:Int)<ofNat len) then bif d==d&&true then bif d==d&&true then bif Nat.blt 0 j&&true&&true&&true then some (.normal,[.own (10+k) d 0 len none],Hg g' o (fX f k (ES d j n (.own 26 0 0 (0+(n+1)+1) none) e sl)) [tkX (0+(n+1)) a i e]) else none else none else none else none else none
  else bif d==d&&true then bif decide ((0:Int)<ofNat len) then bif d==d&&true then bif d==d&&true then bif Nat.blt 0 j&&true&&true&&true then some (.normal,[.own (10+k) d 0 len none],Hg g' o (fX f k (ES d j n (.own 26 1 0 (0+(n+1)+1) none) e sl)) [EQ (0+(n+1)) a i e]) else none else none else none else none else none
  else none else none else none else none else none else none else none else none else none):=by
 cases qW r
 all_goals kernel_rfl
def qqd{aa:Wa}{nt:Nat}(q:Ys)(x:Wx)(hx:x.Im)(v:Nat->Nat)(r:Rw)(hr:r.n<=16)(k:Nat)(u:k<16)(o s len n:Nat)(z:s=1)(d:Nat->aL)(sl:List aF)(a i:Int) :
 am G17 aa nt [2] 26 [.own (10+k) o 0 len none] (Hg (gq q x v) r.out (fX r.row k (ES o s n (.own 26 1 0 (0+(n+1)+1) none) d sl)) [EQ (0+(n+1)) a i d])
  [.own (10+k) o 0 len none] (Hg (gq q x v) r.out (fX r.row k (ES o s n (.view 2 (0+(n+1)+1) (λe=>(EQ (0+(n+1)) a i d).get (0+e)) none) d sl)) []):=by
 subst z;have D:=VS [] x hx;have C:=λh e (he:e<6)=>VQ [] (λe=>(q.tb e).length) v h e he;have B:=λh j (g:j<r.n)=>VP [] r h j ae;have A:∀f:Nat->aq,∀j,j<1->((ES o 1 n (.view 2 (0+(n+1)+1) (λe=>(EQ (0+(n+1)) a i d).get (0+e)) none) d sl).get j)=((ES o 1 n (.own 26 1 0 (0+(n+1)+1) none) d sl).get j).map (qJ (An []) (Hg (gq q x v) r.out f [EQ (0+(n+1)) a i d])):=λf j g=>by
  obtain rfl:j=0:=vL.1 g;show [_,T.view _ _ _ _]=[_,bif (1:Nat)==1&&Nat.ble (0+(0+(n+1)+1)) (0+(n+1)+1) then T.view 2 (0+(n+1)+1) (λe=>(EQ (0+(n+1)) a i d).get (0+e)) none else T.undef];rw[qO ae];rfl
 cases qW u
 all_goals
  refine am.bZ (An []) rfl rfl rfl (.cons ⟨rfl,rfl,rfl,λh=>h,λ_ _=>D _⟩ ?_ rfl)
  repeat (first|exact .nil|refine .cons ⟨rfl,rfl,rfl,λh=>h,λ_ _=>rfl⟩ ?_ rfl|refine .cons ⟨rfl,rfl,rfl,λh=>h,λj g=>C _ j g⟩ ?_ rfl|refine .cons ⟨rfl,rfl,rfl,λh=>h,λj g=>B _ j g⟩ ?_ rfl|refine .cons ⟨rfl,rfl,rfl,λh=>h,λj g=>A _ j g⟩ ?_ rfl)
def qon(q:Ys)(x:Wx)(hx:x.Im)(v:Nat->Nat)(r:Rw)(hr:r.n<=16)(K:Nat)(M:K<6)(s:ao)(V:s.y=ofNat K+1)(W:s.k=6)(gn:gP q K 1)(a:Int)(k:Nat)(E:k<16)(sl:aF)(e:r.sl k=[sl])(J:r.bn k=1)(h0:0<sl.l.length)(h1:sl.l.length<=1000) :
 aR aw G17 120 [p0,.agg s.c,.own (10+k) (r.vs k) 0 1 none,iI a] (q.hw x v (r.h [])) (.own (10+k) (r.vs k) 0 1 none) ((q.loop K 0 []).hw x (aB v K (v K+1)) ((r.gv k [⟨sl.b,sl.l++[lK q K]⟩]).h [])):=by
 obtain⟨w,hw⟩:=YM aw G17 80
 let H:qa:=q.hw x v (r.h [])
 let g:Ys:=q.loop K 0 []
 let f:Nat->Nat:=aB v K (v K+1)
 have run:=λ{p l vs h U N h1 e} (k:cD 120 p l vs h U=some (e,N,h1))=>cf H k;obtain⟨n,o⟩:∃n,sl.l.length=n+1:=⟨sl.l.length-1,ae⟩
 let d:Nat->aL:=λi=>sl.l.getD i bU
 let t:T:=.own (10+k) (r.vs k) 0 1 none
 have S:=run (LH s p0 t (iI a) H);have D:=run (LI s p0 t (iI a) H);rw[LK gn M V] at D;have R:=run ((LJ s p0 t (iI a) (yK K) H).trans (qF (hZ ae) rfl));have Q:=run (PB p0 t (iI a) (.ah s.c) (yK K) (.bool false) H);have P:=run ((Py s p0 t (iI a) (yK K) H).trans (qk (wq W) rfl));have u:∀(q:Ys) (v:Nat->Nat) z,q.hw x v (r.h z)=Hg (gq q x v) r.out (fX r.row k (CF (r.vs k) 1 n d [sl])) z:=λq v z=>by
  rw[PE q x v r k z,e,J,qrE _ _ sl [] n o]
 have B:=qum q x hx v r hr K M (0+(n+1)) d gn;rw[u,u] at B;have C:Pq 120 H [1,3,2,1,2,2,2] [0,2,9] [p0,t,yK K] (Hg (gq q x v) r.out (fX r.row k (CF (r.vs k) 1 n d [sl])) []) .normal [2] [t] (g.hw x f ((r.gv k [⟨sl.b,sl.l++[lK q K]⟩]).h [])) :=
  Pz.post (eD (qC (qC qp (zg hw)) (λ_ _ _ _ h=>(by cases h))) H
   ((qun w (gq q x v) (gq g x f) r.out r.row k E (r.vs k) 1 1 n d [sl] (ofNat K+1) (ofNat K+1) (q.Y K).ct).trans
     (qk au (qk rfl (qk au (qk au (qk rfl (qk (by rw[qL ae,qO ae];rfl) (qk (zM hw B) (qk (qO ae) (qk (qO ae) (qF (by rw[ZG ae];simp)
      (qk au (qk rfl (qk au (qk au (qk rfl rfl))))))))))))))))) λnt=>by
   refine .trans (qqd g x hx f r hr k E (r.vs k) 1 1 n rfl d [sl] _ _) ?_;rw[PF g x f (by rw[e];rfl),J];refine .sl (.Ue .nil) (VV _ _ _ _ _ _ _ ⟨rfl,rfl,rfl⟩ rfl rfl λj I=>?_);obtain rfl:j=0:=vL.1 I;refine .Ue (.cons ?_ .nil);show fu (.view 2 (0+(n+1)+1) _ none) (aX (sl.l++[lK q K]));unfold aX fj;rw[show(sl.l++[lK q K]).length=0+(n+1)+1 by simp[o]];refine .view (.inr rfl) λj I=>?_;show eO (bif (0+j).blt (0+(n+1)) then(d (0+(0+j))).c else List.map Qj ([[uI (ofNat K+1),iI (q.Y K).ct]].getD (0+j-(0+(n+1))) [])) ((sl.l++[lK q K]).getD j bU).c;rw[Zs];by_cases c:j=sl.l.length
   .rw[wl c,QP ae,c,o];simp only[wn,wW];exact .refl _
   .rw[we c,qL ae];simp only[wn];exact .refl _
 have O:=run (que (10+k) (r.vs k) 1 (g.hw x f ((r.gv k [⟨sl.b,sl.l++[lK q K]⟩]).h [])));rw[←u] at C;exact Pz.fI (A:=az) Qn Tryz.func120 qh qh (l:=[0,1,2,3]) rfl
  (av S (av D (av (av R (Pz.fc 17 qh rfl Q))
   (lk (av P (Pz.gE 26 qh rfl (Pz.drop rfl (av C O)))))))) rfl
def PG(q:Ys)(x:Wx)(v:Nat->Nat)(K:Nat)(z:Yn)(rest:qa):HW x (aB (λe=>(q.Y e).y) K z.y) (λe=>(q.tb e).length) v (λe j=>((q.tb e).getD j eG).l) rest=(q.dz K z).hw x v rest:=by
 have e:aB (λe=>(q.Y e).y) K z.y=λe=>((q.dz K z).Y e).y:=funext λe=>by
  show(if e=K then z.y else(q.Y e).y)=(aB q.Y K z e).y;unfold aB;by_cases c:e=K
  .rw[wl c,wl c]
  .rw[we c,we c]
 rw[e];rfl
def PH{K:Nat}(d:K<6):yD K=ofNat K/\ot K=K:=by
 have a:yD K=ofNat K:=by
  unfold yD;rw[show ofNat K+1-1=ofNat K by omega,Qp bH bH]
 exact⟨a,by unfold ot;rw[a];simp⟩
def qoo(q:Ys)(x:Wx)(v:Nat->Nat)(r:Rw)(K:Nat)(d:K<6)(s:ao)(U:s.y=ofNat K+1)(f:s.k=7)(gn:gP q K 1)(right:Bool)(k:Nat)(V:k<16)(len:Nat)(bc:0<len)(W:0<r.bn k)(h1:((r.sl k).getD 0 be).l.length<=1000) :
 aR aw G17 120 [p0,.agg s.c,.own (10+k) (r.vs k) 0 len none,iI (rI right)] (q.hw x v (r.h [])) (.own (10+k) (r.vs k) 0 len none) ((q.fK K (Zv ((r.sl k).getD 0 be) right)).hw x v (r.h [])):=by
 obtain⟨Bu,z⟩:=qE aw G17 122;obtain⟨PI,u⟩:=qE aw G17 121
 let H:qa:=q.hw x v (r.h [])
 have run:=λ{p l vs h S C h1 e} (k:cD 120 p l vs h S=some (e,C,h1))=>cf H k
 let t:T:=.own (10+k) (r.vs k) 0 len none
 let sl:=(r.sl k).getD 0 be
 let a:T:=iI (rI right)
 have h1:sl.l.length<=1000:=h1;have R:=run (LH s p0 t a H);have o:=run (LI s p0 t a H);rw[LK gn d U] at o;have Q:=run ((LJ s p0 t a (yK K) H).trans (qF (hZ ae) rfl));have P:=run (PB p0 t a (.ah s.c) (yK K) (.bool false) H);have O:=run ((Py s p0 t a (yK K) H).trans (qF (hZ ae) rfl));have N:=run (VH p0 t a (.ah s.c) (yK K) (.bool false) H);have M:=run ((VF s p0 t a (yK K) H).trans (qk (wq f) rfl));obtain⟨e1,Z⟩:=PH d;have E:TO 122 [.agg sl.c,a] (lV (Zv sl right)):=by
  have:=U8 (b:=sl.b) (l:=sl.l) (r:=rI right) ae (by cases right<;>simp[rI]);rw[VN] at this;exact this
 have D:TO 121 [lV (q.Y K).pe,lV (Zv sl right)] (.new (lV (Zz (q.Y K).pe (Zv sl right)))):=Vl _ _ (by have:=gn.2.2.2.2;omega) (by rw[show(Zv sl right).length=sl.l.length by unfold Zv;cases right<;>simp];omega);have X:H=Hy x (yB λe=>(q.Y e).y) (gq q x v) r.out (fX r.row k (ie (r.vs k) (r.bn k) (r.sl k))) []:=PE q x v r k [];have q8:=sa8 Bu PI x (λe=>(q.Y e).y) (gq q x v) r.out r.row k V (r.vs k) (r.bn k) len K (r.sl k) (Zv sl right) (Zz (q.Y K).pe (Zv sl right)) (rI right);rw[e1,Z] at q8;have B:(decide (0<=ofNat K)&&decide (ofNat K<6))=true:=by simp only[wu,wg,wC];omega
 have q8:=q8.trans (qk B (qk (qL d) (qk au (qk (wq bH) (qk au (qk (qL W) (qk (qu z E) (qk (qu u D) (qk B (qk (by rw[qL d];rfl) rfl))))))))));have J:Pq 120 H [1,3,2,1,2,2,2,2] [0,2,3,9] [p0,t,a,yK K] H .normal [2] [t] ((q.fK K (Zv sl right)).hw x v (r.h [])):=by
  rw[←X] at q8;refine Pz.post (eD (qr (qr qp (qq z)) (qq u)) H q8) λnt=>?_;unfold Ys.fK;rw[←PG];rw[LL];exact Zt (x:=x) (Y:=λe=>(q.Y e).y) (ln:=λe=>(q.tb e).length) (v:=v) (L:=λe j=>((q.tb e).getD j eG).l) (rest:=r.h []) (K:=K) (y:=(Yn.mk (q.Y K).i (q.Y K).pl (q.Y K).ct (q.Y K).w (Zz (q.Y K).pe (Zv sl right))).y) (.refl _)
 have I:=run (quf (10+k) (r.vs k) len ((q.fK K (Zv sl right)).hw x v (r.h [])));exact Pz.fI (A:=az) Qn Tryz.func120 qh qh (l:=[0,1,2,3]) rfl
  (av R (av o (av (av Q (Pz.fc 17 qh rfl P))
   (av (av O (Pz.fc 26 qh rfl N)) (lk (av M (Pz.gE 44 qh rfl (Pz.drop rfl (av J I))))))))) rfl
def GU(K j:Nat)(p:Ys×List aF):Ys×List aF:=(p.1.loop K (p.2.getD j be).b (p.2.getD j be).l,p.2.set j ⟨(p.2.getD j be).b,[lK p.1 K]⟩)
def jx(right:Bool)(n i:Nat):Nat:=bif right then i else n-1-i
def un(K:Nat)(right:Bool)(q:Ys)(l:List aF):Nat->Ys×List aF
 |0=>(q,l)
 |i+1=>GU K (jx right l.length i) (un K right q l i)
def GV(K:Nat)(right:Bool)(q:Ys)(l:List aF):∀i,(un K right q l i).2.length=l.length
 |0=>rfl
 |i+1=>by show(List.set _ _ _).length=_;rw[xM,GV K right q l i]
def VW{α:Type}(l:List α)(j e:Nat)(z d:α)(a:j<l.length):(l.set j z).getD e d=if e=j then z else l.getD e d:=by
 rw[wh,wh];by_cases c:e=j
 .subst c;rw[wl rfl,wP a];rfl
 .rw[we c,wV (λh=>c h.symm)]
def VX(K:Nat)(right:Bool)(q:Ys)(l:List aF)(j:Nat)(d:j<l.length):∀i,i<=l.length->(∀k,k<i->jx right l.length k≠j)->(un K right q l i).2.getD j be=l.getD j be
 |0,_,_=>rfl
 |i+1,g,h=>by
  have a:=VX K right q l j d i ae λk f=>h k ae;show(List.set _ _ _).getD j be=_;have hx:jx right l.length i<(un K right q l i).2.length:=by rw[GV];unfold jx;cases right<;>simp<;>omega
  rw[VW _ _ _ _ _ hx,we (λe=>h i ae e.symm)];exact a
def PJ(K:Nat)(right:Bool)(q:Ys)(l:List aF)(B:Nat):∀i,gP q K (B+i)->gP (un K right q l i).1 K B
 |0,h=>h
 |i+1,h=>by
  have:=PJ K right q l (B+1) i (by rw[show B+1+i=B+(i+1) by omega];exact h);exact this.loop _ _
def VY(v:Nat->Nat)(K i:Nat):aB (aB v K (v K+i)) K (aB v K (v K+i) K+1)=aB v K (v K+(i+1)):=funext λe=>by
 unfold aB;by_cases c:e=K
 .rw[wl c,wl c,wl rfl];omega
 .rw[we c,we c,we c]
def LN(v:Nat->Nat)(K:Nat):aB v K (v K+0)=v:=funext λe=>by
 unfold aB;by_cases c:e=K
 .rw[wl c,c];rfl
 .rw[we c]
def ya{α:Type}{l:List α}{d:α}{i:Nat}(h:i<l.length):l.getD i d∈l:=by
 rw[wh,wj h];exact List.getElem_mem h
def qoq(q:Ys)(x:Wx)(hx:x.Im)(v:Nat->Nat)(r:Rw)(hr:r.n<=16)(K:Nat)(P:K<6)(s:ao)(hy:s.y=ofNat K+1)(h3:s.k≠3)(h6:s.k≠6)(h7:s.k≠7)(right:Bool)(k:Nat)(u:k<16)(gn:gP q K ((r.sl k).length+1))(hb:(r.sl k).length<=r.bn k)
 (hl:∀a∈r.sl k,a.l≠[]/\a.l.length<=1000) :
 aR aw G17 120 [p0,.agg s.c,.own (10+k) (r.vs k) 0 (r.sl k).length none,iI (rI right)] (q.hw x v (r.h [])) (.own (10+k) (r.vs k) 0 (r.sl k).length none)
  ((un K right q (r.sl k) (r.sl k).length).1.hw x (aB v K (v K+(r.sl k).length)) ((r.gv k (un K right q (r.sl k) (r.sl k).length).2).h [])):=by
 obtain⟨w,hw⟩:=YM aw G17 80
 let H:qa:=q.hw x v (r.h [])
 have run:=λ{p l vs h B S h1 e} (k:cD 120 p l vs h B=some (e,S,h1))=>cf H k
 let n:=(r.sl k).length
 let t:T:=.own (10+k) (r.vs k) 0 n none
 let d:T:=iI (rI right)
 have hn:n<1000000:=by have:=gn.2.2.1;have:=gn.2.1;show(r.sl k).length<_;omega
 have p1:=run (LH s p0 t d H);have N:=run (LI s p0 t d H);rw[LK gn P hy] at N;have p3:=run ((LJ s p0 t d (yK K) H).trans (qF (hZ h3) rfl));have p4:=run (PB p0 t d (.ah s.c) (yK K) (.bool false) H);have p5:=run ((Py s p0 t d (yK K) H).trans (qF (hZ h6) rfl));have p6:=run (VH p0 t d (.ah s.c) (yK K) (.bool false) H);have p7:=run ((VF s p0 t d (yK K) H).trans (qF (hZ h7) rfl));have p8:=run (quj p0 t d (yK K) (.bool false) H);have p9:=run (qub p0 t d (yK K) H)
 let V:Nat->JO:=λi=>[p0,t,d,yK K,iI (ofNat i)]
 let st:Nat->Ys×List aF:=un K right q (r.sl k)
 let f:Nat->qa:=λi=>(st i).1.hw x (aB v K (v K+i)) ((r.gv k (st i).2).h [])
 have g:∀i,f i=Hg (gq (st i).1 x (aB v K (v K+i))) r.out (fX r.row k (ie (r.vs k) (r.bn k) (st i).2)) []:=λi=>PF _ x _ (GV K right q (r.sl k) i) [];have e0:f 0=H:=by
  show q.hw x (aB v K (v K+0)) ((r.gv k (r.sl k)).h [])=_;rw[LN];have:r.gv k (r.sl k)=r:=by
   unfold Rw.gv;have e:aB r.sl k (r.sl k)=r.sl:=funext λe=>by
    unfold aB;by_cases c:e=k
    .rw[wl c,c]
    .rw[we c]
   rw[e]
  rw[this]
 have round:∀i,i<n->Pq 120 H [0,0,2,1,2,2,2,2,2] [0,2,3,9,10] (V i) (f i) .normal [0,2,3,9,10] (V (i+1)) (f (i+1)):=by
  intro i hi
  let j:=jx right n i
  have C:j<n:=by show jx right n i<n;unfold jx;cases right<;>simp<;>omega
  have hz:(st i).2.getD j be=(r.sl k).getD j be:=VX K right q (r.sl k) j C i (by show i<=n;omega) λm o e=>by
   have e:jx right n m=jx right n i:=e;unfold jx at e;cases right with
   |true=>have e:m=i:=e;omega
   |false=>have e:n-1-m=n-1-i:=e;omega
  have o:(st i).2.getD j be∈r.sl k:=by rw[hz];exact ya C
  obtain⟨U,O⟩:=hl _ o;have li:gP (st i).1 K 1:=PJ K right q (r.sl k) 1 i (gn.mono (by show 1+i<=(r.sl k).length+1;have:i<(r.sl k).length:=hi;omega));obtain⟨B,l2,l3,l4,l5⟩:=li
  let z:=(st i).2.getD j be
  have O:z.l.length<=1000:=O;have E:aR aw G17 80 [p0,yK K,uI z.b,aX z.l] (f i) (.agg [uI (ofNat K+1),iI ((st i).1.Y K).ct]) (((st i).1.loop K z.b z.l).hw x (aB (aB v K (v K+i)) K (aB v K (v K+i) K+1)) ((r.gv k (st i).2).h [])) :=
   VE (st i).1 x hx (aB v K (v K+i)) (r.gv k (st i).2) hr K z.b P z.l (aX z.l) (.inr ⟨U,rfl⟩) B l2 ae ae ae ae
  rw[VY,g,PF _ x _ (GV K right q (r.sl k) i)] at E;have Z:=run ((quk p0 d (yK K) (gq (st i).1 x (aB v K (v K+i))) r.out r.row k u (r.vs k) (r.bn k) n i (st i).2 []).trans (qk au (qk (wq bH) rfl)));have M:=run (quh p0 t d (yK K) (ofNat i) (f i));rw[g] at M;have J:Pq 120 H [1,2,0,1,2,0,0,2,1,2,2,2,2,2] [0,2,3,9,10,11] [p0,t,d,yK K,iI (ofNat i),iI (ofNat i)] (f i) .normal [0,2,3,9,10,11] [p0,t,d,yK K,iI (ofNat i),iI (ofNat j)] (f i):=by
   have q7:=qul p0 (yK K) (rI right) (ofNat i) (ofNat i) (gq (st i).1 x (aB v K (v K+i))) r.out r.row k u (r.vs k) (r.bn k) n (st i).2 [];rw[g];show Pq 120 H _ _ _ _ _ _ [p0,t,d,yK K,iI (ofNat i),iI (ofNat (jx right n i))] _;cases right with
   |true=>exact run (q7.trans (qF (by simp[rI]) rfl))
   |false =>
    have ej:i64.wrap (i64.wrap (ofNat n-1)-ofNat i)=ofNat (jx false n i):=by
     rw[Qp (x:=ofNat n-1) bH bH,Qp bH bH];show _=ofNat (n-1-i);simp only[wu];omega
    rw[ej] at q7;exact run (q7.trans (qk (by simp[rI]) (qk au rfl)))
  rw[g] at J;have D:dj j n=true:=by unfold dj;simp only[wu,wg,wC];omega
  have cb:(0+j).blt (r.bn k)=true:=qL (by have:n<=r.bn k:=hb;omega);have Q:(st i).2.getD (0+j) be=z:=by rw[wn]
  have X:Pq 120 H [2,2,0,1,2,0,0,2,1,2,2,2,2,2] [0,2,3,9,10,11] [p0,t,d,yK K,iI (ofNat i),iI (ofNat j)] (Hg (gq (st i).1 x (aB v K (v K+i))) r.out (fX r.row k (ie (r.vs k) (r.bn k) (st i).2)) []) .normal [0,2,3,9,10] [p0,t,d,yK K,iI (ofNat i)] (f (i+1)):=by
   have R:=quc w (gq (st i).1 x (aB v K (v K+i))) (gq (st (i+1)).1 x (aB v K (v K+(i+1)))) r.out r.row k u (r.vs k) (r.bn k) n j (st i).2 (ofNat K+1) (ofNat K+1) ((st i).1.Y K).ct (rI right) (ofNat i);rw[Q] at R;refine Pz.post (eD (qC (qC qp (zg hw)) (λ_ _ _ _ h=>(by cases h))) H
    (R.trans (qk au (qk D (qk au (qk au (qk cb (qk au (qk D (qk au (qk au (qk cb (qk (zM hw E) (qk au (qk D (qk au (qk au (qk (by rw[cb];rfl) rfl)))))))))))))))))) λnt=>?_
   rw[g];refine .sl (.refl _) (VV _ _ _ _ _ _ _ ⟨rfl,rfl,rfl⟩ rfl rfl λe he=>?_);show dY [uI (bif e==0+j then((st i).2.getD (0+j) be).b else((st i).2.getD e be).b),bif e==0+j then .view 2 1 (λj=>[[uI (ofNat K+1),iI ((st i).1.Y K).ct]].getD j []) (some 1) else aX ((st i).2.getD e be).l] (((st i).2.set j ⟨z.b,[lK (st i).1 K]⟩).getD e be).c;rw[VW _ _ _ _ _ (by rw[GV];exact C),Q,wn];by_cases c:e=j
   .rw[wl c,show(e==j)=true by simpa using c];refine .Ue (.cons (.view (.inr rfl) λm o=>?_) .nil);obtain rfl:m=0:=vL.1 o;exact .refl _
   .rw[we c,show(e==j)=false by simpa using c];exact .refl _
  have I:=run (qui p0 t d (yK K) i (f (i+1)));rw[il ae] at I;rw[g i];exact av Z (av (fi 1 (av M (av J X))) I)
 have last:=run ((qrD p0 d (yK K) (gq (st n).1 x (aB v K (v K+n))) r.out r.row k u (r.vs k) (r.bn k) n n (st n).2 []).trans (qk au (qF (hZ bH) rfl)));rw[←g] at last;have lp:Pq 120 H [0,2,1,2,2,2,2,2] [0,2,3,9,10] (V 0) (f 0) (.exit 0) [2] [t] (f n):=Pz.count qh V f (n:=n) au round (lk last);rw[e0] at lp;have W:=run (qug (10+k) (r.vs k) n (f n));exact Pz.fI (A:=az) Qn Tryz.func120 qh qh (l:=[0,1,2,3]) rfl
  (av p1 (av N (av (av p3 (Pz.fc 17 qh rfl p4))
   (av (av p5 (Pz.fc 26 qh rfl p6)) (av (av p7 (Pz.fc 44 qh rfl p8))
    (av (av p9 (fi 0 lp)) W)))))) rfl
def ov1(a b c d e f:T)(H:qa):cD 83 [1] [0,1,2,3,4,5] [a,b,c,d,e,f] H [0,1,2,3,4,5,12] =
( zN [a,b,c,d,e,f,iI 0] H):=qh
def ov2(G:Nat->ao)(a c d e f:T)(n i:Nat)(H:qa):cD 83 [1,0,0,2] [0,1,2,3,4,5,12] [a,aU G n none,c,d,e,f,iI (ofNat i)] H [0,1,2,3,4,5,12] =
( bif decide (ofNat i<ofNat n) then zN [a,cF G n
 none,c,d,e,f,iI (.ofNat i)] H else
 zX 0 [a,cF G n
 none,c,d,e,f,iI (.ofNat i)] H):=qh
def qup(G:Nat->ao)(a c d e f:T)(n i:Nat)(H:qa):cD 83 [1,0,0,2] [0,1,2,3,4,5,12] [a,aU G n none,c,d,e,f,iI (ofNat i)] H [] =
( bif decide (ofNat i<ofNat n) then zN [] H else
 zX 0 [] H):=qh
def ov3(a b c d e f:T)(i:Int)(H:qa):cD 83 [1,0,1,2,0,0,2] [0,1,2,3,4,5,12] [a,b,c,d,e,f,iI i] H [0,1,2,3,4,5,12,13] =
( zN [a,b,c,d,e,f,iI i,iI i] H):=qh
def ov4(G:Nat->ao)(a c d f:T)(n:Nat)(e i j:Int)(H:qa):cD 83 [1,2,0,1,2,0,0,2] [0,1,2,3,4,5,12,13] [a,aU G n none,c,d,iI e,f,iI i,iI j] H [0,1,2,3,4,5,12,13] =
( bif decide (e=0) then zN [a,cF G n
 none,c,d,iI e,f,iI i,iI (i64.wrap (i64.wrap (ofNat n-1)-i))] H else
 zN [a,cF G n
 none,c,d,iI e,f,iI i,iI j] H):=qh
def ov6(a l:T)(G:Nat->ao)(d i y wk:Int)(j n:Nat)(H:qa):cD 83 [1,1,2,2,0,1,2,0,0,2] [0,1,2,3,4,5,12,13] [a,aU G n none,l,iI y,iI d,iI wk,iI i,iI (ofNat j)] H [0,1,2,3,4,5,12,13,41] =
( bif decide (wk=1) then gD (decide (0<=ofNat j)&&decide (ofNat j<ofNat n))<|bif decide (i64.wrap (G j).y=y) then zN [a,cF G n
 none,l,iI y,iI d,iI wk,iI i,iI (.ofNat j),.bool true] H else
 zN [a,cF G n
 none,l,iI y,iI d,iI wk,iI i,iI (.ofNat j),.bool false] H else
 zN [a,cF G n
 none,l,iI y,iI d,iI wk,iI i,iI (.ofNat j),.bool false] H):=qh
def quq(a b c d e f g:T)(H:qa):cD 83 [2,3,2,1,2,2,0,1,2,0,0,2] [0,1,2,3,4,5,12] [a,b,c,d,e,f,g] H [0,1,2,3,4,5,12] =
( zX 1 [a,b,c,d,e,f,g] H):=qh
def qur(a b c d e f g h i:T)(H:qa):cD 83 [4,2,1,2,2,0,1,2,0,0,2] [0,1,2,3,4,5,12,13,41] [a,b,c,d,e,f,g,h,i] H [0,1,2,3,4,5,12,13] =
( zN [a,b,c,d,e,f,g,h] H):=qh
def ov8(a b c d e f g h:T)(H:qa):cD 83 [1,2,2,2,0,1,2,0,0,2] [0,1,2,3,4,5,12,13] [a,b,c,d,e,f,g,h] H [0,1,2,3,4,5,12,13,14] =
( zN [a,b,c,d,e,f,g,h,iI 0] H):=qh
def qus(a b c d e f g h:T)(i:Int)(H:qa):cD 83 [1,0,1,2,0,0,2,2,2,2,0,1,2,0,0,2] [0,1,2,3,4,5,12,13,14] [a,b,c,d,e,f,g,h,iI i] H [0,1,2,3,4,5,12,13,14,15] =
( zN [a,b,c,d,e,f,g,h,iI i,iI i] H):=qh
def qut(a b c d e f g h:T)(i:Nat)(H:qa):cD 83 [2,2,0,0,2,2,2,2,0,1,2,0,0,2] [0,1,2,3,4,5,12,13,14] [a,b,c,d,e,f,g,h,iI (ofNat i)] H [0,1,2,3,4,5,12,13,14] =
( zN [a,b,c,d,e,f,g,h,iI (i64.wrap (ofNat i+1))] H):=qh
def quu(a b c d e f:T)(i:Nat)(H:qa):cD 83 [2,2,0,0,2] [0,1,2,3,4,5,12] [a,b,c,d,e,f,iI (ofNat i)] H [0,1,2,3,4,5,12] =
( zN [a,b,c,d,e,f,iI (i64.wrap (ofNat i+1))] H):=qh
def ou(o n:Nat)(vs a:Nat->Nat):aq:=.mk o 1 n (λj=>[.own (10+j) (vs j) 0 (a j) none]) false false none
def oL(o n:Nat):T:=.own 9 o 0 n none
def ov9(a b e y wk:T)(i j k:Nat)(s:k<16)(g:Nat->aq)(f:Nat->aq)(o n:Nat)(vs d:Nat->Nat)(r:Nat)(sl:List aF) :
 cD 83 [1,0,0,2,2,2,2,0,1,2,0,0,2] [0,1,2,3,4,5,12,13,14] [a,b,oL o n,y,e,wk,iI (ofNat i),iI (ofNat k),iI (ofNat j)] (Hg g (ou o n vs d) (fX f k (ie (vs k) r sl)) []) [0,1,2,3,4,5,12,13,14] =
 (bif o==o&&true then bif dj k n then bif o==o&&true then bif k.blt n then bif vs k==vs k&&true then
  bif decide (ofNat j<ofNat (d k)) then some (.normal,[a,b,oL o n,y,e,wk,iI (ofNat i),iI (ofNat k),iI (ofNat j)],Hg g (ou o n vs d) (fX f k (ie (vs k) r sl)) [])
  else some (.exit 2,[a,b,oL o n,y,e,wk,iI (ofNat i),iI (ofNat k),iI (ofNat j)],Hg g (ou o n vs d) (fX f k (ie (vs k) r sl)) []) else none else none else none else none else none):=by
 cases qW s
 all_goals kernel_rfl
def quv(a b e y wk:T)(i j k:Nat)(s:k<16)(g:Nat->aq)(f:Nat->aq)(o n:Nat)(vs d:Nat->Nat)(r:Nat)(sl:List aF) :
 cD 83 [1,0,0,2,2,2,2,0,1,2,0,0,2] [0,1,2,3,4,5,12,13,14] [a,b,oL o n,y,e,wk,iI (ofNat i),iI (ofNat k),iI (ofNat j)] (Hg g (ou o n vs d) (fX f k (ie (vs k) r sl)) []) [0,1,2,3,4,5,12] =
 (bif o==o&&true then bif dj k n then bif o==o&&true then bif k.blt n then bif vs k==vs k&&true then
  bif decide (ofNat j<ofNat (d k)) then some (.normal,[a,b,oL o n,y,e,wk,iI (ofNat i)],Hg g (ou o n vs d) (fX f k (ie (vs k) r sl)) [])
  else some (.exit 2,[a,b,oL o n,y,e,wk,iI (ofNat i)],Hg g (ou o n vs d) (fX f k (ie (vs k) r sl)) []) else none else none else none else none else none):=by
 cases qW s
 all_goals kernel_rfl
def quw(a b y wk:T)(d i j m:Int)(k:Nat)(s:k<16)(g:Nat->aq)(f:Nat->aq)(o n:Nat)(vs e:Nat->Nat)(r:Nat)(sl:List aF) :
 cD 83 [1,2,0,1,2,0,0,2,2,2,2,0,1,2,0,0,2] [0,1,2,3,4,5,12,13,14,15] [a,b,oL o n,y,iI d,wk,iI i,iI (ofNat k),iI j,iI m] (Hg g (ou o n vs e) (fX f k (ie (vs k) r sl)) []) [0,1,2,3,4,5,12,13,14,15] =
 (bif decide (d=0) then bif o==o&&true then bif dj k n then bif o==o&&true then bif k.blt n then bif vs k==vs k&&true then
  some (.normal,[a,b,oL o n,y,iI d,wk,iI i,iI (ofNat k),iI j,iI (i64.wrap (i64.wrap (ofNat (e k)-1)-j))],Hg g (ou o n vs e) (fX f k (ie (vs k) r sl)) [])
  else none else none else none else none else none
  else some (.normal,[a,b,oL o n,y,iI d,wk,iI i,iI (ofNat k),iI j,iI m],Hg g (ou o n vs e) (fX f k (ie (vs k) r sl)) [])):=by
 cases qW s
 all_goals kernel_rfl
def LO(k o n:Nat)(v1 v2:Nat)(x:Option (Ex×JO×qa)):Option (Ex×JO×qa):=bif o==o&&true then bif dj k n then bif o==o&&true then bif k.blt n then x else none else none else none else none
def PK{k o n v1 v2:Nat}{x r:Option (Ex×JO×qa)}(h:k<n)(e:x=r):LO k o n v1 v2 x=r:=by
 unfold LO dj;rw[e,wF,qL h];simp only[wu,Bool.and_true,wm];rw[wq ae,wq ae];rfl
def qux(p q:JO->T->Prop)(x:Wx)(Y:Nat->b6)(g:Nat->aq)(f:Nat->aq)(k:Nat)(r:k<16)(o n K wk i j m M:Nat)(a:Int)(G:Nat->ao)(vs d:Nat->Nat)(e:Nat)(sl:List aF)(l1 l2:List bw) :
 cK (VG p q (lV l1) (lV l2)) 83 [2,2,0,1,2,0,0,2,2,2,2,0,1,2,0,0,2] [0,1,2,3,4,5,12,13,14,15] [p0,aU G M none,oL o n,yK K,iI a,iI (ofNat wk),iI (ofNat i),iI (ofNat k),iI (ofNat j),iI (ofNat m)] (Hy x (yB Y) g (ou o n vs d) (fX f k (ie (vs k) e sl)) []) [0,1,2,3,4,5,12,13,14] =
 (bif decide (0<=yD K)&&decide (yD K<6) then bif (ot K).blt 6 then LO k o n (vs k) (vs k) (bif vs k==vs k&&true then bif dj m (d k) then bif vs k==vs k&&true then bif (0+m).blt e then
  bif qM (p [.agg (sl.getD (0+m) be).c,iI a] (lV l1)) then bif qM (q [cH (Y (ot K)).pe (Y (ot K)).np none,lV l1] (.new (lV l2))) then
  bif decide (0<=yD K)&&decide (yD K<6) then bif (ot K).blt 6&&true&&true&&true then
  some (.normal,[p0,aU G M none,oL o n,yK K,iI a,iI (ofNat wk),iI (ofNat i),iI (ofNat k),iI (ofNat j)],Hy x (yG Y (ot K) [.bool (Y (ot K)).i,iI (Y (ot K)).pl,iI (Y (ot K)).ct,.bool (Y (ot K)).w,lV l2]) g (ou o n vs d) (fX f k (ie (vs k) e sl)) [])
  else none else none else none else none else none else none else none else none) else none else none):=by
 cases qW r
 all_goals kernel_rfl
def LP(o n k:Nat)(vs a:Nat->Nat)(c:T):aq:=.mk o 1 n (λe=>[bif e==k then c else .own (10+e) (vs e) 0 (a e) none]) false false none
def V0(w:JO->qa->T->qa->Prop)(g g':Nat->aq)(f e:Nat->aq)(k:Nat)(j:k<16)(o n M:Nat)(d y i wk:Int)(G:Nat->ao)(vs a:Nat->Nat)(c:T)(z:qa)(r:c = .own (10+k) (vs k) 0 (a k) none/\z=[]∨c = .own 26 0 0 1 none/\∃b,z=[b]) :
 cK (qv.cE 120 (jo w λ_ _=>some (c,Hg g' (ou o n vs a) e z))) 83 [1,3,2,1,2,2,0,1,2,0,0,2] [0,1,2,3,4,5,12,13] [p0,aU G M none,oL o n,iI y,iI d,iI wk,iI i,iI (ofNat k)] (Hg g (ou o n vs a) f []) [0,1,2,3,4,5,12] =
 (bif dj k M then LO k o n (vs k) (vs k) (bif qM (w [p0,(G k).t,.own (10+k) (vs k) 0 (a k) none,iI d] (Hg g (ou o n vs a) f []) c (Hg g' (ou o n vs a) e z)) then
  bif o==o&&true then bif dj k n then bif o==o&&true then bif k.blt n&&true&&true&&true then
  some (.normal,[p0,aU G M none,oL o n,iI y,iI d,iI wk,iI i],Hg g' (LP o n k vs a c) e z) else none else none else none else none else none) else none):=by
 rcases r with⟨rfl,rfl⟩|⟨rfl,b,rfl⟩
 all_goals
  cases qW j
  all_goals kernel_rfl
def GW(i j:Nat):aq:=⟨0,7,1,λ_=>[.ag,.own i 0 0 6 (some 6),.own j 0 0 6 (some 6),.ag,.ag,.ag,uI 0],false,false,none⟩
def V1:aq:=⟨0,7,1,λ_=>[.ag,.own 1 0 0 6 none,.own 2 0 0 6 none,.ag,.ag,.ag,uI 0],false,false,none⟩
def oU(i j m:Nat):aq:=bif m==i then Bs else bif m==j then CC else GW i j
def qor(i j k:Nat):ak [sN i j k 0,sN i j k 1,sN i j k 2] [oU i j 0,oU i j 1,oU i j 2]:=by
 have key:∀m,(oU i j m).mp=(sN i j k m).mp/\(oU i j m).aj=(sN i j k m).aj/\(oU i j m).sz=(sN i j k m).sz/\(oU i j m).n=(sN i j k m).n/\(oU i j m).flat=(sN i j k m).flat/\∀e,e<(sN i j k m).n->(oU i j m).get e=(sN i j k m).get e:=λm=>by
  unfold sN oU;cases m==i with
  |true=>exact⟨rfl,rfl,rfl,rfl,rfl,λ_ _=>rfl⟩
  |false=>cases m==j with
   |true=>exact⟨rfl,rfl,rfl,rfl,rfl,λ_ _=>rfl⟩
   |false=>exact⟨rfl,rfl,rfl,rfl,rfl,λe he=>by
    have he:e<1:=he;obtain rfl:e=0:=by omega
    rfl⟩
 have step:∀m {h a:qa},ak h a->ak (sN i j k m::h) (oU i j m::a):=λm _ _ s=>by
  obtain⟨r,o,k3,g,f,d⟩:=key m;exact .cons ⟨o,k3,g,(λh=>by rw[←f];exact h),d⟩ s r
 exact step 0 (step 1 (step 2 .nil))
def ET{aa:Wa}{nt:Nat}{l:Wa}(y n:Int){i j k:Nat}(d:zn 0 [k,i,j] [oU i j 0,oU i j 1,oU i j 2]=true)(a:(EL y n k).map (mV [k,i,j] [oU i j 0,oU i j 1,oU i j 2])=EL y n 0)(e:td [k,i,j] [oU i j 0,oU i j 1,oU i j 2]=[GW 1 2,Bs,CC]) :
 am G17 aa nt l 0 (oc y n i j k).1 (oc y n i j k).2 (EL y n 0) [GW 1 2,Bs,CC] :=
 .trans (.same (qor i j k)) (am.bZ [k,i,j] d a e (.refl _))
def Qk(K:Nat):Nat->Ys
 |0=>Q0.dz K ⟨true,179,0,true,[]⟩
 |i+1=>(Qk K i).loop K 0 []
def jT(K e:Nat):∀i,(Qk K i).Y e=if e=K then ⟨true,179,(i:Int),decide (i=0),[]⟩ else yz
 |0=>by
  show aB (λ_=>yz) K ⟨true,179,0,true,[]⟩ e=_;unfold aB;by_cases c:e=K
  .rw[wl c,wl c];rfl
  .rw[we c,we c]
 |i+1=>by
  show aB (Qk K i).Y K ((Qk K i).Y K).next e=_
  unfold aB;rw[jT K e i,jT K K i];by_cases c:e=K
  .rw[wl c,wl c,wl rfl,Yn.next];simp
  .rw[we c,we c,we c]
def LQ(K e:Nat):∀i,(Qk K i).tb e=(yY K i).tb e
 |0=>rfl
 |i+1=>by
  show aB (Qk K i).tb K ((Qk K i).tb K++[((Qk K i).Y K).lp 0 []]) e=aB (yY K i).tb K ((yY K i).tb K++[((yY K i).Y K).lp 0 []]) e;unfold aB;by_cases c:e=K
  .rw[wl c,wl c,LQ K K i,jT K K i,jS K K i,wl rfl,wl rfl];rfl
  .rw[we c,we c,LQ K e i]
def V2(K n:Nat):Qk K n=(KM K n).q:=by
 have f:(Qk K n).tb=(KM K n).q.tb:=funext λe=>LQ K e n;have d:(Qk K n).Y=(KM K n).q.Y:=funext λe=>by
  show _=aB (yY K n).Y K (((yY K n).Y K).go 179 []) e;rw[jT];unfold aB;by_cases c:e=K
  .rw[wl c,wl c,jS K K n,wl rfl];rfl
  .rw[we c,we c,jS K e n,we c]
 cases h:Qk K n;cases a:(KM K n).q;rw[h,a] at f d;simp_all
def ZA(K i:Nat):aq:=bW i i λe=>[uI 0,aX [nm K e]]
def lN(K:Nat):Nat->Nat->Nat:=λi e=>if e=K then i else 0
def quy(K i:Nat):aB (lN K i) K (lN K i K+1)=lN K (i+1):=funext λe=>by
 show(if e=K then(if K=K then i else 0)+1 else if e=K then i else 0)=if e=K then i+1 else 0;by_cases c:e=K
 .rw[wl c,wl c,wl rfl]
 .rw[we c,we c,we c]
def quz(y n:Int):Pq 44 [] [1,2] [0,1,4] [uI y,iI n,.ah bL] [] .normal [0,1,4,5] [uI y,iI n,.ah bL,p0] (Q0.hw (x9 0) (λ_=>0) [bW 0 0 λ_=>[]]):=by
 have p:=Pz.any (P:=aw) (G:=G17) (A:=az) (f:=44) (h0:=[]) (p:=[1,2]) qY qp qh (qrp y n) (v2:=EL y n 0) (h2:=[GW 1 2,Bs,CC]) λo s nt=>by
  have E:=λnt=>ET (aa:=(az 44).aa) (nt:=nt) (l:=[0,1,4,5]) y n (i:=0) (j:=1) (k:=2) rfl rfl rfl;have u:=λnt=>ET (aa:=(az 44).aa) (nt:=nt) (l:=[0,1,4,5]) y n (i:=0) (j:=2) (k:=1) rfl rfl rfl;have D:=λnt=>ET (aa:=(az 44).aa) (nt:=nt) (l:=[0,1,4,5]) y n (i:=1) (j:=0) (k:=2) rfl rfl rfl;have C:=λnt=>ET (aa:=(az 44).aa) (nt:=nt) (l:=[0,1,4,5]) y n (i:=1) (j:=2) (k:=0) rfl rfl rfl;have B:=λnt=>ET (aa:=(az 44).aa) (nt:=nt) (l:=[0,1,4,5]) y n (i:=2) (j:=0) (k:=1) rfl rfl rfl;have z:=λnt=>ET (aa:=(az 44).aa) (nt:=nt) (l:=[0,1,4,5]) y n (i:=2) (j:=1) (k:=0) rfl rfl rfl;have x:o=oc y n 0 1 2∨o=oc y n 0 2 1∨o=oc y n 1 0 2∨o=oc y n 1 2 0∨o=oc y n 2 0 1∨o=oc y n 2 1 0:=by
   unfold Vs at s;simp only[wK,xa,or_false] at s;rcases s with h|h|h|h|h|h|h|h|h|h|h|h|h|h|h<;>simp[h]
  rcases x with rfl|rfl|rfl|rfl|rfl|rfl
  .exact E nt
  .exact u nt
  .exact D nt
  .exact C nt
  .exact B nt
  .exact z nt
 refine Pz.post p λnt=>?_;refine .trans (h1:=[V1,Bs,CC]) (fA:=EL y n 0) (am.sO (dG.one (p:=[]) (q:=[Bs,CC]) (b:=GW 1 2) (b2:=V1) ⟨rfl,rfl,rfl,rfl⟩ rfl λj g=>⟨rfl,λo c u h1 d=>?_⟩)) ?_
 .match o,h1,d with
  |0,h1,d=>obtain rfl:=wa h1;obtain rfl:=wa d;exact .inl rfl
  |1,h1,d=>obtain rfl:=wa h1;obtain rfl:=wa d;exact .inr ⟨1,0,0,6,6,Bs,rfl,rfl,rfl,wc _⟩
  |2,h1,d=>obtain rfl:=wa h1;obtain rfl:=wa d;exact .inr ⟨2,0,0,6,6,CC,rfl,rfl,rfl,wc _⟩
  |3,h1,d=>obtain rfl:=wa h1;obtain rfl:=wa d;exact .inl rfl
  |4,h1,d=>obtain rfl:=wa h1;obtain rfl:=wa d;exact .inl rfl
  |5,h1,d=>obtain rfl:=wa h1;obtain rfl:=wa d;exact .inl rfl
  |6,h1,d=>obtain rfl:=wa h1;obtain rfl:=wa d;exact .inl rfl
  |o+7,h1,_=>cases h1
 refine .trans (am.gh (dE:=[uI y,iI n,.ah bL,p0]) (h2:=wB (x9 0)::Bs::tB (λ_=>0) (λ_=>0)::((List.range 6).map (rB (λ_=>0) (λ_=>0) (λ_ _=>eG.l))++[bW 0 0 λ_=>[]])) ((List.range 6).map (rB (λ_=>0) (λ_=>0) (λ_ _=>eG.l))++[bW 0 0 λ_=>[]]) (λb r=>by
  rcases wS.1 r with r|r
  .obtain⟨j,_,rfl⟩:=vb.1 r;exact⟨rfl,rfl⟩
  .obtain rfl:=wM.1 r;exact⟨rfl,rfl⟩) (.Ue (.Ue (.Ue (.Ue .nil))))
  (.I0 ⟨rfl,rfl,rfl,rfl⟩ rfl (λj g=>?_) (.same _ (.I0 ⟨rfl,rfl,rfl,rfl⟩ rfl (λj g=>?_) (.refl _))))) ?_
 .have g:j<1:=g;obtain rfl:j=0:=by omega
  exact .cons (.own (k:=9) (b:=bW 0 0 λ_=>[]) (by show 3<=9;omega) rfl rfl) (.refl _)
 .have g:j<6:=g;refine .cons (.own (k:=3+j) (b:=rB (λ_=>0) (λ_=>0) (λ_ _=>eG.l) j) (by show 3<=_;omega) ?_ rfl) (.refl _);cases zy g
  all_goals rfl
 .exact .mJ rfl (λi a b h1 d=>by obtain rfl:=wa (h1.symm.trans d);exact .refl _) (.cons ⟨rfl,rfl,rfl⟩ (λh=>(by cases h)) (λ_ _=>.refl _) (.cons ⟨rfl,rfl,rfl⟩ (λh=>(by cases h)) (λe he=>.Ue (.Ue (.Ue (.Ue (.cons (.fG _ _ (.inl rfl)) .nil))))) (.refl _)))
def qmO{K:Nat}(J:K<6){n i:Nat}(I:i<16)(H:i<n)(E:n<=100):Pq 44 [] [0,0,2,1,2,2,2] [0,1,4,5,6] (tD (ofNat K+1) n i) ((Qk K i).hw (x9 i) (lN K i) [ZA K i]) .normal [0,1,4,5,6] (tD (ofNat K+1) n (i+1)) ((Qk K (i+1)).hw (x9 (i+1)) (lN K (i+1)) [ZA K (i+1)]):=by
 obtain⟨w,hw⟩:=YM aw G17 80;have d:=jT K K i;rw[wl rfl] at d;have k:=Pm (Qk K i) (x9 i) (lN K i) [ZA K i] K 0 J (by rw[d]) (by rw[d]) (by rw[d];show(0:Int)<=i;omega) (by rw[d];show(i:Int)<1000000;omega) (by rw[LQ,jw,wl rfl];simp;omega);rw[quy,d] at k;have k:aR aw G17 80 [p0,yK K,uI 0,.ag] ((Qk K i).hw (x9 i) (lN K i) [ZA K i]) (.agg [uI (ofNat K+1),iI (ofNat i)]) ((Qk K (i+1)).hw (x9 i) (lN K (i+1)) [ZA K i]):=k;have M:i64.wrap (ofNat K+1)=ofNat K+1:=Qp bH bH;have C:=cf [] ((Vu (ofNat K+1) n i ((Qk K i).hw (x9 i) (lN K i) [ZA K i])).trans (qk (by simpa using H) rfl));have B:=cf [] (qrr (ofNat K+1) n i ((Qk K i).hw (x9 i) (lN K i) [ZA K i]));have r:=qtY w (Qk K i) (Qk K (i+1)) (lN K i) (lN K (i+1)) (λe=>[uI 0,aX [nm K e]]) (ofNat K+1) n i I;rw[M] at r;have r:=r.trans (Vt (zM hw k) _ 10);have z:=Pz.any (P:=aw) (G:=G17) (A:=az) (f:=44) (h0:=[]) (p:=[0,1,2,0,0,2,1,2,2,2]) qY (qC (qC qp (zg hw)) (λ_ _ _ _ h=>(by cases h))) qh r (v2:=tD (ofNat K+1) n i) (h2:=(Qk K (i+1)).hw (x9 (i+1)) (lN K (i+1)) [ZA K (i+1)]) λo D nt=>by
  obtain⟨_,rfl⟩:=List.mem_replicate.1 D;refine .mJ rfl (λi a b h1 u=>by obtain rfl:=wa (h1.symm.trans u);exact .refl _) (.cons ⟨rfl,rfl,rfl⟩ (λh=>(by cases h)) (λj g=>?_) (.cons ⟨rfl,rfl,rfl⟩ (λh=>(by cases h)) (λ_ _=>.refl _) (.cons ⟨rfl,rfl,rfl⟩ (λh=>(by cases h)) (λ_ _=>.refl _) (.cons ⟨rfl,rfl,rfl⟩ (λh=>(by cases h)) (λ_ _=>.refl _) (.cons ⟨rfl,rfl,rfl⟩ (λh=>(by cases h)) (λ_ _=>.refl _) (.cons ⟨rfl,rfl,rfl⟩ (λh=>(by cases h)) (λ_ _=>.refl _) (.cons ⟨rfl,rfl,rfl⟩ (λh=>(by cases h)) (λ_ _=>.refl _) (.cons ⟨rfl,rfl,rfl⟩ (λh=>(by cases h)) (λ_ _=>.refl _) (.cons ⟨rfl,rfl,rfl⟩ (λh=>(by cases h)) (λ_ _=>.refl _) (.cons ⟨rfl,rfl,rfl⟩ (λh=>(by cases h)) (λe he=>?_) .nil))))))))))
  .have g:j<1:=g;obtain rfl:j=0:=by omega
   exact .refl _
  .have he:e<i+1:=he;show dY (bif e.blt i then [uI 0,aX [nm K (0+e)]] else [[uI 0,.view 2 1 (λj=>[[uI (ofNat K+1),iI (ofNat i)]].getD j []) (some 1)]].getD (e-i) []) [uI 0,aX [nm K e]];by_cases c:e<i
   .rw[qL c,wn];exact .refl _
   .obtain rfl:e=i:=by omega
    rw[QP (wc _),wW];refine .Ue (.cons (.view (.inr rfl) λj g=>?_) .nil);have g:j<1:=g;obtain rfl:j=0:=by omega
    exact .refl _
 have s:=qt2 (ofNat K+1) n i ((Qk K (i+1)).hw (x9 (i+1)) (lN K (i+1)) [ZA K (i+1)]);rw[il ae] at s;have x:=cf [] s;exact av (av C (Pz.gE 19 qh rfl B)) (av (fi 1 z) x)
def qlm(K n:Nat)(H:qa)(d:H[9]?=some (ZA K n)):eO [zo H (.own 9 n 0 n none)] [bR (yX K n) none]:=by
 have e:zo H (.own 9 n 0 n none)=(bif (ZA K n).mp.isNone&&((ZA K n).aj==n&&Nat.ble (0+n) n) then T.view 2 n (λj=>([uI 0,aX [nm K (0+j)]]:JO).map (resolve 3 [] H)) none else .undef):=by
  show resolve 4 [] H (.own 9 n 0 n none)=_;simp only[resolve,d];rfl
 rw[e,show(ZA K n).aj=n from rfl,wF,qO (show 0+n<=n by omega)];show eO [T.view 2 n _ none] [bR (yX K n) none];unfold bR;rw[kU];refine .cons (.view (.inl rfl) λj a=>?_) .nil;show eO (([uI 0,aX [nm K (0+j)]]:JO).map (resolve 3 [] H)) ((yX K n).getD j be).c;rw[Va K a,wn];exact .refl _
def V3(K n:Nat):Wx:=⟨.own 9 n 0 n none,.ag,fj (λj=>(zE K n).getD j bU) n none,.ag,0⟩
def CG(K n:Nat):qa:=(Qk K n).hw (V3 K n) (lN K n) [ZA K n]
def qqe{K n:Nat}(d:K<6)(h1:1<=n)(U:n<=16):TO 44 [yI K,iI (ofNat n)] (.agg ((KM K n).cc none)):=by
 obtain⟨p,u⟩:=qE aw G17 81;have E:(λ_=>0:Nat->Nat)=lN K 0:=funext λe=>by show 0=if e=K then 0 else 0;split<;>rfl
 have O:=cf [] (qtZ (ofNat K+1) (ofNat n));have s:=quz (ofNat K+1) (ofNat n);rw[E] at s;have o:=qt0 (ofNat n) K (lN K 0) (x9 0) [bW 0 0 λ_=>[]] (λe=>(Q0.Y e).y) (λe=>(Q0.tb e).length) (λe j=>((Q0.tb e).getD j eG).l);rw[qre d,show 0+(ofNat K).toNat=K by simp] at o;have N:=Pz.post (cf [] (o.trans (qk (EF d) (qk (by rw[qL d];rfl) rfl)))) (v2:=[yI K,iI (ofNat n),.ah bL,p0]) (h2:=(Qk K 0).hw (x9 0) (lN K 0) [ZA K 0]) λnt=>by
  have Q:(λe=>((Qk K 0).Y e).y)=aB (λe=>(Q0.Y e).y) K (Yn.mk true 179 0 true []).y:=funext λe=>by
   show(aB (λ_=>yz) K (Yn.mk true 179 0 true []) e).y=aB (λ_=>yz.y) K (Yn.mk true 179 0 true []).y e;unfold aB;by_cases c:e=K
   .rw[wl c,wl c]
   .rw[we c,we c]
  show am G17 (az 44).aa nt _ _ _ _ _ (HW (x9 0) (λe=>((Qk K 0).Y e).y) _ _ _ _);rw[Q];refine .trans (Zt (c:=[.bool true,iI 179,iI 0,.bool true,.ag]) (y:=(Yn.mk true 179 0 true []).y) (.Ue (.Ue (.Ue (.Ue (.cons (.fG _ _ (.inl rfl)) .nil)))))) ?_;exact .same (.cons ⟨rfl,rfl,rfl,id,λ_ _=>rfl⟩ (.cons ⟨rfl,rfl,rfl,id,λ_ _=>rfl⟩ (.cons ⟨rfl,rfl,rfl,id,λ_ _=>rfl⟩ (.cons ⟨rfl,rfl,rfl,id,λ_ _=>rfl⟩ (.cons ⟨rfl,rfl,rfl,id,λ_ _=>rfl⟩ (.cons ⟨rfl,rfl,rfl,id,λ_ _=>rfl⟩ (.cons ⟨rfl,rfl,rfl,id,λ_ _=>rfl⟩ (.cons ⟨rfl,rfl,rfl,id,λ_ _=>rfl⟩ (.cons ⟨rfl,rfl,rfl,id,λ_ _=>rfl⟩ (.cons ⟨rfl,rfl,rfl,id,λj a=>absurd a (vm j)⟩ .nil))))))))))
 have M:=cf [] (qt1 K n ((Qk K 0).hw (x9 0) (lN K 0) [ZA K 0]));have H:=Pz.count (P:=aw) (G:=G17) (A:=az) (f:=44) (h0:=[]) (p:=[0,2,1,2,2,2]) (l:=[0,1,4,5,6]) (e:=.exit 0) qh (λi=>tD (ofNat K+1) n i) (λi=>(Qk K i).hw (x9 i) (lN K i) [ZA K i]) (n:=n) au (λi x=>qmO d ae x ae)
  (lk (av (cf _ ((Vu (ofNat K+1) n n ((Qk K n).hw (x9 n) (lN K n) [ZA K n])).trans (qF au rfl))) (Pz.fc 19 qh rfl (cf _ (qrs (ofNat K+1) n n ((Qk K n).hw (x9 n) (lN K n) [ZA K n]))))))
 have C:=Vb K n;have k:(zE K n).length=n:=by simp[zE]
 have th:=Vo (yX K n) none (by rw[kU];omega) (by rw[C,k];omega);rw[C] at th;unfold aX at th;rw[k] at th;have g:=th.IN (qlm K n ((Qk K n).hw (x9 n) (lN K n) [ZA K n]) rfl);have J:=Pz.post (eD (qr qp (qq u)) [] ((qt3 (lN K n) [ZA K n] (λe=>((Qk K n).Y e).y) (λe=>((Qk K n).tb e).length) (λe j=>(((Qk K n).tb e).getD j eG).l) p (λj=>(zE K n).getD j bU) n n).trans (qk (YL.2 (T8 u g)) rfl))) (v2:=[.ah bL,p0]) (h2:=CG K n) λnt =>
  .same (.cons ⟨rfl,rfl,rfl,id,λj a=>by
   have a:j<1:=a;obtain rfl:j=0:=by omega
   rfl⟩ (.refl _))
 have I:=cf [] (qt4 (lN K n) (V3 K n) [ZA K n] (λe=>((Qk K n).Y e).y) (λe=>((Qk K n).tb e).length) (λe j=>(((Qk K n).tb e).getD j eG).l));have t:=Pz.told (A:=az) Qn Tryz.func44 qh qh (l:=[0,1]) rfl (av O (av s (av N (av (av M (Pz.ey (id:=0) (e:=.exit 0) (p:=[2,1,2,2,2]) qh rfl H)) (av J I)))))
  (r:=.agg [bif (true&&(n==n&&Nat.ble (0+n) n)) then .fresh false 2 (n-0) (λj=>([uI 0,aX [nm K (0+j)]]:JO).map (resolve 3 [9,1,2] (CG K n))) n none else .undef,
   .fresh false 5 6 (λj=>(((Qk K n).Y (0+j)).y.c).map (resolve 3 [9,1,2] (CG K n))) 6 none,.fresh false 1 6 (λj=>[resolve 3 [9,1,2] (CG K n) (.own (3+(0+j)) (lN K n (0+j)) 0 ((Qk K n).tb (0+j)).length none)]) 6 none,
   .ag,fj (λj=>(zE K n).getD j bU) n none,.ag,uI 0]) rfl
 rw[wF,qO (show 0+n<=n by omega)] at t;have t2:=t.fh;have B:=V2 K n;refine t2.tj (.cons (.view ?_) (.cons (.view ?_) (.cons (.view ?_) (.cons (.fG _ _ _ (.inl rfl)) (.cons (.view ?_) (.cons (.fG _ _ _ (.inl rfl)) (.Ue .nil)))))))
 .show mH (.view 2 n _ none) (bR (yX K n) none);unfold bR;rw[kU];refine .view (.inl rfl) λj a=>?_;rw[Va K a,wn];exact .refl _
 .refine .view (.inr rfl) λj a=>?_;rw[wn,←B];exact .refl _
 ·refine .view (.inr rfl) λj a=>?_;rw[wn,←B];show eO [resolve 3 [9,1,2] (CG K n) (.own (3+j) (lN K n j) 0 ((Qk K n).tb j).length none)] [OW (λi=>(((Qk K n).tb j).getD i eG).l) ((Qk K n).tb j).length none];have z:(CG K n)[3+j]?=some (rB (λe=>((Qk K n).tb e).length) (lN K n) (λe j=>(((Qk K n).tb e).getD j eG).l) j)/\([9,1,2]:Wa).contains (3+j)=false:=by
   cases zy a
   all_goals exact⟨rfl,rfl⟩
  have S:resolve 3 [9,1,2] (CG K n) (.own (3+j) (lN K n j) 0 ((Qk K n).tb j).length none)=(bif (true&&(lN K n j==lN K n j&&Nat.ble (0+((Qk K n).tb j).length) ((Qk K n).tb j).length)) then T.view 4 ((Qk K n).tb j).length (λi=>((((Qk K n).tb j).getD (0+i) eG).l.c).map (resolve 2 [9,1,2] (CG K n))) none else .undef):=by
   simp only[resolve,z.1,z.2];rfl
  rw[S,wF,qO (show 0+((Qk K n).tb j).length<=((Qk K n).tb j).length by omega)];refine .cons (.view (.inr rfl) λi x=>?_) .nil;rw[wn];exact .refl _
 .show mH (fj (λj=>(zE K n).getD j bU) n none) (aX (zE K n));unfold aX;rw[k];exact .view (.inr rfl) λ_ _=>.refl _
def V4(s s' Y:T)(F:Bn)(d:Int):JO:=[s,Y,F.t.v,sL F.cr F.nc none,fj F.he F.nh none,fj F.fa F.nf none,uI d]
def GY(s s':T)(Y:Nat->b6)(F:Bn)(d:Int)(i:Nat):JO:=[.ah (V4 s s' (GA Y 6) F d),.ah (V4 s' s (GA Y 6) F d),iI (ofNat i)]
def Lp.CH(x:Lp):List aL:=x.th++x.ps.map bw.id
def CI(l:List bw):Prop:=∀i,i+1<l.length->Cu (l.getD i fv) (l.getD (i+1) fv)=false
structure Lp.G(x:Lp):Prop where
 b:x.b=0∨x.b=1
 nt:x.th.length<=4
 np:x.ps.length<=4096
 d:∀p∈x.ps,p.d=0∨p.d=1
 red:CI x.ps
structure gw(q:Ys)(ord:List aL):Prop where
 row:∀y,y<6->∀n,n<(q.tb y).length->∃pre post,ord=pre++nm y n::post/\(∀a∈((q.tb y).getD n eG).CH,a∈pre)/\(0<n->nm y (n-1)∈pre)
 fH:∀y,y<6->∀n,n<(q.tb y).length->((q.tb y).getD n eG).G/\(n=0->((q.tb y).getD n eG).w=true)
 mem:∀a∈ord,∃y n,y<6/\n<(q.tb y).length/\a=nm y n
 nodup:ord.Nodup
 out:∀y,6<=y->q.tb y=[]
 rf:q.rf=ord.length
def V5{y n a d:Nat}(h:nm y n=nm a d):y=a/\n=d:=by
 unfold nm at h;injection h with h1 e;simp only[wu] at h1 e;omega
section
variable {q:Ys} {ord:List aL}
def gw.len(h:gw q ord)(y:Nat):(q.tb y).length<=ord.length:=by
 rw[←h.rf];by_cases a:y<6
 .cases zy a
  all_goals (unfold Ys.rf;omega)
 .rw[h.out y ae];exact wR _
def Ys.oi(q:Ys):List aL:=(List.range 6).flatMap λy=>(q.tb y).flatMap Lp.th
end
section
variable {q:Ys} {ord:List aL}
end
def aV.p(c:aV):aL:=⟨c.ay,c.an⟩
def aV.q(c:aV):aL:=⟨c.cy,c.cn⟩
def PL(x y:aV):Bool:=decide (qrb x.ay x.an x.cy x.cn y.ay y.an y.cy y.cn<0)
structure V7(y:Yn)(n:Nat)(ord:List aL):Prop where
 ct:y.ct=n
 py:y.i=true->(y.pl = -13∨y.pl=179)/\y.pe.length<=4096/\CI y.pe/\∀p∈y.pe,p.id∈ord/\(p.d=0∨p.d=1)
 out:y.i=false->y.pl=0/\y.w=false/\y.pe=[]
structure Bv(w:bD)(ord:List aL):Prop where
 oD:gw w.q ord
 len:ord.length<=2048
 part:(w.q.oi++w.he++w.fa).Perm ord
 V8:∀i,i+1<w.fa.length->Cw (w.fa.getD i bU) (w.fa.getD (i+1) bU)<0
 EU:∀c∈w.cr,c.p∈ord/\c.q∈ord/\Cw c.p c.q<0/\c.n≠0/\-1048576<=c.n/\c.n<=1048576
 crA:∀i,i+1<w.cr.length->PL (w.cr.getD i pN) (w.cr.getD (i+1) pN)=true
 crn:w.cr.length<=1000000
 yo:∀y,6<=y->w.q.Y y=yz
 yr:∀y,y<6->V7 (w.q.Y y) (w.q.tb y).length ord
 sn:1<=w.sl.length/\w.sl.length<=16
 sb:∀s∈w.sl,(s.b=0∨s.b=1)/\1<=s.l.length/\s.l.length<=3
 held:bO w.sl=w.he
 d:w.d=0∨w.d=1
def bD.sl'(w:bD):EG:=⟨λj=>(w.sl.getD j be).b,{ n:=w.sl.length,g:=λi j=>((w.sl.getD i be).l).getD j bU,l:=λi=>(w.sl.getD i be).l.length,c:=none }⟩
def bD.F(w:bD):Bn:=⟨w.q.tt,λj=>w.cr.getD j pN,w.cr.length,λj=>w.he.getD j bU,w.he.length,λj=>w.fa.getD j bU,w.fa.length⟩
def bD.w(w:bD):Dy:=⟨w.sl',λe=>(w.q.Y e).y,6,w.F,w.d⟩
section
variable {w:bD} {ord:List aL}
end
section
variable {w:bD} {ord:List aL}
end
def qmQ{α:Type}(l:List α)(d:α){i:Nat}(h:i<l.length):l=l.take i++l.getD i d::l.drop (i+1):=by
 conv=>lhs;rw[←xw i l,List.drop_eq_getElem_cons h]
 rw[wh,wj h];rfl
def qln{K n i:Nat}(h:i<n):(zE K n).getD i bU=nm K i:=by
 simp[zE,wh,h]
def Wb{K n:Nat}{a:aL}:a∈zE K n↔∃i,i<n/\a=nm K i:=by
 simp only[zE,vb,vQ];exact⟨λ⟨i,h,e⟩=>⟨i,h,e.symm⟩,λ⟨i,h,e⟩=>⟨i,h,e.symm⟩⟩
def jU(K n:Nat):(zE K n).length=n:=by simp[zE]
def qmR(K n:Nat):(zE K n).Nodup:=by
 unfold zE List.Nodup;rw[List.pairwise_map];exact List.Pairwise.imp (λ{a b} d e=>d (V5 e).2) List.nodup_range
def GZ(n:Nat):List Lp:=(List.range n).map λj=>⟨0,decide (j=0),[],[]⟩
def Wc{n i:Nat}(h:i<n):(GZ n).getD i eG=⟨0,decide (i=0),[],[]⟩:=by
 simp[GZ,wh,h]
section
variable {K n:Nat}
def yZ(e:Nat):(KM K n).q.tb e=if e=K then GZ n else []:=jw K e n
def PM(e:Nat):(KM K n).q.Y e=if e=K then ⟨true,179,(n:Int),decide (n=0),[]⟩ else yz:=by rw[←V2,jT]
def yC(n:Nat):(GZ n).length=n:=by simp[GZ]
def qmS(k:K<6):gw (KM K n).q (zE K n):=by
 refine⟨λy j m d=>?_,λy j m d=>?_,λa g=>?_,qmR K n,λy j=>?_,?_⟩
 .rw[yZ] at d ⊢;by_cases c:y=K
  ·subst c;rw[wl rfl,yC] at d;rw[wl rfl,Wc d];have e:=qmQ (zE y n) bU (i:=m) (by rw[jU];exact d);rw[qln d] at e;refine⟨_,_,e,λa g=>(by cases g),λo=>?_⟩;have:(zE y n).take m=zE y m:=by
    unfold zE;rw[←List.map_take,List.take_range,Nat.min_eq_left ae]
   rw[this];exact Wb.2 ⟨m-1,ae,rfl⟩
  .rw[we c] at d;cases d
 .rw[yZ] at d ⊢;by_cases c:y=K
  .subst c;rw[wl rfl,yC] at d;rw[wl rfl,Wc d];exact⟨⟨.inl rfl,wR _,wR _,λp r=>(by cases r),λi f=>absurd f au⟩,λo=>by simpa using o⟩
  .rw[we c] at d;cases d
 .obtain⟨i,f,rfl⟩:=Wb.1 g;exact⟨K,i,k,by rw[yZ,wl rfl,yC];exact f,rfl⟩
 .rw[yZ,we ae]
 .rw[jU];unfold Ys.rf;simp only[yZ];cases zy k
  all_goals simp[yC]
def qmT(o:K<6)(h1:1<=n)(r:n<=16):Bv (KM K n) (zE K n) where
 oD:=qmS o
 len:=by rw[jU];omega
 part:=by
  have:(KM K n).q.oi=[]:=by
   unfold Ys.oi;rw[List.flatMap_eq_nil_iff];intro y _;rw[List.flatMap_eq_nil_iff];intro x hx;rw[yZ] at hx;split at hx
   .obtain⟨j,_,rfl⟩:=vb.1 hx;rfl
   .cases hx
  rw[this];show([]++zE K n++[]).Perm _;rw[List.nil_append,vu]
 V8:=λi a=>absurd a (by show ¬i+1<0;omega)
 EU:=λc k=>(by cases k)
 crA:=λi a=>absurd a (by show ¬i+1<0;omega)
 crn:=wR _
 yo:=λy e=>by rw[PM,we ae]
 yr:=λy e=>by
  rw[PM,yZ];by_cases c:y=K
  .rw[wl c,wl c,yC];exact⟨rfl,λ_=>⟨.inr rfl,wR _,(λi a=>absurd a au),(λp g=>(by cases g))⟩,λh=>(by cases h)⟩
  .rw[we c,we c];exact⟨rfl,λh=>(by cases h),λ_=>⟨rfl,rfl,rfl⟩⟩
 sn:=by show 1<=(yX K n).length/\(yX K n).length<=16;rw[kU];omega
 sb:=λs f=>by
  obtain⟨i,_,rfl⟩:=vb.1 (show s∈yX K n from f);exact⟨.inl rfl,wc _,by show 1<=3;omega⟩
 held:=Vb K n
 d:=.inl rfl
end
def LR(x:aV)(a b:aL):dZ x a b=true↔x.ay=a.y/\x.an=a.n/\x.cy=b.y/\x.cn=b.n:=by
 unfold dZ;simp
def LS(x:aV)(a b:aL):ff x a b=true↔x.ay<a.y∨x.ay=a.y/\(x.an<a.n∨x.an=a.n/\(x.cy<b.y∨x.cy=b.y/\x.cn<b.n)):=by
 unfold ff;simp
def tG(x y:aV):Prop:=x.ay<y.ay∨x.ay=y.ay/\(x.an<y.an∨x.an=y.an/\(x.cy<y.cy∨x.cy=y.cy/\x.cn<y.cn))
def YQ(a b:aL)(s:Int):List aV->List aV
 |[]=>[uL a b s]
 |x::l=>bif dZ x a b then(bif !decide ((iP a b s x).n=0) then iP a b s x::l else l) else bif ff x a b then x::YQ a b s l else uL a b s::x::l
def PN(a b:aL)(s:Int):∀(l o:List aV),(∀x∈l,dZ x a b=false/\x.n≠0)->l.foldl (fD a b s) (o,true)=(o++l,true)
 |[],o,_=>by simp
 |x::l,o,h=>by
  obtain⟨h1,f⟩:=h x au;have e:fD a b s (o,true) x=(o++[x],true):=by
   unfold fD Ky iP;rw[h1];simp[f]
  rw[List.foldl_cons,e,PN a b s l (o++[x]) λy d=>h y (by simp[d])];simp
def Wd{x y:aV}{a b:aL}(h:tG x y)(d:ff x a b=false):dZ y a b=false:=by
 cases e:dZ y a b with
 |false=>rfl
 |true =>
  rw[LR] at e;have:ff x a b=true:=(LS x a b).2 (by unfold tG at h;omega);rw[this] at d;cases d
def qqj{x:aV}{a b:aL}(h:dZ x a b=true):ff x a b=false:=by
 cases e:ff x a b with
 |false=>rfl
 |true =>
  rw[LR] at h;rw[LS] at e;omega
def PO(a b:aL)(s:Int):∀(l o:List aV),l.Pairwise tG->(∀x∈l,x.n≠0)->jy a b s (l.foldl (fD a b s) (o,false))=o++YQ a b s l
 |[],o,_,_=>rfl
 |x::l,o,k,i=>by
  have j:=xg.1 k;have hx:=i x au;rw[List.foldl_cons];cases f:dZ x a b with
  |true =>
   have d:=qqj f;have e:fD a b s (o,false) x=(bif !decide ((iP a b s x).n=0) then o++[iP a b s x] else o,true):=by
    unfold fD Ky;rw[f,d];rfl
   rw[e,PN a b s l _ λy g=>⟨Wd (j.1 y g) d,i y (by simp[g])⟩];unfold jy YQ;rw[f,wm,wm];cases !decide ((iP a b s x).n=0)<;>simp
  |false =>
   have ex:iP a b s x=x:=by unfold iP;rw[f];rfl
   cases d:ff x a b with
   |true =>
    have e:fD a b s (o,false) x=(o++[x],false):=by
     unfold fD Ky;rw[ex,f,d];simp[hx]
    rw[e,PO a b s l (o++[x]) j.2 λy g=>i y (by simp[g])];show _=o++(bif dZ x a b then _ else bif ff x a b then x::YQ a b s l else _);rw[f,d];simp
   |false =>
    have e:fD a b s (o,false) x=(o++[uL a b s]++[x],true):=by
     unfold fD Ky;rw[ex,f,d];simp[hx]
    rw[e,PN a b s l _ λy g=>⟨Wd (j.1 y g) d,i y (by simp[g])⟩];show o++[uL a b s]++[x]++l=o++(bif dZ x a b then _ else bif ff x a b then _ else uL a b s::x::l);rw[f,d];simp
def qjA{l:List aV}(hp:l.Pairwise tG)(d:∀x∈l,x.n≠0)(a b:aL)(s:Int):Z9 l a b s=bif Bq a b then YQ b a s l else YQ a b s l:=by
 unfold Z9;rw[PO b a s l [] hp d,PO a b s l [] hp d];rfl
def PP(a b:aL)(s:Int):∀(l:List aV) (y:aV),y∈YQ a b s l->(y.ay=a.y/\y.an=a.n/\y.cy=b.y/\y.cn=b.n)∨y∈l
 |[],y,h=>by
  obtain rfl:=wM.1 h;exact .inl ⟨rfl,rfl,rfl,rfl⟩
 |x::l,y,h=>by
  unfold YQ at h;cases e:dZ x a b with
  |true =>
   rw[e,wm] at h;have ex:=(LR x a b).1 e;have key:iP a b s x=⟨x.ay,x.an,x.cy,x.cn,i64.wrap (x.n+s)⟩:=by unfold iP;rw[e];rfl
   cases d:!decide ((iP a b s x).n=0) with
   |true =>
    rw[d,wm] at h;rcases wK.1 h with h|h
    .rw[h,key];exact .inl ex
    .exact .inr (by simp[h])
   |false =>
    rw[d,wp] at h;exact .inr (by simp[h])
  |false =>
   rw[e,wp] at h;cases d:ff x a b with
   |true =>
    rw[d,wm] at h;rcases wK.1 h with h|h
    .exact .inr (by simp[h])
    .rcases PP a b s l y h with q|q
     .exact .inl q
     .exact .inr (by simp[q])
   |false =>
    rw[d,wp] at h;rcases wK.1 h with h|h
    .rw[h];exact .inl ⟨rfl,rfl,rfl,rfl⟩
    .exact .inr h
def We(a b:aL)(s:Int):∀(l:List aV),l.Pairwise tG->(YQ a b s l).Pairwise tG
 |[],_=>List.pairwise_singleton _ _
 |x::l,i=>by
  have e:=xg.1 i;unfold YQ;cases g:dZ x a b with
  |true =>
   rw[wm];have key:iP a b s x=⟨x.ay,x.an,x.cy,x.cn,i64.wrap (x.n+s)⟩:=by unfold iP;rw[g];rfl
   cases !decide ((iP a b s x).n=0) with
   |true =>
    rw[wm,key];exact xg.2 ⟨λy d=>e.1 y d,e.2⟩
   |false=>exact e.2
  |false =>
   rw[wp];cases f:ff x a b with
   |true =>
    rw[wm];refine xg.2 ⟨λy d=>?_,We a b s l e.2⟩;rcases PP a b s l y d with⟨r,o,k,j⟩|q
    .have:=(LS x a b).1 f;unfold tG;rw[r,o,k,j];exact this
    .exact e.1 y q
   |false =>
    rw[wp];have h1:tG (uL a b s) x:=by
     have n1:¬(x.ay<a.y∨x.ay=a.y/\(x.an<a.n∨x.an=a.n/\(x.cy<b.y∨x.cy=b.y/\x.cn<b.n))):=λh=>by rw[(LS x a b).2 h] at f;cases f
     have n2:¬(x.ay=a.y/\x.an=a.n/\x.cy=b.y/\x.cn=b.n):=λh=>by rw[(LR x a b).2 h] at g;cases g
     show a.y<x.ay∨a.y=x.ay/\(a.n<x.an∨a.n=x.an/\(b.y<x.cy∨b.y=x.cy/\b.n<x.cn));omega
    refine xg.2 ⟨λy d=>?_,i⟩;rcases wK.1 d with rfl|d
    .exact h1
    .have u:=e.1 y d;unfold tG at h1 u ⊢;omega
def Wf(a b:aL)(s:Int):∀l:List aV,(YQ a b s l).length<=l.length+1
 |[]=>wc _
 |x::l=>by
  have d:=Wf a b s l;unfold YQ;cases dZ x a b<;>cases (!decide ((iP a b s x).n=0))<;>cases ff x a b<;>simp<;>omega
def Wg(a b:aL)(s B:Int)(j:s=1∨s = -1)(hB:0<=B/\B<=1000000):∀(l:List aV),(∀x∈l,x.n≠0/\-B<=x.n/\x.n<=B)->∀x∈YQ a b s l,x.n≠0/\-(B+1)<=x.n/\x.n<=B+1
 |[],_,y,h=>by
  obtain rfl:=wM.1 h;show s≠0/\_<=s/\s<=_;omega
 |x::l,f,y,h=>by
  have hx:=f x au;have i:∀z∈l,z.n≠0/\-(B+1)<=z.n/\z.n<=B+1:=λz e=>by
   have:=f z (by simp[e]);omega
  unfold YQ at h;cases g:dZ x a b with
  |true =>
   rw[g,wm] at h;have key:(iP a b s x).n=x.n+s:=by
    unfold iP;rw[g];exact Qp (x:=x.n+s) ae ae
   cases d:!decide ((iP a b s x).n=0) with
   |true =>
    rw[d,wm] at h;have k:¬(iP a b s x).n=0:=by simpa using d
    rcases wK.1 h with h|h
    .rw[h];rw[key] at k ⊢;omega
    .exact i y h
   |false =>
    rw[d,wp] at h;exact i y h
  |false =>
   rw[g,wp] at h;cases d:ff x a b with
   |true =>
    rw[d,wm] at h;rcases wK.1 h with h|h
    .rw[h];omega
    .exact Wg a b s B j hB l (λz e=>f z (by simp[e])) y h
   |false =>
    rw[d,wp] at h;rcases wK.1 h with h|h
    .rw[h];show s≠0/\_<=s/\s<=_;omega
    .rcases wK.1 h with h|h
     .rw[h];omega
     .exact i y h
structure EV(P:Nat)(y:Yn)(t:List Lp)(ord:List aL):Prop where
 ct:y.ct=t.length
 py:y.i=true->(y.pl = -13∨y.pl=179)/\y.pe.length<=P/\CI y.pe/\∀p∈y.pe,p.id∈ord/\(p.d=0∨p.d=1)
 out:y.i=false->y.pl=0/\y.w=false/\y.pe=[]/\t=[]
 fst:y.i=true->t=[]->y.w=true
structure b8(P:Nat->Nat)(q:Ys)(H fa ord:List aL):Prop where
 oD:gw q ord
 part:(q.oi++H++fa).Perm ord
 yo:∀y,6<=y->q.Y y=yz
 yr:∀y,y<6->EV (P y) (q.Y y) (q.tb y) ord
def ZQ{α:Type}(f:Nat->α)(K:Nat)(z:α):aB f K z K=z:=wl rfl
def EW{α:Type}(f:Nat->α){K e:Nat}(z:α)(h:e≠K):aB f K z e=f e:=we h
def gw.uo{q d:Ys}{ord:List aL}(h:gw q ord)(e:d.tb=q.tb):gw d ord:=by
 obtain⟨Y,tb⟩:=q;obtain⟨f,a⟩:=d;obtain rfl:a=tb:=e;exact⟨h.row,h.fH,h.mem,h.nodup,h.out,h.rf⟩
section
variable {P:Nat->Nat} {q:Ys} {H H' R fa ord:List aL} {K:Nat}
def EV.mono{P P':Nat}{y:Yn}{t:List Lp}{ord f:List aL}(h:EV P y t ord)(i:P<=P')(g:∀a,a∈ord->a∈f):EV P' y t f :=
 ⟨h.ct,λd=>⟨(h.py d).1,wN (h.py d).2.1 i,(h.py d).2.2.1,λp e=>⟨g _ ((h.py d).2.2.2 p e).1,((h.py d).2.2.2 p e).2⟩⟩,h.out,h.fst⟩
def b8.perm(h:b8 P q H fa ord)(hp:H.Perm H'):b8 P q H' fa ord:=⟨h.oD,(vy fa (xf q.oi hp)).symm.trans h.part,h.yo,h.yr⟩
def b8.mono{P':Nat->Nat}(h:b8 P q H fa ord)(hp:∀y,P y<=P' y):b8 P' q H fa ord:=⟨h.oD,h.part,h.yo,λy a=>(h.yr y a).mono (hp y) λ_=>id⟩
def b8.sub(h:b8 P q H fa ord){a:aL}(d:a∈H):a∈ord:=h.part.mem_iff.1 (by simp only[wS];exact .inl (.inr d))
def Wh{α:Type}{l pre post:List α}{x:α}(e:l=pre++x::post):x∈l:=by rw[e];simp
def gw.loop(h:gw q ord)(u:K<6)(b:Int)(th:List aL)(B:∀a∈th,a∈ord)(hp:∀p∈(q.Y K).pe,p.id∈ord)(C:((q.Y K).lp b th).G)(hw:q.tb K=[]->(q.Y K).w=true):gw (q.loop K b th) (ord++[nm K (q.tb K).length]):=by
 have r:(q.loop K b th).tb K=q.tb K++[(q.Y K).lp b th]:=ZQ _ _ _;have o:∀{e},e≠K->(q.loop K b th).tb e=q.tb e:=λh=>EW _ _ h;refine⟨λy f n d=>?_,λy f n d=>?_,λa j=>?_,?_,λy f=>?_,?_⟩
 .by_cases c:y=K
  .subst c;rw[r] at d ⊢;rw[wD] at d;have d:n<(q.tb y).length+1:=d;rw[Zs];by_cases z:n=(q.tb y).length
   .rw[wl z];refine⟨ord,[],by rw[z],λa j=>?_,λE=>?_⟩
    .rcases wS.1 j with k|k
     .exact B a k
     .obtain⟨p,A,x⟩:=vb.1 k;rw[←x];exact hp p A
    .obtain⟨pre,post,e,_⟩:=h.row y f (n-1) ae;exact Wh e
   .rw[we z];obtain⟨pre,post,e,i,g⟩:=h.row y f n ae;exact⟨pre,post++[nm y (q.tb y).length],by rw[e];simp,i,g⟩
  .rw[o c] at d ⊢;obtain⟨pre,post,e,i,g⟩:=h.row y f n d;exact⟨pre,post++[nm K (q.tb K).length],by rw[e];simp,i,g⟩
 .by_cases c:y=K
  .subst c;rw[r] at d ⊢;rw[wD] at d;have d:n<(q.tb y).length+1:=d;rw[Zs];by_cases z:n=(q.tb y).length
   .rw[wl z];exact⟨C,λE=>hw (vN ae)⟩
   .rw[we z];exact h.fH y f n ae
  .rw[o c] at d ⊢;exact h.fH y f n d
 .rcases wS.1 j with k|k
  .obtain⟨y,n,i,g,s⟩:=h.mem a k;refine⟨y,n,i,?_,s⟩;by_cases c:y=K
   .subst c;rw[r,wD];exact vd g (xH _ _)
   .rw[o c];exact g
  .refine⟨K,(q.tb K).length,u,by rw[r];simp,by simpa using k⟩
 .rw[xB];refine⟨h.nodup,au,λa j b D e=>?_⟩;obtain rfl:b=nm K (q.tb K).length:=by simpa using D
  obtain⟨y,n,i,g,s⟩:=h.mem a j;obtain⟨I,J⟩:=V5 (s.symm.trans e);subst I;omega
 .rw[o ae];exact h.out y f
 .rw[wD,←h.rf];unfold Ys.rf;cases zy u
  all_goals
   rw[r]
   (repeat rw[o ae])
   simp only[wD,vc,vE];omega
def qmW(q:Ys)(a:K<6)(b:Int)(th:List aL):(q.loop K b th).oi.Perm (q.oi++th):=by
 have g:(q.loop K b th).tb K=q.tb K++[(q.Y K).lp b th]:=ZQ _ _ _;have f:∀{e},e≠K->(q.loop K b th).tb e=q.tb e:=λh=>EW _ _ h;have i:List.range 6=[0,1,2,3,4,5]:=rfl;have d:((q.Y K).lp b th).th=th:=rfl;unfold Ys.oi;rw[i];simp only[List.flatMap_cons,List.flatMap_nil,vu];generalize j:q.loop K b th=z at *
 cases zy a
 all_goals
  rw[g]
  (repeat rw[f ae])
  simp only[List.flatMap_append,List.flatMap_cons,List.flatMap_nil,vu,d,wX]
  (repeat refine xf _ ?_)
  first|exact .refl _|exact xU|exact xU.trans (by simp only[wX];exact .refl _)
def b8.loop(h:b8 P q H fa ord)(k:K<6)(d:(q.Y K).i=true){b:Int}(M:b=0∨b=1){th:List aL}(J:th.length<=4)(N:P K<=4096)(z:H.Perm (th++R))(o:H'.Perm (lK q K::R)) :
 b8 P (q.loop K b th) H' fa (ord++[nm K (q.tb K).length]):=by
 have g:=h.yr K k;obtain⟨C,B,A,x⟩:=g.py d;have r:lK q K=nm K (q.tb K).length:=by unfold lK nm;rw[g.ct];rfl
 have Q:(q.loop K b th).tb K=q.tb K++[(q.Y K).lp b th]:=ZQ _ _ _;have O:∀{e},e≠K->(q.loop K b th).tb e=q.tb e:=λh=>EW _ _ h;have yK:(q.loop K b th).Y K=(q.Y K).next:=ZQ _ _ _
 have u:∀{e},e≠K->(q.loop K b th).Y e=q.Y e:=λh=>EW _ _ h;refine⟨h.oD.loop k b th (λa j=>h.sub (z.mem_iff.2 (wS.2 (.inl j)))) (λp f=>(x p f).1) ⟨M,J,wN B N,λp f=>(x p f).2,A⟩ (g.fst d),?_,λy s=>by rw[u ae];exact h.yo y s,λy s=>?_⟩
 ·have I:((q.loop K b th).oi++H'++fa).Perm ((q.oi++th)++(lK q K::R)++fa):=vy fa ((vy H' (qmW q k b th)).trans (xf _ o));have E:((q.oi++th)++(lK q K::R)++fa).Perm (lK q K::(q.oi++(th++R)++fa)):=by
   rw[wX,wX,List.cons_append];rw[←wX];refine List.perm_middle.trans ?_;simp only[wX];exact .refl _
  have D:(q.oi++(th++R)++fa).Perm ord:=(vy fa (xf q.oi z)).symm.trans h.part;refine I.trans (E.trans ((List.Perm.cons _ D).trans ?_));rw[r];exact xU (l₁:=[_])
 .by_cases c:y=K
  .subst c;rw[Q,yK];refine⟨?_,λ_=>⟨C,wR _,(λi d=>absurd d (by simp[Yn.next])),λp f=>(by cases f)⟩,λd=>(by cases d),λ_ e=>by simp at e⟩;show(q.Y y).ct+1=_;rw[g.ct];simp
  .rw[O c,u c];exact(h.yr y s).mono (wc _) λa j=>wS.2 (.inl j)
def b8.dz(h:b8 P q H fa ord)(f:K<6){y:Yn}{P':Nat}(d:EV P' y (q.tb K) ord):b8 (aB P K P') (q.dz K y) H fa ord:=by
 have a:∀{e},e≠K->(q.dz K y).Y e=q.Y e:=λh=>EW _ _ h;refine⟨h.oD.uo rfl,h.part,λe he=>by rw[a ae];exact h.yo e he,λe he=>?_⟩;by_cases c:e=K
 .subst c;rw[ZQ,show(q.dz e y).Y e=y from ZQ _ _ _];exact d
 .rw[EW _ _ c,a c];exact h.yr e he
def qos{l:List bw}{p:bw}(h:CI l):CI (rS l p):=by
 unfold rS;split
 .intro i a;rw[xY] at a;rw[Jn _ _ ae,Jn _ _ ae];exact h i ae
 .rename_i c;intro i a;rw[wD] at a;have a:i+1<l.length+1:=a;rw[Zs,Zs,we ae];by_cases z:i+1=l.length
  .rw[wl z];have c:¬((decide (0<l.length)&&Cu (l.getD (l.length-1) fv) p)=true):=c;rw[wq ae,xx,←z,show i+1-1=i by omega] at c;simpa using c
  .rw[we z];exact h i ae
def Wi:∀(m l:List bw),CI l->CI (Cy l m)
 |[],_,h=>h
 |p::m,l,h=>Wi m (rS l p) (qos h)
def qot{l:List bw}{p x:bw}(h:x∈rS l p):x∈l∨x=p:=by
 unfold rS at h;split at h
 .exact .inl (List.dropLast_subset l h)
 .simpa using h
def Wj:∀(m l:List bw) (x:bw),x∈Cy l m->x∈l∨x∈m
 |[],_,_,h=>.inl h
 |p::m,l,x,h=>by
  rcases Wj m (rS l p) x h with k|k
  .rcases qot k with k|k
   .exact .inl k
   .exact .inr (by rw[k];simp)
  .exact .inr (wT _ k)
def b8.fK(h:b8 P q H fa ord)(r:K<6)(g:(q.Y K).i=true)(m:List bw)(o:∀p∈m,p.id∈ord/\(p.d=0∨p.d=1)):b8 (aB P K (P K+m.length)) (q.fK K m) H fa ord:=by
 have f:=h.yr K r;obtain⟨x,u,s,j⟩:=f.py g;have z:Zz (q.Y K).pe m=Cy (q.Y K).pe m:=VJ m _ (λp a=>(j p a).2) (λp a=>(o p a).2);unfold Ys.fK;rw[z];refine h.dz r ⟨f.ct,λ_=>⟨x,?_,Wi _ _ s,λp a=>?_⟩,λe=>(by rw[g] at e;cases e),λ_ e=>f.fst g e⟩
 .exact wN (VK _ _) (Nat.add_le_add_right u _)
 .rcases Wj _ _ _ a with k|k
  .exact j p k
  .exact o p k
end
def sP(l:List aF):Prop:=l.length<=4/\∀x∈l,(x.b=0∨x.b=1)/\x.l.length<=4
def sQ(s:ao)(l:List aF):Nat:=if s.k=3 then 1 else l.length
def G0(s:ao)(l:List aF):Prop:=(s.k=3->l=[])/\(s.k=6->l≠[])
def uN(s:ao)(l:List aF):Wa :=
 if s.k=3 then [1] else if s.k=6 then(match l with|[]=>[]|a::t=>(a.l.length+1)::t.map λx=>x.l.length) else if s.k=7 then l.map λx=>x.l.length else l.map λ_=>1
def uq(s:ao)(l l':List aF):Prop:=l'.map (λx=>x.l.length)=uN s l/\∀x∈l',x.b=0∨x.b=1
def yc(s:aF)(l:List aF):bO (s::l)=s.l++bO l:=rfl
def yR(a b:List aF):bO (a++b)=bO a++bO b:=by unfold bO;rw[vF,xN]
def Wl(a:List aF):(bO a.reverse).Perm (bO a):=by
 induction a with
 |nil=>exact .refl _
 |cons s l d =>
  rw[List.reverse_cons,yR,yc];refine xU.trans ?_;show(s.l++[]++bO l.reverse).Perm _;rw[vu];exact xf _ d
def G1{l:List aF}{s:aF}(h:s∈l){a:aL}(d:a∈s.l):a∈bO l:=List.mem_flatten.2 ⟨s.l,vb.2 ⟨s,h,rfl⟩,d⟩
section
variable {P:Nat->Nat} {q:Ys} {H H' R fa ord:List aL} {K:Nat}
def PQ(q:Ys)(K:Nat)(b:Int)(th:List aL):((q.loop K b th).Y K).i=true:=by
 show((aB q.Y K (q.Y K).next) K).i=true;rw[ZQ];rfl
def Wm{q:Ys}{K:Nat}(h:(q.Y K).i=true)(m:List bw):((q.fK K m).Y K).i=true:=by
 show((aB q.Y K _) K).i=true;rw[ZQ];exact h
def PR(k:K<6)(j:P K<=4096):∀(l:List aF) (q:Ys) (R ord:List aL),b8 P q (bO l++R) fa ord->(q.Y K).i=true->(∀x∈l,(x.b=0∨x.b=1)/\x.l.length<=4) →
 ∃a,b8 P (lA K q l).1 (bO (lA K q l).2++R) fa a/\a.length=ord.length+l.length/\((lA K q l).1.Y K).i=true
 |[],q,R,ord,h,d,_=>⟨ord,h,rfl,d⟩
 |s::l,q,R,ord,h,d,g=>by
  have f:=g s au;have h1:=h.loop (H':=bO l++(lK q K::R)) (R:=bO l++R) k d f.1 (th:=s.l) f.2 j (by rw[yc,wX]) List.perm_middle;obtain⟨a,m,e,o⟩:=PR k j l (q.loop K s.b s.l) (lK q K::R) _ h1 (PQ _ _ _ _) λx hx=>g x (wT _ hx);refine⟨a,m.perm ?_,?_,o⟩
  .show List.Perm _ (bO (⟨s.b,[lK q K]⟩::(lA K (q.loop K s.b s.l) l).2)++R);rw[yc];exact List.perm_middle
  .rw[e];simp;omega
def jV(K:Nat):∀(l:List aF) (q:Ys),((lA K q l).2.map λx=>x.l.length)=l.map (λ_=>1)/\(lA K q l).2.map aF.b=l.map aF.b
 |[],_=>⟨rfl,rfl⟩
 |s::l,q=>by
  obtain⟨h1,a⟩:=jV K l (q.loop K s.b s.l);exact⟨by show 1::_=1::_;rw[←h1],by show s.b::_=s.b::_;rw[←a]⟩
def qqk(j:K<6)(g:P K<=4096)(right:Bool)(l:List aF)(h:b8 P q (bO l++R) fa ord)(d:(q.Y K).i=true)(f:∀x∈l,(x.b=0∨x.b=1)/\x.l.length<=4) :
 ∃a,b8 P (AS K right q l).1 (bO (AS K right q l).2++R) fa a/\a.length=ord.length+l.length/\((AS K right q l).1.Y K).i=true:=by
 cases right with
 |true=>exact PR j g l q R ord h d f
 |false =>
  obtain⟨a,m,e,k⟩:=PR j g l.reverse q R ord (h.perm (vy R (Wl l).symm)) d λx hx=>f x (List.mem_reverse.1 hx);exact⟨a,m.perm (vy R (Wl _).symm),by rw[e,vO],k⟩
def qlo(K:Nat)(right:Bool)(l:List aF)(q:Ys):((AS K right q l).2.map λx=>x.l.length)=l.map (λ_=>1)/\(AS K right q l).2.map aF.b=l.map aF.b:=by
 cases right with
 |true=>exact jV K l q
 |false =>
  obtain⟨h1,a⟩:=jV K l.reverse q;refine⟨?_,?_⟩
  .show(lA K q l.reverse).2.reverse.map _=_;rw[ug,h1,ug,List.reverse_reverse]
  .show(lA K q l.reverse).2.reverse.map _=_;rw[ug,a,ug,List.reverse_reverse]
def Wn(s:aF)(r:Bool):(Zv s r).length=s.l.length:=by unfold Zv;cases r<;>simp
def PS{s:aF}{r:Bool}{p:bw}(h:p∈Zv s r):p.id∈s.l/\(p.d=0∨p.d=1):=by
 unfold Zv at h;cases r with
 |true =>
  obtain⟨i,h1,rfl⟩:=vb.1 h;exact⟨h1,.inr rfl⟩
 |false =>
  obtain⟨i,h1,rfl⟩:=vb.1 h;exact⟨List.mem_reverse.1 h1,.inl rfl⟩
def PT{a b n m:Nat}(P:Nat->Nat)(K:Nat)(h:a<=b):∀y,aB P K a y<=aB P K b y:=λy=>by
 unfold aB;by_cases c:y=K
 .rw[wl c,wl c];exact h
 .rw[we c,we c];exact wc _
def Wo{a b:Nat}(P:Nat->Nat)(K:Nat)(h:a<=b){c:Nat}:∀y,aB (aB P K c) K a y<=aB P K b y:=λy=>by
 unfold aB;by_cases c:y=K
 .rw[wl c,wl c];exact h
 .rw[we c,we c,we c];exact wc _
def G2(P:Nat->Nat)(K:Nat){a:Nat}(h:P K<=a):∀y,P y<=aB P K a y:=λy=>by
 unfold aB;by_cases c:y=K
 .rw[wl c,c];exact h
 .rw[we c];exact wc _
def PU(j:K<6)(right:Bool):∀(l:List aF) (P:Nat->Nat) (q:Ys),b8 P q H fa ord->(q.Y K).i=true->(∀s∈l,(∀a∈s.l,a∈ord)/\s.l.length<=4) →
 b8 (aB P K (P K+4*l.length)) (l.foldl (λq s=>q.fK K (Zv s right)) q) H fa ord/\((l.foldl (λq s=>q.fK K (Zv s right)) q).Y K).i=true
 |[],P,q,h,d,_=>⟨h.mono (G2 P K ae),d⟩
 |s::l,P,q,h,d,g=>by
  have e:=g s au;have h1:=h.fK j d (Zv s right) λp f=>⟨e.1 _ (PS f).1,(PS f).2⟩;obtain⟨m,k⟩:=PU j right l _ _ h1 (Wm d _) λx hx=>g x (wT _ hx);refine⟨m.mono (Wo P K ?_),k⟩;rw[ZQ,Wn,vc];have:=e.2;omega
def qou(o:K<6)(right:Bool){l:List aF}(h:b8 P q H fa ord)(k:(q.Y K).i=true)(e:sP l)(j:∀a∈bO l,a∈ord) :
 b8 (aB P K (P K+16)) (uM K right q l) H fa ord/\((uM K right q l).Y K).i=true:=by
 unfold uM;cases right with
 |true =>
  obtain⟨m,f⟩:=PU o true l P q h k λs d=>⟨λa g=>j a (G1 d g),(e.2 s d).2⟩;exact⟨m.mono (PT (n:=0) (m:=0) P K (by have:=e.1;omega)),f⟩
 |false =>
  obtain⟨m,f⟩:=PU o false l.reverse P q h k λs d=>⟨λa g=>j a (G1 (List.mem_reverse.1 d) g),(e.2 s (List.mem_reverse.1 d)).2⟩;rw[vO] at m;exact⟨m.mono (PT (n:=0) (m:=0) P K (by have:=e.1;omega)),f⟩
def qql(r:K<6)(z:P K<=4096)(right:Bool)(s:ao){l:List aF}(h:b8 P q (bO l++R) fa ord)(g:(q.Y K).i=true)(o:sP l)(hw:G0 s l) :
 ∃u,b8 (aB P K (P K+16)) (nZ K right s q l).1 (bO (nZ K right s q l).2++R) fa u/\u.length<=ord.length+sQ s l/\((nZ K right s q l).1.Y K).i=true:=by
 have x:=G2 P K (a:=P K+16) ae;unfold nZ sQ;by_cases j:s.k=3
 .rw[wl j,wl j];have e:=hw.1 j;subst e;exact⟨_,(h.loop (th:=[]) (R:=R) (H':=bO [⟨0,[lK q K]⟩]++R) r g (.inl rfl) (wR _) z (.refl _) (.refl _)).mono x,au,PQ _ _ _ _⟩
 rw[we j,we j];by_cases A:s.k=6
 .rw[wl A]
  match l,hw.2 A with
  |a::t,_ =>
   refine⟨_,(h.loop (th:=[]) (R:=bO (a::t)++R) (H':=bO (⟨a.b,a.l++[lK q K]⟩::t)++R) r g (.inl rfl) (wR _) z (.refl _) ?_).mono x,?_,PQ _ _ _ _⟩
   .rw[yc,yc];show(a.l++[lK q K]++bO t++R).Perm _;rw[wX,wX,wX];exact List.perm_middle
   .simp
 rw[we A];by_cases B:s.k=7
 ·rw[wl B];have I:∀p∈Zv (l.getD 0 be) right,p.id∈ord/\(p.d=0∨p.d=1):=λp E=>by
   obtain⟨f,C⟩:=PS E;refine⟨h.sub (wS.2 (.inl ?_)),C⟩
   match l,f with
   |[],f=>cases f
   |a::t,f=>exact G1 (s:=a) au f
  refine⟨ord,(h.fK r g _ I).mono (PT (n:=0) (m:=0) P K ?_),ae,Wm g _⟩;rw[Wn]
  match l,o with
  |[],_=>exact xH _ _
  |a::t,o =>
   have:=(o.2 a au).2;show P K+a.l.length<=_;omega
 rw[we B];obtain⟨u,m,e,D⟩:=qqk r z right l h g o.2;exact⟨u,m.mono x,ae,D⟩
def PV(K:Nat)(right:Bool)(s:ao)(q:Ys){l:List aF}(d:sP l):uq s l (nZ K right s q l).2:=by
 unfold nZ uq uN;by_cases i:s.k=3
 .rw[wl i,wl i];refine⟨rfl,λx hx=>?_⟩;have e:x=⟨0,[lK q K]⟩:=wM.1 hx;rw[e];exact .inl rfl
 rw[we i,we i];by_cases g:s.k=6
 .rw[wl g,wl g]
  match l,d with
  |[],_=>exact⟨rfl,λx hx=>(by cases hx)⟩
  |a::t,d =>
   refine⟨by show(a.l++[lK q K]).length::_=_;rw[wD];rfl,λx hx=>?_⟩;rcases wK.1 hx with r|r
   .rw[r];exact(d.2 a au).1
   .exact(d.2 x (by simp[r])).1
 rw[we g,we g];by_cases f:s.k=7
 .rw[wl f,wl f];exact⟨rfl,λx hx=>(d.2 x hx).1⟩
 rw[we f,we f];obtain⟨h1,o⟩:=qlo K right l q;refine⟨h1,λx hx=>?_⟩;have:x.b∈(AS K right q l).2.map aF.b:=vb.2 ⟨x,hx,rfl⟩;rw[o] at this;obtain⟨y,j,e⟩:=vb.1 this;rw[←e];exact(d.2 y j).1
end
def PW(K:Nat):∀(a b:List aF) (q:Ys),lA K q (a++b)=((lA K (lA K q a).1 b).1,(lA K q a).2++(lA K (lA K q a).1 b).2)
 |[],b,q=>rfl
 |s::a,b,q=>by
  have d:=PW K a b (q.loop K s.b s.l);show((lA K (q.loop K s.b s.l) (a++b)).1,⟨s.b,[lK q K]⟩::(lA K (q.loop K s.b s.l) (a++b)).2)=_;rw[d];rfl
def qov(K:Nat)(l:List aF)(q:Ys):(lA K q l).2.length=l.length:=by
 have h:=vD List.length (jV K l q).1;simpa using h
def zA{α:Type}(l:List α)(d:α){i:Nat}(h:i<l.length):l.take (i+1)=l.take i++[l.getD i d]:=by
 rw[List.take_add_one,wh,wj h];rfl
def qlp{α:Type}(l:List α)(d:α){i:Nat}(h:i<l.length):l.drop i=l.getD i d::l.drop (i+1):=by
 rw[List.drop_eq_getElem_cons h,wh,wj h];rfl
def Wp{α:Type}(a b:List α)(x z:α):(a++x::b).set a.length z=a++z::b:=by
 induction a with
 |nil=>rfl
 |cons y a d=>show y::(a++x::b).set a.length z=_;rw[d];rfl
def Wq{α:Type}(a b:List α)(x d:α):(a++x::b).getD a.length d=x:=by
 rw[wh];simp
def Wr(K:Nat)(q:Ys)(l:List aF):∀i,i<=l.length->un K true q l i=((lA K q (l.take i)).1,(lA K q (l.take i)).2++l.drop i)
 |0,_=>rfl
 |i+1,h=>by
  have d:=Wr K q l i ae;show GU K i (un K true q l i)=_;rw[d,zA l be ae,PW,qlp l be (i:=i) ae];have a:(lA K q (l.take i)).2.length=i:=by rw[qov,vB];omega
  generalize g:lA K q (l.take i)=z at *
  unfold GU;have f:(z.2++l.getD i be::l.drop (i+1)).getD i be=l.getD i be:=by
   have:=Wq z.2 (l.drop (i+1)) (l.getD i be) be;rw[a] at this;exact this
  have e:∀w,(z.2++l.getD i be::l.drop (i+1)).set i w=z.2++w::l.drop (i+1):=λw=>by
   have:=Wp z.2 (l.drop (i+1)) (l.getD i be) w;rw[a] at this;exact this
  show(z.1.loop K _ _,(z.2++l.getD i be::l.drop (i+1)).set i _)=_;rw[e,f];show _=(z.1.loop K (l.getD i be).b (l.getD i be).l,z.2++[⟨(l.getD i be).b,[lK z.1 K]⟩]++l.drop (i+1));rw[wX];rfl
def Ws(K:Nat)(q:Ys)(l:List aF):∀i,i<=l.length->un K false q l i=((lA K q (l.reverse.take i)).1,l.take (l.length-i)++(lA K q (l.reverse.take i)).2.reverse)
 |0,_=>by
  show(q,l)=(q,l.take (l.length-0)++[]);rw[Nat.sub_zero,xm,vu]
 |i+1,h=>by
  have e:=Ws K q l i ae;show GU K (l.length-1-i) (un K false q l i)=_;have f:l.reverse.getD i be=l.getD (l.length-1-i) be:=by
   rw[wh,wh,xF ae]
  rw[e,zA l.reverse be (i:=i) (by rw[vO];omega),PW,f,show l.length-i=l.length-1-i+1 by omega,zA l be (i:=l.length-1-i) ae];have a:(l.take (l.length-1-i)).length=l.length-1-i:=by rw[vB];omega
  rw[show l.length-(i+1)=l.length-1-i by omega];generalize o:lA K q (l.reverse.take i)=z at *
  generalize s:l.getD (l.length-1-i) be=d at *
  generalize r:l.length-1-i=m at *
  have k:l.take m++[d]++z.2.reverse=l.take m++d::z.2.reverse:=by rw[wX];rfl
  rw[k];unfold GU;have j:(l.take m++d::z.2.reverse).getD m be=d:=by
   have:=Wq (l.take m) z.2.reverse d be;rw[a] at this;exact this
  have g:∀w,(l.take m++d::z.2.reverse).set m w=l.take m++w::z.2.reverse:=λw=>by
   have:=Wp (l.take m) z.2.reverse d w;rw[a] at this;exact this
  show(z.1.loop K _ _,(l.take m++d::z.2.reverse).set m _)=(z.1.loop K d.b d.l,l.take m++(z.2++[(⟨d.b,[lK z.1 K]⟩:aF)]).reverse);rw[g,j,List.reverse_append];rfl
def Wt(K:Nat)(right:Bool)(q:Ys)(l:List aF):un K right q l l.length=AS K right q l:=by
 cases right with
 |true =>
  rw[Wr K q l l.length (wc _),xm,List.drop_length,vu];rfl
 |false =>
  rw[Ws K q l l.length (wc _),wW,List.take_zero,List.nil_append,show l.reverse.take l.length=l.reverse by rw[←vO,xm]];rfl
def sR(s:ao)(l:List aF):Nat:=if s.k=3∨s.k=6 then 1 else if s.k=7 then 0 else l.length
def qlq(r:Rw)(k:Nat):r.gv k (r.sl k)=r:=by
 unfold Rw.gv;have e:aB r.sl k (r.sl k)=r.sl:=funext λe=>by
  unfold aB;by_cases c:e=k
  .rw[wl c,c]
  .rw[we c]
 rw[e]
structure tH(r:Rw)(k:Nat):Prop where
 b:sP (r.sl k)
 n:(r.sl k).length<=r.bn k
 ne:∀a∈r.sl k,a.l≠[]
def ow(s:ao)(r:Rw)(k:Nat):Prop:=(s.k=6->∃sl,r.sl k=[sl]/\r.bn k=1)/\(s.k=7->r.sl k≠[])
def stT(q:Ys)(x:Wx)(hx:x.Im)(v:Nat->Nat)(r:Rw)(hr:r.n<=16)(K:Nat)(o:K<6)(s:ao)(i:s.y=ofNat K+1)(u:s.k≠3)(right:Bool)(k:Nat)(j:k<16)(gn:gP q K 8)(ok:tH r k)(A:ow s r k) :
 aR aw G17 120 [p0,.agg s.c,.own (10+k) (r.vs k) 0 (r.sl k).length none,iI (rI right)] (q.hw x v (r.h [])) (.own (10+k) (r.vs k) 0 (r.sl k).length none)
  ((nZ K right s q (r.sl k)).1.hw x (aB v K (v K+sR s (r.sl k))) ((r.gv k (nZ K right s q (r.sl k)).2).h [])):=by
 unfold nZ sR;rw[we u];by_cases g:s.k=6
 .rw[wl g,wl (.inr g)];obtain⟨sl,e,C⟩:=A.1 g;have h1:=(ok.b.2 sl (by rw[e];simp)).2;have D:=ok.ne sl (by rw[e];simp);have:=qon q x hx v r hr K o s i g (gn.mono ae) (rI right) k j sl e C (ue.2 D) ae;rw[e];exact this
 rw[we g,we (show ¬(s.k=3∨s.k=6) from λh=>h.elim u g)];by_cases f:s.k=7
 .rw[wl f,wl f,LN,qlq];have z:0<(r.sl k).length:=ue.2 (A.2 f);refine qoo q x v r K o s i f (gn.mono ae) right k j (r.sl k).length z (by have:=ok.n;omega) ?_;have:=(ok.b.2 _ (ya (d:=be) z)).2;omega
 rw[we f,we f,←Wt];exact qoq q x hx v r hr K o s i u g f right k j (gn.mono (by have:=ok.b.1;omega)) ok.n λa B=>⟨ok.ne a B,by have:=(ok.b.2 a B).2;omega⟩
def Rw.G3(r:Rw)(k:Nat)(l:List aF):Rw:={ r with vs:=aB r.vs k (r.vs k+1),bn:=aB r.bn k 1,sl:=aB r.sl k l }
def LU{i vi j a:Nat}{x:T}(hx:aH x=true):nj i vi j a x=x:=by
 cases x<;>first|rfl|(simp[aH,zK] at hx;done)|(unfold nj;simp only[hx,wm])
def Wv{i vi a m aj off len:Nat}{c:Option Nat}(h:m<26):nj i vi 26 a (.own m aj off len c) = .own m aj off len c:=by
 show(bif m==26 then _ else _)=_;rw[show(m==26)=false by simp;omega];rfl
def qqn(r:Rw)(k:Nat)(id:List aF)(a:id.length=1)(j:Nat)(d:j<16):[T.own (10+j) (aB r.vs k (r.vs k+1) j) 0 (aB r.sl k id j).length none]=[bif j==k then T.own 26 0 0 1 none else .own (10+j) (r.vs j) 0 (r.sl j).length none].map (nj (10+k) (r.vs k) 26 0):=by
 unfold aB;by_cases c:j=k
 .subst c;rw[wl rfl,wl rfl,wF,a];rfl
 .rw[we c,we c,show(j==k)=false by simpa using c,wp];show _=[nj _ _ _ _ _];rw[Wv ae]
def qrH(i vi a:Nat)(x:Wx)(hx:x.Im):[x.sl,.own 1 0 0 6 none,.own 2 0 0 6 none,x.cr,x.he,x.fa,uI x.d]=[x.sl,.own 1 0 0 6 none,.own 2 0 0 6 none,x.cr,x.he,x.fa,uI x.d].map (nj i vi 26 a):=by
 show _=[nj i vi 26 a x.sl,.own 1 0 0 6 none,.own 2 0 0 6 none,nj i vi 26 a x.cr,nj i vi 26 a x.he,nj i vi 26 a x.fa,uI x.d];rw[LU hx.sl,LU hx.cr,LU hx.he,LU hx.fa]
def qrI(i vi a:Nat)(ln v:Nat->Nat)(e:Nat)(he:e<6):(tB ln v).get e=((tB ln v).get e).map (nj i vi 26 a):=by
 show [T.own (3+e) _ _ _ _]=[nj i vi 26 a (.own (3+e) _ _ _ _)];rw[Wv ae]
def qrJ{aa:Wa}{nt:Nat}{l:Wa}{K0:Nat}(h0:K0<=26)(q:Ys)(x:Wx)(hx:x.Im)(v:Nat->Nat)(r:Rw)(hr:r.n<=16)(k:Nat)(f:k<16)(id:List aF)(d:id.length=1){vs aS:JO}
 (g:vs.map (ad (10+k) (r.vs k) 26 0)=aS) :
 am G17 aa nt l K0 vs (Hg (gq q x v) (LP r.o r.n k r.vs (λj=>(r.sl j).length) (.own 26 0 0 1 none)) r.row [.mk 0 2 1 (λj=>(id.getD j be).c) false false none]) aS (q.hw x v ((r.G3 k id).h [])):=by
 have u:=qrH (10+k) (r.vs k) 0 x hx;have s:=qrI (10+k) (r.vs k) 0 (λe=>(q.tb e).length) v;have i:=λj (a:j<r.n)=>qqn r k id d j ae;refine .trans (am.rF (10+k) 26 (bi:=r.row k) ae rfl h0 ?_ rfl rfl) ?_
 .cases qW f
  all_goals rfl
 rw[show(r.row k).aj=r.vs k from rfl,show(aq.mk 0 2 1 (λj=>(id.getD j be).c) false false none).aj=0 from rfl,g];refine .same ?_;cases qW f
 all_goals
  refine .cons ⟨rfl,rfl,rfl,λh=>h,λ_ _=>u⟩ ?_ rfl
  repeat (first|exact .nil|refine .cons ⟨rfl,rfl,rfl,λh=>h,λ_ _=>rfl⟩ ?_ rfl|refine .cons ⟨rfl,rfl,rfl,λh=>h,λj a=>s j a⟩ ?_ rfl|refine .cons ⟨rfl,rfl,rfl,λh=>h,λj a=>i j a⟩ ?_ rfl)
def dl{α:Type}(right:Bool)(l:List α):List α:=bif right then l else l.reverse
def G4{α:Type}(right:Bool)(l:List α):(dl right l).length=l.length:=by cases right<;>simp[dl]
def Ww{α:Type}(right:Bool)(l:List α)(d:α){i:Nat}(h:i<l.length):(dl right l).getD i d=l.getD (jx right l.length i) d:=by
 cases right with
 |true=>rfl
 |false =>
  show l.reverse.getD i d=l.getD (l.length-1-i) d;rw[wh,wh,xF h]
def CJ(K:Nat)(right:Bool)(q:Ys)(l:List aF)(i:Nat):Ys:=((dl right l).take i).foldl (λq s=>q.fK K (Zv s right)) q
def Wy(K:Nat)(right:Bool)(q:Ys)(l:List aF):CJ K right q l l.length=uM K right q l:=by
 unfold CJ uM;rw[show(dl right l).take l.length=dl right l by rw[←G4 right l,xm]];rfl
def Wz(K:Nat)(right:Bool)(q:Ys)(l:List aF){i:Nat}(h:i<l.length):CJ K right q l (i+1)=(CJ K right q l i).fK K (Zv (l.getD (jx right l.length i) be) right):=by
 unfold CJ;rw[zA (dl right l) be (by rw[G4];exact h),xL,Ww right l be h];rfl
def PZ(s:aF)(right:Bool):(Zv s right).length=s.l.length:=by unfold Zv;cases right<;>simp
def P0(K:Nat)(right:Bool)(q:Ys)(l:List aF)(e:∀a∈l,a.l.length<=4)(B:Nat):∀i,i<=l.length->gP q K (B+4*i)->gP (CJ K right q l i) K B
 |0,_,h=>h
 |i+1,g,h=>by
  rw[Wz K right q l ae];refine gP.fK ?_;have:=P0 K right q l e (B+4) i ae (by rw[show B+4+4*i=B+4*(i+1) by omega];exact h);refine this.mono ?_;rw[PZ];have f:jx right l.length i<l.length:=by unfold jx;cases right<;>simp<;>omega
  have:=e _ (ya (d:=be) f);omega
def EX{right:Bool}{n i:Nat}(h:i<n):jx right n i<n:=by unfold jx;cases right<;>simp<;>omega
def WA{right:Bool}{n i:Nat}(h:i<n)(a:n<1000000):(bif decide (rI right=0) then i64.wrap (i64.wrap (ofNat n-1)-ofNat i) else ofNat i)=ofNat (jx right n i):=by
 cases right with
 |true=>rfl
 |false =>
  show i64.wrap (i64.wrap (ofNat n-1)-ofNat i)=ofNat (n-1-i);rw[Qp (x:=ofNat n-1) bH bH,Qp bH bH];simp only[wu];omega
def ex:Ex:=.normal
def qow(h0:qa)(q:Ys)(x:Wx)(v:Nat->Nat)(r:Rw)(K:Nat)(E:K<6)(G:Nat->ao)(M i wk:Nat)(right:Bool)(k:Nat)(u:k<16)(B:k<r.n)(ok:tH r k)(gn:gP q K 20) :
 Pq 83 h0 [2,2,2,0,1,2,0,0,2] [0,1,2,3,4,5,12,13] [p0,aU G M none,oL r.o r.n,yK K,iI (rI right),iI (ofNat wk),iI (ofNat i),iI (ofNat k)] (q.hw x v (r.h []))
  .normal [0,1,2,3,4,5,12] [p0,aU G M none,oL r.o r.n,yK K,iI (rI right),iI (ofNat wk),iI (ofNat i)] ((uM K right q (r.sl k)).hw x v (r.h [])):=by
 obtain⟨Bu,Q⟩:=qE aw G17 122;obtain⟨PI,P⟩:=qE aw G17 121;have run:=λ{p l U h l1 W h1 e} (k:cD 83 p l U h l1=some (e,W,h1))=>cf h0 k
 let l:=r.sl k
 let n:=l.length
 have Gu:n<=4:=ok.b.1
 let a:T:=p0
 let row:T:=aU G M none
 let f:T:=iI (rI right)
 let w:T:=iI (ofNat wk)
 let g:T:=iI (ofNat i)
 let s:T:=iI (ofNat k)
 let V:Nat->JO:=λj=>[a,row,oL r.o r.n,yK K,f,w,g,s,iI (ofNat j)]
 let st:Nat->Ys:=λj=>CJ K right q l j
 let d:Nat->qa:=λj=>(st j).hw x v (r.h [])
 obtain⟨e1,e2⟩:=PH E;have R:(decide (0<=ofNat K)&&decide (ofNat K<6))=true:=by simp only[wu,wg,wC];omega
 have A:∀j,d j=Hg (gq (st j) x v) (ou r.o r.n r.vs (λj=>(r.sl j).length)) (fX r.row k (ie (r.vs k) (r.bn k) (r.sl k))) []:=λj=>PE (st j) x v r k [];have I:dj k r.n=true:=by unfold dj;simp only[wu,wg,wC];omega
 have round:∀j,j<n->Pq 83 h0 [0,0,2,2,2,2,0,1,2,0,0,2] [0,1,2,3,4,5,12,13,14] (V j) (d j) .normal [0,1,2,3,4,5,12,13,14] (V (j+1)) (d (j+1)):=by
  intro j z
  let m:=jx right n j
  have D:m<n:=EX z;have lj:gP (st j) K 4:=P0 K right q l (λa ha=>(ok.b.2 a ha).2) 4 j (by show j<=n;omega) (gn.mono ae)
  let sl:=l.getD m be
  have Lb:sl.l.length<=4:=(ok.b.2 sl (ya D)).2;have O:=run ((ov9 a row f (yK K) w i j k u (gq (st j) x v) r.row r.o r.n r.vs (λj=>(r.sl j).length) (r.bn k) (r.sl k)).trans (qk au (qk I (qk au (qk (qL B) (qk au (qk (wq (by simp only[wu];have:j<(r.sl k).length:=z;omega)) rfl)))))));have pB:=run (qus a row (oL r.o r.n) (yK K) f w g s (ofNat j) (d j));have pC:Pq 83 h0 [1,2,0,1,2,0,0,2,2,2,2,0,1,2,0,0,2] [0,1,2,3,4,5,12,13,14,15] [a,row,oL r.o r.n,yK K,f,w,g,s,iI (ofNat j),iI (ofNat j)] (d j) .normal [0,1,2,3,4,5,12,13,14,15] [a,row,oL r.o r.n,yK K,f,w,g,s,iI (ofNat j),iI (ofNat m)] (d j):=by
   have S:=quw a row (yK K) w (rI right) (ofNat i) (ofNat j) (ofNat j) k u (gq (st j) x v) r.row r.o r.n r.vs (λj=>(r.sl j).length) (r.bn k) (r.sl k);have ej:=WA (right:=right) z ae;show Pq 83 h0 _ _ _ _ _ _ [_,_,_,_,_,_,_,_,_,iI (ofNat (jx right n j))] _;rw[←ej,A];cases right with
   |true=>exact run (S.trans (qF (by simp[rI]) rfl))
   |false=>exact run (S.trans (qk (by simp[rI]) (qk au (qk I (qk au (qk (qL B) (qk au rfl)))))))
  have Z:TO 122 [.agg sl.c,f] (lV (Zv sl right)):=by
   have:=U8 (b:=sl.b) (l:=sl.l) (r:=rI right) ae (by cases right<;>simp[rI]);rw[VN] at this;exact this
  have X:TO 121 [lV ((st j).Y K).pe,lV (Zv sl right)] (.new (lV (Zz ((st j).Y K).pe (Zv sl right)))):=Vl _ _ (by have:=lj.2.2.2.2;omega) (by rw[PZ];omega);have C:=qux Bu PI x (λe=>((st j).Y e).y) (gq (st j) x v) r.row k u r.o r.n K wk i j m M (rI right) G r.vs (λj=>(r.sl j).length) (r.bn k) (r.sl k) (Zv sl right) (Zz ((st j).Y K).pe (Zv sl right));rw[e1,e2,show(r.sl k).getD (0+m) be=sl by rw[wn]] at C;have cm:dj m (r.sl k).length=true:=by unfold dj;simp only[wu,wg,wC];have:m<(r.sl k).length:=D;omega
  have C:=C.trans (qk R (qk (qL E) (PK B (qk au (qk cm (qk au (qk (qL (by have:=ok.n;have:m<(r.sl k).length:=D;omega)) (qk (qu Q Z) (qk (qu P X) (qk R (qk (by rw[qL E];rfl) rfl)))))))))));have pD:Pq 83 h0 [2,2,0,1,2,0,0,2,2,2,2,0,1,2,0,0,2] [0,1,2,3,4,5,12,13,14,15] [a,row,oL r.o r.n,yK K,f,w,g,s,iI (ofNat j),iI (ofNat m)] (d j) .normal [0,1,2,3,4,5,12,13,14] [a,row,oL r.o r.n,yK K,f,w,g,s,iI (ofNat j)] (d (j+1)):=by
   rw[A j];refine Pz.post (eD (qr (qr qp (qq Q)) (qq P)) h0 C) λnt=>?_;show am _ _ _ _ _ _ _ _ ((CJ K right q l (j+1)).hw x v (r.h []));rw[Wz K right q l z];unfold Ys.fK;rw[←PG,LL];exact Zt (x:=x) (Y:=λe=>((st j).Y e).y) (ln:=λe=>((st j).tb e).length) (v:=v) (L:=λe j'=>(((st j).tb e).getD j' eG).l) (rest:=r.h []) (K:=K) (y:=(Yn.mk ((st j).Y K).i ((st j).Y K).pl ((st j).Y K).ct ((st j).Y K).w (Zz ((st j).Y K).pe (Zv sl right))).y) (.refl _)
  have N:=run (qut a row (oL r.o r.n) (yK K) f w g s j (d (j+1)));rw[il ae] at N;rw[←A] at O;exact av O (av (fi 3 (av pB (av pC pD))) N)
 have last:=run ((quv a row f (yK K) w i n k u (gq (st n) x v) r.row r.o r.n r.vs (λj=>(r.sl j).length) (r.bn k) (r.sl k)).trans (qk au (qk I (qk au (qk (qL B) (qk au (qF (hZ (show ¬ofNat n<ofNat n by omega)) rfl)))))));rw[←A] at last;have lp:Pq 83 h0 [0,2,2,2,2,0,1,2,0,0,2] [0,1,2,3,4,5,12,13,14] (V 0) (d 0) (.exit 2) [0,1,2,3,4,5,12] [a,row,oL r.o r.n,yK K,f,w,g] (d n):=Pz.count qh V d (n:=n) au round (lk last);have p8:=run (ov8 a row (oL r.o r.n) (yK K) f w g s (d 0));have e:=Wy K right q l;have H:=Pz.seq (p:=[2,2,2,0,1,2,0,0,2]) qh p8 (fi 2 lp);show Pq 83 h0 _ _ _ (d 0) _ _ _ ((uM K right q l).hw x v (r.h []));rw[←e];exact H
def kV(a:Bool)(K:Nat)(p:ao×List aF):Nat:=if a=true/\p.1.y=ofNat K+1 then sQ p.1 p.2 else 0
section
variable {P:Nat->Nat} {q:Ys} {H H' R fa ord:List aL} {K:Nat}
def P1(k:K<6)(right d:Bool):∀(t:List (ao×List aF)) (P:Nat->Nat) (q:Ys) (R ord:List aL),b8 P q (bO (t.map Prod.snd).flatten++R) fa ord->(q.Y K).i=true →
 (∀p∈t,sP p.2/\(p.1.y=ofNat K+1->G0 p.1 p.2))->P K+16*t.length<=4096 →
 ∃x,b8 (aB P K (P K+16*t.length)) (ms K right d q t).1 (bO (ms K right d q t).2.flatten++R) fa x/\x.length<=ord.length+(t.map (kV d K)).sum/\((ms K right d q t).1.Y K).i=true
 |[],P,q,R,ord,h,f,_,_=>⟨ord,h.mono (G2 P K ae),au,f⟩
 |(s,l)::t,P,q,R,ord,h,f,r,u=>by
  have j:=r (s,l) au;have M:bO (((s,l)::t).map Prod.snd).flatten=bO l++bO (t.map Prod.snd).flatten:=yR _ _;rw[M] at h;have u:P K+16*(t.length+1)<=4096:=u;have step:∃z,b8 (aB P K (P K+16)) (lL K right d s q l).1 (bO (lL K right d s q l).2++(bO (t.map Prod.snd).flatten++R)) fa z/\z.length<=ord.length+kV d K (s,l)/\((lL K right d s q l).1.Y K).i=true:=by
   unfold lL;by_cases c:d=true/\s.y=ofNat K+1
   .rw[wl c];obtain⟨o,m,e,g⟩:=qql (P:=P) (R:=bO (t.map Prod.snd).flatten++R) k ae right s (by rw[←wX];exact h) f j.1 (j.2 c.2);exact⟨o,m,by unfold kV;rw[wl c];exact e,g⟩
   .rw[we c];have h':b8 P q (bO l++(bO (t.map Prod.snd).flatten++R)) fa ord:=by rw[←wX];exact h
    obtain⟨m,g⟩:=qou k right h' f j.1 λa J=>h'.sub (wS.2 (.inl J));exact⟨ord,m,xH _ _,g⟩
  obtain⟨B,m1,Q,E⟩:=step;have N:b8 (aB P K (P K+16)) (lL K right d s q l).1 (bO (t.map Prod.snd).flatten++(bO (lL K right d s q l).2++R)) fa B:=m1.perm (by
   rw[←wX,←wX];exact vy R xU)
  obtain⟨A,C,O,D⟩:=P1 k right d t _ _ _ _ N E (λp I=>r p (wT _ I)) (by rw[ZQ];omega);refine⟨A,(C.mono (Wo P K ?_)).perm ?_,?_,D⟩
  .rw[ZQ,vc];omega
  .show List.Perm _ (bO ((lL K right d s q l).2::(ms K right d (lL K right d s q l).1 t).2).flatten++R);rw[List.flatten_cons,yR,←wX];exact vy R xU
  .rw[xA,List.sum_cons];omega
def kW(K:Nat)(right d:Bool):∀(t:List (ao×List aF)) (q:Ys),(ms K right d q t).2.length=t.length/\∀i p,t[i]?=some p->∃e,(ms K right d q t).2.getD i []=(lL K right d p.1 e p.2).2
 |[],_=>⟨rfl,λi p h=>by simp at h⟩
 |(s,l)::t,q=>by
  obtain⟨h1,f⟩:=kW K right d t (lL K right d s q l).1;refine⟨by show _+1=_+1;rw[h1],λi p a=>?_⟩
  match i,a with
  |0,a=>obtain rfl:(s,l)=p:=by simpa using a
        exact⟨q,rfl⟩
  |i+1,a=>exact f i p (by simpa using a)
def WB(x:K<6)(right f:Bool)(row:List ao)(d:List (List aF))(C:row.length=d.length)(h:b8 P q (bO d.flatten++R) fa ord)(r:(q.Y K).i=true)
 (s:∀p∈row.zip d,sP p.2/\(p.1.y=ofNat K+1->G0 p.1 p.2)) (u:P K+16*row.length<=4096) :
 ∃z,b8 (aB P K (P K+16*row.length)) (ni K right f row q d).1 (bO (ni K right f row q d).2.flatten++R) fa z/\z.length<=ord.length+((row.zip d).map (kV f K)).sum/\((ni K right f row q d).1.Y K).i=true:=by
 have g:(row.zip d).length=row.length:=by rw[List.length_zip,C,Nat.min_self]
 have es:(row.zip d).map Prod.snd=d:=List.map_snd_zip ae;unfold ni;cases right with
 |true =>
  obtain⟨o,m,e,j⟩:=P1 x true f (row.zip d) P q R ord (by rw[es];exact h) r s (by rw[g];exact u);rw[g] at m;exact⟨o,m,e,j⟩
 |false =>
  have D:(((row.zip d).reverse).map Prod.snd).flatten=d.reverse.flatten:=by rw[ug,es]
  have k:∀l:List (List aF),(bO l.reverse.flatten).Perm (bO l.flatten):=λl=>by
   induction l with
   |nil=>exact .refl _
   |cons a t A =>
    have I:(a::t).reverse.flatten=t.reverse.flatten++a:=by simp
    have E:(a::t).flatten=a++t.flatten:=rfl;rw[I,E,yR,yR];exact xU.trans (xf _ A)
  obtain⟨o,m,e,j⟩:=P1 x false f (row.zip d).reverse P q R ord (by rw[D];exact h.perm (vy R (k d).symm)) r (λp B=>s p (List.mem_reverse.1 B)) (by rw[vO,g];exact u);rw[vO,g] at m;refine⟨o,m.perm (vy R (k _).symm),?_,j⟩;rw[ug,List.sum_reverse] at e;exact e
def P3(K:Nat)(right g:Bool)(row:List ao)(d:List (List aF))(r:row.length=d.length)(q:Ys) :
 (ni K right g row q d).2.length=d.length/\∀i s l,row[i]?=some s->d[i]?=some l->∃j,(ni K right g row q d).2.getD i []=(lL K right g s j l).2:=by
 have k:(row.zip d).length=d.length:=by rw[List.length_zip,r,Nat.min_self]
 have o:∀i s l,row[i]?=some s->d[i]?=some l->(row.zip d)[i]?=some (s,l):=λi s l h1 f=>by
  rw[xp];exact⟨h1,f⟩
 unfold ni;cases right with
 |true =>
  obtain⟨h1,f⟩:=kW K true g (row.zip d) q;exact⟨h1.trans k,λi s l a b=>f i (s,l) (o i s l a b)⟩
 |false =>
  obtain⟨h1,f⟩:=kW K false g (row.zip d).reverse q;rw[vO,k] at h1;refine⟨by show(List.reverse _).length=_;rw[vO,h1],λi s l a b=>?_⟩;have u:i<d.length:=by
   rcases wt i d.length with c|c
   .exact c
   .rw[wz c] at b;cases b
  obtain⟨j,e⟩:=f (d.length-1-i) (s,l) (by
   rw[xF ae,k,show d.length-1-(d.length-1-i)=i by omega];exact o i s l a b)
  refine⟨j,?_⟩;rw[←e];show(List.reverse _).getD i []=_;rw[wh,wh,xF ae,h1]
end
def WC{α:Type}{d:α}{l m:List α}(h:l.length=m.length)(e:∀(i:Nat) (a:α),m[i]?=some a->l.getD i d=a):l=m:=by
 refine List.ext_getElem h λi h1 f=>?_;have:=e i m[i] (wj f);rw[←this,wh,wj h1];rfl
def jW{α:Type}{d:α}{l:List α}{i:Nat}(h:i<l.length):l[i]?=some (l.getD i d):=by
 rw[wh,wj h];rfl
def jX{α:Type}{l:List α}{i:Nat}{a:α}(h:l[i]?=some a):i<l.length:=by
 rcases wt i l.length with c|c
 .exact c
 .rw[wz c] at h;cases h
def WE{α β:Type}{l:List α}{m:List β}{p:α×β}(h:p∈l.zip m):∃i:Nat,l[i]?=some p.1/\m[i]?=some p.2:=by
 obtain⟨i,a⟩:=xc.1 h;exact⟨i,xp.1 a⟩
section
variable {P:Nat->Nat} {q:Ys} {H H' R fa ord:List aL} {K:Nat}
def qox(s:ao)(l:List aF):(uN s l).length=sQ s l:=by
 unfold uN sQ;by_cases d:s.k=3
 .rw[wl d,wl d];rfl
 rw[we d,we d];by_cases e:s.k=6
 .rw[wl e]
  match l with
  |[]=>rfl
  |a::t=>simp
 rw[we e];split<;>simp
def uq.len{s:ao}{l l':List aF}(h:uq s l l'):l'.length=sQ s l:=by
 rw[←qox,←h.1,wQ]
def P4(s:ao)(l:List aF):Prop:=sP l/\G0 s l/\(s.k=6->∀a∈l,a.l.length<=3)
def uq.b{s:ao}{l l':List aF}(h:uq s l l')(g:P4 s l):sP l':=by
 refine⟨?_,λx hx=>⟨h.2 x hx,?_⟩⟩
 .rw[h.len];unfold sQ;have:=g.1.1;split<;>omega
 .have d:x.l.length∈uN s l:=by rw[←h.1];exact vb.2 ⟨x,hx,rfl⟩
  revert d;generalize x.l.length=n;unfold uN;by_cases o:s.k=3
  .rw[wl o];intro d;have:n=1:=by simpa using d
   omega
  rw[we o];by_cases i:s.k=6
  .rw[wl i]
   match l,g with
   |[],_=>intro d;cases d
   |a::t,g =>
    intro d;rcases wK.1 d with r|r
    .have:=g.2.2 i a au;omega
    .obtain⟨y,f,e⟩:=vb.1 r;have:=(g.1.2 y (by simp[f])).2;omega
  rw[we i];by_cases j:s.k=7
  .rw[wl j];intro d;obtain⟨y,f,e⟩:=vb.1 d;have:=(g.1.2 y f).2;omega
  .rw[we j];intro d;obtain⟨y,f,e⟩:=vb.1 d;omega
def qm0(P:Nat->Nat)(K:Nat):∀y,aB P K (P K) y<=P y:=λy=>by
 unfold aB;by_cases c:y=K
 .rw[wl c,c];exact wc _
 .rw[we c];exact wc _
def WF(r:Bool):zr r = -13∨zr r=179:=by cases r<;>simp[zr]
def qqo(u:K<6)(row:List ao)(right:Bool)(p:Ys×List (List aF))(j:row.length=p.2.length)(h:b8 P p.1 (bO p.2.flatten) fa ord)
 (I:∀t∈row.zip p.2,sP t.2/\(t.1.y=ofNat K+1->G0 t.1 t.2)) (hP:P K+32*row.length<=4096) :
 ∃A,b8 (aB P K (P K+32*row.length)) (lM row right p K).1 (bO (lM row right p K).2.flatten) fa A/\A.length<=ord.length+((row.zip p.2).map (kV true K)).sum ∧
  (lM row right p K).2.length=p.2.length/\∀(i:Nat) (s:ao) (l:List aF),row[i]?=some s->p.2[i]?=some l->(s.y=ofNat K+1->uq s l ((lM row right p K).2.getD i []))/\(s.y≠ofNat K+1->(lM row right p K).2.getD i []=l):=by
 unfold lM;cases E:Bt row K with
 |false =>
  rw[wl rfl];refine⟨ord,h.mono (G2 P K ae),xH _ _,rfl,λi s l h1 B=>⟨λe=>?_,λ_=>?_⟩⟩
  .unfold Bt at E;rw[List.any_eq_false] at E;exact absurd (wq e) (E s (wo h1))
  .rw[wh,B];rfl
 |true =>
  rw[we au];obtain⟨q,d⟩:=p;have j:row.length=d.length:=j;have h:b8 P q (bO d.flatten) fa ord:=h;have G6:∃g:Ys,(if (q.Y K).i=false then q.dz K ⟨true,zr (!right),(q.Y K).ct,true,(q.Y K).pe⟩ else q)=g/\b8 P g (bO d.flatten) fa ord/\(g.Y K).i=true:=by
   refine⟨_,rfl,?_⟩;cases r:(q.Y K).i with
   |true=>rw[we au];exact⟨h,r⟩
   |false =>
    rw[wl rfl];have Q:=h.yr K u;obtain⟨_,_,x,o4⟩:=Q.out r;refine⟨(h.dz (y:=⟨true,zr (!right),(q.Y K).ct,true,(q.Y K).pe⟩) (P':=P K) u ⟨Q.ct,λ_=>⟨WF _,?_,?_,?_⟩,λe=>(by cases e),λ_ _=>rfl⟩).mono (qm0 P K),?_⟩
    .show(q.Y K).pe.length<=_;rw[x];exact wR _
    .show CI (q.Y K).pe;rw[x];exact λi r=>absurd r au
    .show ∀p∈(q.Y K).pe,_;rw[x];exact λp hp=>(by cases hp)
    .show(aB q.Y K _ K).i=true;rw[ZQ]
  obtain⟨g,e1,m1,O⟩:=G6;simp only[];rw[e1];have P2:b8 P g (bO d.flatten++[]) fa ord:=by rw[vu];exact m1
  have U:=P3 K (!right) false row d j g;have e2:(ni K (!right) false row g d).2=d:=WC U.1 λi l r=>by
   obtain⟨M,e⟩:=U.2 i (row.getD i ⟨0,0,0,0,false⟩) l (jW (by rw[j];exact jX r)) r;rw[e];unfold lL;rw[we au]
  have G7:∃f:Ys,(if (g.Y K).pl≠zr (!right) then(ni K (!right) false row g d).1 else g)=f/\∃A,b8 (aB P K (P K+16*row.length)) f (bO d.flatten) fa A/\A.length<=ord.length/\(f.Y K).i=true:=by
   refine⟨_,rfl,?_⟩;by_cases c:(g.Y K).pl≠zr (!right)
   ·rw[wl c];obtain⟨o,m,e,i'⟩:=WB u (!right) false row d j P2 O I ae;rw[e2,vu] at m;refine⟨o,m,?_,i'⟩;have z:((row.zip d).map (kV false K)).sum=0:=by
     have:(row.zip d).map (kV false K)=(row.zip d).map λ_=>0:=va λa _=>by unfold kV;rw[we au]
     rw[this]
     induction row.zip d with
     |nil=>rfl
     |cons a t ih=>simpa using ih
    omega
   .rw[we c];exact⟨ord,m1.mono (G2 P K ae),wc _,O⟩
  obtain⟨f,e3,o2,W,Z,i2⟩:=G7;rw[e3];obtain⟨x,C,X,D⟩:=WB (R:=[]) u right true row d j (by rw[vu];exact W) i2 I (by rw[ZQ];omega);have S:=P3 K right true row d j f;rw[vu] at C;have J:=C.yr K u;obtain⟨k1,N,k3,k4⟩:=J.py D;have V:=C.dz u (y:=⟨((ni K right true row f d).1.Y K).i,zr right,((ni K right true row f d).1.Y K).ct,((ni K right true row f d).1.Y K).w,((ni K right true row f d).1.Y K).pe⟩) (P':=P K+32*row.length)
   ⟨J.ct,λ_=>⟨WF _,by rw[ZQ,ZQ] at N;exact wN N ae,k3,k4⟩,λe=>(by rw[show((ni K right true row f d).1.Y K).i=false from e] at D;cases D),J.fst⟩
  refine⟨x,V.mono λy=>?_,wN X (Nat.add_le_add_right Z _),S.1,λi s l h1 B=>?_⟩
  .unfold aB;by_cases c:y=K
   .rw[wl c,wl c];exact wc _
   .rw[we c,we c,we c,we c];exact wc _
  .obtain⟨M,e⟩:=S.2 i s l h1 B;have hz:(s,l)∈row.zip d:=wo (xp.2 ⟨h1,B⟩);refine⟨λc=>?_,λc=>?_⟩
   .show uq s l ((ni K right true row f d).2.getD i []);rw[e];unfold lL;rw[wl ⟨rfl,c⟩];exact PV K right s M (I _ hz).1
   .show(ni K right true row f d).2.getD i []=l;rw[e];unfold lL;rw[we (λk=>c k.2)]
def WH(row:List ao)(right:Bool)(p:Ys×List (List aF))(x:row.length=p.2.length)(h:b8 P p.1 (bO p.2.flatten) fa ord)
 (u:∀(i:Nat) (s:ao) (l:List aF),row[i]?=some s->p.2[i]?=some l->P4 s l) (E:∀(i:Nat) (s:ao),row[i]?=some s->1<=s.y) (A:∀y,y<6->P y+32*row.length<=4096):∀k,k<=6 →
 ∃r,b8 (λy=>if y<k then P y+32*row.length else P y) ((List.range k).foldl (lM row right) p).1 (bO ((List.range k).foldl (lM row right) p).2.flatten) fa r ∧
  r.length<=ord.length+((List.range k).map λK=>((row.zip p.2).map (kV true K)).sum).sum/\((List.range k).foldl (lM row right) p).2.length=p.2.length ∧
  ∀(i:Nat) (s:ao) (l:List aF),row[i]?=some s->p.2[i]?=some l->(1<=s.y/\s.y<=(k:Int)->uq s l (((List.range k).foldl (lM row right) p).2.getD i []))/\((k:Int)<s.y->((List.range k).foldl (lM row right) p).2.getD i []=l)
 |0,_=>⟨ord,h,au,rfl,λi s l _ a=>⟨λc=>absurd c ae,λ_=>by rw[wh];show(p.2[i]?).getD []=l;rw[a];rfl⟩⟩
 |k+1,Z=>by
  obtain⟨W,m1,X,n1,s1⟩:=WH row right p x h u E A k ae;rw[xj,xL];show ∃r,b8 _ (lM row right ((List.range k).foldl (lM row right) p) k).1 (bO (lM row right ((List.range k).foldl (lM row right) p) k).2.flatten) fa r/\_/\(lM row right ((List.range k).foldl (lM row right) p) k).2.length=_/\∀i s l,_->_->(_->uq s l ((lM row right ((List.range k).foldl (lM row right) p) k).2.getD i []))/\(_->(lM row right ((List.range k).foldl (lM row right) p) k).2.getD i []=l);generalize Y:(List.range k).foldl (lM row right) p=z at *
  have ed:∀(i:Nat) (s:ao) (o:List aF),row[i]?=some s->z.2[i]?=some o->sP o/\(s.y=ofNat k+1->p.2[i]?=some o):=λi s o h1 a=>by
   have Q:=jX a;have d:p.2[i]?=some (p.2.getD i []):=jW ae;have g:=u i s _ h1 d;have U:z.2.getD i []=o:=by rw[wh,a];rfl
   obtain⟨j,f⟩:=s1 i s _ h1 d;rw[U] at j f;by_cases c:(k:Int)<s.y
   .have e:=f c;rw[e];exact⟨g.1,λ_=>d⟩
   .by_cases C:1<=s.y
    .exact⟨(j ⟨C,ae⟩).b g,λe=>by simp only[wu] at e;omega⟩
    .exact absurd (E i s h1) C
  obtain⟨J,M,N,n2,I⟩:=qqo (K:=k) ae row right z (by rw[n1];exact x) m1 (λt O=>by
   obtain⟨i,h1,a⟩:=WE O;obtain⟨j,f⟩:=ed i _ _ h1 a;exact⟨j,λe=>(u i _ _ h1 (f e)).2.1⟩) (by rw[we ae];exact A k ae)
  have S:(row.zip z.2).map (kV true k)=(row.zip p.2).map (kV true k):=by
   refine List.ext_getElem? λi=>?_;rw[wE,wE];rcases wt i row.length with c|c
   .have h1:row[i]?=some (row.getD i ⟨0,0,0,0,false⟩):=jW c;have a:z.2[i]?=some (z.2.getD i []):=jW ae;have d:p.2[i]?=some (p.2.getD i []):=jW ae;rw[show(row.zip z.2)[i]?=some (row.getD i ⟨0,0,0,0,false⟩,z.2.getD i []) from xp.2 ⟨h1,a⟩,show(row.zip p.2)[i]?=some (row.getD i ⟨0,0,0,0,false⟩,p.2.getD i []) from xp.2 ⟨h1,d⟩];show some (kV true k (row.getD i _,_))=some (kV true k (row.getD i _,_));unfold kV;by_cases cc:(row.getD i ⟨0,0,0,0,false⟩).y=ofNat k+1
    .have:=(ed i _ _ h1 a).2 cc;rw[d] at this;rw[wa this]
    .rw[we (λh=>cc h.2),we (λh=>cc h.2)]
   .rw[wz (by rw[List.length_zip];omega),wz (by rw[List.length_zip];omega)]
  rw[S] at N;refine⟨J,M.mono λy=>?_,?_,n2.trans n1,λi s l h1 a=>?_⟩
  .show aB (λy=>if y<k then P y+32*row.length else P y) k ((if k<k then P k+32*row.length else P k)+32*row.length) y<=if y<k+1 then P y+32*row.length else P y;unfold aB;by_cases c:y=k
   .subst c;rw[wl rfl,we (Nat.lt_irrefl _),wl ae];exact wc _
   .rw[we c];show(if y<k then P y+32*row.length else P y)<=_;by_cases B:y<k
    .rw[wl B,wl ae];exact wc _
    .rw[we B,we ae];exact wc _
  .rw[vF,List.sum_append];simp only[xA,List.map_nil,List.sum_cons,List.sum_nil];omega
  .have Q:=jX a;have d:z.2[i]?=some (z.2.getD i []):=jW ae;obtain⟨j,f⟩:=s1 i s l h1 a;obtain⟨V,D⟩:=I i s _ h1 d;refine⟨λc=>?_,λc=>?_⟩
   .by_cases e:s.y=ofNat k+1
    .have:=V e;rwa[f (by simp only[wu] at e;omega)] at this
    .rw[D e];refine j ⟨c.1,?_⟩;simp only[wu] at e;omega
   .rw[D bH];exact f ae
end
structure OS where
 (q:Ys) (r:Rw) (c:Nat)
def lO(K:Nat)(right ai:Bool)(s:ao)(k:Nat)(z:OS):OS :=
 if ai=true/\s.y=ofNat K+1 then ⟨(nZ K right s z.q (z.r.sl k)).1,if s.k=3 then z.r.G3 k (nZ K right s z.q (z.r.sl k)).2 else z.r.gv k (nZ K right s z.q (z.r.sl k)).2,z.c+sR s (z.r.sl k)⟩
 else ⟨uM K right z.q (z.r.sl k),z.r,z.c⟩
def fw(K:Nat)(right ai:Bool)(G:Nat->ao)(n:Nat)(z:OS):Nat->OS
 |0=>z
 |i+1=>lO K right ai (G (jx right n i)) (jx right n i) (fw K right ai G n z i)
def OS.h(z:OS)(x:Wx)(v:Nat->Nat)(K:Nat):qa:=z.q.hw x (aB v K (v K+z.c)) (z.r.h [])
theorem EY(K:Nat)(right ai:Bool)(s:ao)(k:Nat)(z:OS):(lO K right ai s k z).q=(lL K right ai s z.q (z.r.sl k)).1/\(lO K right ai s k z).r.sl k=(lL K right ai s z.q (z.r.sl k)).2/\(∀e,e≠k->(lO K right ai s k z).r.sl e=z.r.sl e/\(lO K right ai s k z).r.vs e=z.r.vs e/\(lO K right ai s k z).r.bn e=z.r.bn e)/\(lO K right ai s k z).r.o=z.r.o/\(lO K right ai s k z).r.n=z.r.n:=by
 unfold lO lL;by_cases c:ai=true/\s.y=ofNat K+1
 .rw[wl c,wl c];by_cases a:s.k=3
  .rw[wl a];exact⟨rfl,Yg _ _ _,λe he=>⟨we he,we he,we he⟩,rfl,rfl⟩
  .rw[we a];exact⟨rfl,Yg _ _ _,λe he=>⟨we he,rfl,rfl⟩,rfl,rfl⟩
 .rw[we c,we c];exact⟨rfl,rfl,λe he=>⟨rfl,rfl,rfl⟩,rfl,rfl⟩
theorem WJ{right:Bool}{n i j:Nat}(d:i<n)(a:j<n)(h:jx right n i=jx right n j):i=j:=by
 unfold jx at h;cases right with
 |true=>exact h
 |false=>have h:n-1-i=n-1-j:=h;omega
theorem P6(K:Nat)(right ai:Bool)(G:Nat->ao)(n:Nat)(z:OS):∀i,(fw K right ai G n z i).r.o=z.r.o/\(fw K right ai G n z i).r.n=z.r.n
 |0=>⟨rfl,rfl⟩
 |i+1=>by
  obtain⟨h1,a⟩:=P6 K right ai G n z i;obtain⟨_,_,_,e,d⟩:=EY K right ai (G (jx right n i)) (jx right n i) (fw K right ai G n z i);exact⟨e.trans h1,d.trans a⟩
theorem EZ(K:Nat)(right ai:Bool)(G:Nat->ao)(n:Nat)(z:OS):∀i,i<=n->∀m,i<=m->m<n->(fw K right ai G n z i).r.sl (jx right n m)=z.r.sl (jx right n m)/\(fw K right ai G n z i).r.vs (jx right n m)=z.r.vs (jx right n m)/\(fw K right ai G n z i).r.bn (jx right n m)=z.r.bn (jx right n m)
 |0,_,m,_,_=>⟨rfl,rfl,rfl⟩
 |i+1,u,m,s,o=>by
  obtain⟨h1,g,f⟩:=EZ K right ai G n z i ae m ae o;obtain⟨_,_,k,_,_⟩:=EY K right ai (G (jx right n i)) (jx right n i) (fw K right ai G n z i);obtain⟨d,a,k3⟩:=k (jx right n m) λe=>by have:=WJ ae ae e;omega
  exact⟨d.trans h1,a.trans g,k3.trans f⟩
theorem qoy(K:Nat)(right:Bool)(s:ao)(q:Ys)(l:List aF)(d:sP l)(B:Nat)(h:gP q K (B+20)):gP (nZ K right s q l).1 K B:=by
 unfold nZ;by_cases g:s.k=3
 .rw[wl g];exact(h.mono (C:=B+1) ae).loop _ _
 rw[we g];by_cases f:s.k=6
 .rw[wl f];exact(h.mono (C:=B+1) ae).loop _ _
 rw[we f];by_cases e:s.k=7
 .rw[wl e];refine gP.fK (h.mono ?_);rw[PZ]
  match l,d with
  |[],_=>show B+0<=_;omega
  |a::t,d=>have:=(d.2 a au).2;show B+a.l.length<=_;omega
 rw[we e,←Wt];exact PJ K right q l B l.length (h.mono (by have:=d.1;omega))
theorem qm2(K:Nat)(right:Bool)(q:Ys)(l:List aF)(d:sP l)(B:Nat)(h:gP q K (B+20)):gP (uM K right q l) K B:=by
 rw[←Wy];exact P0 K right q l (λa e=>(d.2 a e).2) B l.length (wc _) (h.mono (by have:=d.1;omega))
theorem WK{K:Nat}{right:Bool}{s:ao}{q:Ys}{l:List aF}(a:sP l)(d:s.k≠3):(nZ K right s q l).2.length=l.length:=by
 rw[(PV K right s q a).len];unfold sQ;rw[we d]
theorem qrK(o n k:Nat)(vs a:Nat->Nat):LP o n k vs a (.own (10+k) (vs k) 0 (a k) none)=ou o n vs a:=by
 unfold LP ou;congr 1;refine funext λe=>?_;by_cases c:e=k
 .rw[c,wF];rfl
 .rw[show(e==k)=false by simpa using c];rfl
def bI(b:Bool):Nat:=bif b then 1 else 0
section
variable (x:Wx) (hx:x.Im) (v:Nat->Nat) (K:Nat) (hK:K<6) (G:Nat->ao) (hG:∀j,(G j).Ok) (right ai:Bool)
include hx hK hG
theorem qoz(h0:qa)(n i k:Nat)(d:k<n)(u:n<=16)(q a:Ys)(v1 v2:Nat->Nat)(r:Rw)(hr:r.n=n)(l':List aF)(f:l'.length=(r.sl k).length)
 (t:aR aw G17 120 [p0,(G k).t,.own (10+k) (r.vs k) 0 (r.sl k).length none,iI (rI right)] (q.hw x v1 (r.h [])) (.own (10+k) (r.vs k) 0 (r.sl k).length none) (a.hw x v2 ((r.gv k l').h []))) (y wk:Int) :
 Pq 83 h0 [1,3,2,1,2,2,0,1,2,0,0,2] [0,1,2,3,4,5,12,13] [p0,aU G n none,oL r.o n,iI y,iI (rI right),iI wk,iI (ofNat i),iI (ofNat k)] (q.hw x v1 (r.h []))
  .normal [0,1,2,3,4,5,12] [p0,aU G n none,oL r.o n,iI y,iI (rI right),iI wk,iI (ofNat i)] (a.hw x v2 ((r.gv k l').h [])):=by
 subst hr;obtain⟨s,hw⟩:=YM aw G17 120;obtain⟨g,_⟩:=VU (r:=r) (k:=k) (l:=l') f;have e:dj k r.n=true:=by unfold dj;simp only[wu,wg,wC];omega
 rw[PD,PD,g] at t ⊢;have q7:=V0 s (gq q x v1) (gq a x v2) r.row (r.gv k l').row k ae r.o r.n r.n (rI right) y (ofNat i) wk G r.vs (λj=>(r.sl j).length) (.own (10+k) (r.vs k) 0 (r.sl k).length none) [] (.inl ⟨rfl,rfl⟩);have q7:=q7.trans (qk e (PK d (qk (zM hw t) (qk au (qk e (qk au (qk (by rw[qL d];rfl) rfl)))))));rw[qrK] at q7;exact eD (qC qp (zg hw)) h0 q7
theorem qm3(h0:qa)(X:h0.length<=26)(n i:Nat)(z:OS)(hr:z.r.n=n)(W:n<=16)(N:i<n)(ok:tH z.r (jx right n i))(Y:ai=true->(G (jx right n i)).y=ofNat K+1->ow (G (jx right n i)) z.r (jx right n i))(gn:gP z.q K 20) :
 Pq 83 h0 [0,0,2] [0,1,2,3,4,5,12] [p0,aU G n none,oL z.r.o n,yK K,iI (rI right),iI (ofNat (bI ai)),iI (ofNat i)] (z.h x v K)
  .normal [0,1,2,3,4,5,12] [p0,aU G n none,oL z.r.o n,yK K,iI (rI right),iI (ofNat (bI ai)),iI (ofNat (i+1))] ((lO K right ai (G (jx right n i)) (jx right n i) z).h x v K):=by
 have run:=λ{p l E h U g h1 e} (k:cD 83 p l E h U=some (e,g,h1))=>cf h0 k
 let k:=jx right n i
 have B:k<n:=EX N
 let s:=G k
 let H:=z.h x v K
 let row:T:=aU G n none
 let a:T:=iI (rI right)
 let w:T:=iI (ofNat (bI ai))
 have R:=run ((ov2 G p0 (oL z.r.o n) (yK K) a w n i H).trans (qk (wq bH) rfl));have Q:=run (ov3 p0 row (oL z.r.o n) (yK K) a w (ofNat i) H);have P:Pq 83 h0 [1,2,0,1,2,0,0,2] [0,1,2,3,4,5,12,13] [p0,row,oL z.r.o n,yK K,a,w,iI (ofNat i),iI (ofNat i)] H .normal [0,1,2,3,4,5,12,13] [p0,row,oL z.r.o n,yK K,a,w,iI (ofNat i),iI (ofNat k)] H:=by
  have I:=ov4 G p0 (oL z.r.o n) (yK K) w n (rI right) (ofNat i) (ofNat i) H;have ej:=WA (right:=right) N ae;show Pq 83 h0 _ _ _ _ _ _ [_,_,_,_,_,_,_,iI (ofNat (jx right n i))] _;rw[←ej];cases right with
  |true=>exact run (I.trans (qF (by simp[rI]) rfl))
  |false=>exact run (I.trans (qk (by simp[rI]) rfl))
 have C:dj k n=true:=by unfold dj;simp only[wu,wg,wC];omega
 have P8:i64.wrap s.y=s.y:=Qp (by have:=(hG k).y;show _<=(G k).y;omega) (by have:=(hG k).y;show(G k).y<=_;omega);have q6:=ov6 p0 (oL z.r.o n) G (rI right) (ofNat i) (ofNat K+1) (ofNat (bI ai)) k n H;have V:(G k)=s:=rfl;have DJ:Pq 83 h0 [2,2,0,1,2,0,0,2] [0,1,2,3,4,5,12,13] [p0,row,oL z.r.o n,yK K,a,w,iI (ofNat i),iI (ofNat k)] H (bif ai&&decide (s.y=ofNat K+1) then .exit 1 else .normal) [0,1,2,3,4,5,12] [p0,row,oL z.r.o n,yK K,a,w,iI (ofNat i)] ((lO K right ai s k z).h x v K):=by
  have f:¬(ai=true/\s.y=ofNat K+1)->Pq 83 h0 [1,1,2,2,0,1,2,0,0,2] [0,1,2,3,4,5,12,13] [p0,row,oL z.r.o n,yK K,a,w,iI (ofNat i),iI (ofNat k)] H .normal [0,1,2,3,4,5,12,13,41] [p0,row,oL z.r.o n,yK K,a,w,iI (ofNat i),iI (ofNat k),.bool false] H →
   Pq 83 h0 [2,2,0,1,2,0,0,2] [0,1,2,3,4,5,12,13] [p0,row,oL z.r.o n,yK K,a,w,iI (ofNat i),iI (ofNat k)] H .normal [0,1,2,3,4,5,12] [p0,row,oL z.r.o n,yK K,a,w,iI (ofNat i)] ((lO K right ai s k z).h x v K):=λc A=>by
   have S:=run (qur p0 row (oL z.r.o n) (yK K) a w (iI (ofNat i)) (iI (ofNat k)) (.bool false) H);have M:=qow h0 z.q x (aB v K (v K+z.c)) z.r K hK G n i (bI ai) right k ae ae ok gn;rw[hr] at M;unfold lO;rw[we c];exact av (av A (Pz.fc 41 qh rfl S)) M
  cases hw:ai with
  |false =>
   rw[hw] at f q6;subst hw;exact f au (run (q6.trans (qF (by simp[bI]) rfl)))
  |true =>
   subst hw;have q6:=q6.trans (qk (by simp[bI]) (qk C rfl));rw[V,P8] at q6;by_cases c:s.y=ofNat K+1
   .rw[show(true&&decide (s.y=ofNat K+1))=true by simpa using c,wm];have A:=run (q6.trans (qk (wq c) rfl));obtain⟨P7,hw⟩:=YM aw G17 120
    let g:=aB v K (v K+z.c)
    have fit:=Y rfl c;have key:Pq 83 h0 [1,3,2,1,2,2,0,1,2,0,0,2] [0,1,2,3,4,5,12,13] [p0,row,oL z.r.o n,yK K,a,w,iI (ofNat i),iI (ofNat k)] H .normal [0,1,2,3,4,5,12] [p0,row,oL z.r.o n,yK K,a,w,iI (ofNat i)] ((lO K right true s k z).h x v K):=by
     unfold lO OS.h;rw[wl ⟨rfl,c⟩];by_cases u:s.k=3
     .rw[wl u];have es:nZ K right s z.q (z.r.sl k)=(z.q.loop K 0 [],[⟨0,[lK z.q K]⟩]):=by unfold nZ;rw[wl u]
      have Z:sR s (z.r.sl k)=1:=by unfold sR;rw[wl (.inl u)]
      rw[es,Z];have t:=qom z.q x hx g z.r ae K hK s c u (gn.mono ae) (rI right) (.own (10+k) (z.r.vs k) 0 (z.r.sl k).length none);rw[VY] at t;have q7:=V0 P7 (gq z.q x g) (gq (z.q.loop K 0 []) x (aB v K (v K+(z.c+1)))) z.r.row z.r.row k ae z.r.o n n (rI right) (ofNat K+1) (ofNat i) (ofNat (bI true)) G z.r.vs (λj=>(z.r.sl j).length) (.own 26 0 0 1 none) [GS z.q K] (.inr ⟨rfl,_,rfl⟩);have O:aR aw G17 120 [p0,(G k).t,.own (10+k) (z.r.vs k) 0 (z.r.sl k).length none,iI (rI right)] (Hg (gq z.q x g) (ou z.r.o n z.r.vs λj=>(z.r.sl j).length) z.r.row []) (.own 26 0 0 1 none) (Hg (gq (z.q.loop K 0 []) x (aB v K (v K+(z.c+1)))) (ou z.r.o n z.r.vs λj=>(z.r.sl j).length) z.r.row [GS z.q K]):=by
       rw[←hr];exact t
      have q7:=q7.trans (qk C (PK B (qk (zM hw O) (qk au (qk C (qk au (qk (by rw[qL B];rfl) rfl)))))));have eH:H=Hg (gq z.q x g) (ou z.r.o n z.r.vs λj=>(z.r.sl j).length) z.r.row []:=by rw[←hr];rfl
      rw[eH];refine Pz.post (eD (qC qp (zg hw)) h0 q7) λnt=>?_;have D:=qrJ (aa:=(az 83).aa) (nt:=nt) (l:=[0,1,2,3,4,5,12]) (K0:=h0.length) X (z.q.loop K 0 []) x hx (aB v K (v K+(z.c+1))) z.r ae k ae [⟨0,[lK z.q K]⟩] rfl (vs:=[p0,row,oL z.r.o n,yK K,a,w,iI (ofNat i)]) (aS:=[p0,row,oL z.r.o n,yK K,a,w,iI (ofNat i)]) rfl;rw[hr] at D;exact D
     ·rw[we u];have t:=stT z.q x hx g z.r ae K hK s c u right k ae (gn.mono ae) ok fit;have ev:aB g K (g K+sR s (z.r.sl k))=aB v K (v K+(z.c+sR s (z.r.sl k))):=funext λe=>by
       show(if e=K then(aB v K (v K+z.c)) K+_ else aB v K (v K+z.c) e)=if e=K then _ else v e;unfold aB;by_cases d:e=K
       ·rw[wl d,wl d,wl rfl];omega
       ·rw[we d,we d,we d]
      rw[ev] at t;exact qoz x hx K hK G hG right h0 n i k B W z.q _ g _ z.r hr _ (WK ok.b u) t _ _
    have pe:=run (quq p0 row (oL z.r.o n) (yK K) a w (iI (ofNat i)) ((lO K right true s k z).h x v K));exact lk (av A (Pz.gE 41 qh rfl (Pz.drop rfl (av key pe))))
   .rw[show(true&&decide (s.y=ofNat K+1))=false by simpa using c,wp];exact f (λh=>c h.2) (run (q6.trans (qF (hZ c) rfl)))
 have J:=run (quu p0 row (oL z.r.o n) (yK K) a w i ((lO K right ai s k z).h x v K));rw[il ae] at J;refine av R (av (Pz.ey (id:=1) (e:=bif ai&&decide (s.y=ofNat K+1) then .exit 1 else .normal) qh ?_ (av Q (av P DJ))) J);cases ai&&decide (s.y=ofNat K+1)<;>rfl
end
def P9(K:Nat)(right ai:Bool)(G:Nat->ao)(n:Nat)(z:OS)(ok:∀k,k<n->tH z.r k)(B:Nat):∀i,i<=n->gP z.q K (B+20*i)->gP (fw K right ai G n z i).q K B
 |0,_,h=>h
 |i+1,g,h=>by
  have a:=P9 K right ai G n z ok (B+20) i ae (by rw[show B+20+20*i=B+20*(i+1) by omega];exact h);obtain⟨e,_⟩:=EY K right ai (G (jx right n i)) (jx right n i) (fw K right ai G n z i);obtain⟨f,_⟩:=EZ K right ai G n z i ae i (wc _) ae;show gP (lO K right ai (G (jx right n i)) (jx right n i) (fw K right ai G n z i)).q K B;rw[e,f];have d:=(ok _ (EX (right:=right) (show i<n by omega))).b;unfold lL;by_cases c:ai=true/\(G (jx right n i)).y=ofNat K+1
  .rw[wl c];exact qoy K right _ _ _ d B a
  .rw[we c];exact qm2 K right _ _ d B a
def tH.uo{r a:Rw}{k:Nat}(h:tH r k)(e1:a.sl k=r.sl k)(d:a.bn k=r.bn k):tH a k:=⟨by rw[e1];exact h.b,by rw[e1,d];exact h.n,by rw[e1];exact h.ne⟩
def ow.uo{s:ao}{r a:Rw}{k:Nat}(h:ow s r k)(e1:a.sl k=r.sl k)(d:a.bn k=r.bn k):ow s a k:=by unfold ow;rw[e1,d];exact h
section
variable (x:Wx) (hx:x.Im) (v:Nat->Nat) (K:Nat) (hK:K<6) (G:Nat->ao) (hG:∀j,(G j).Ok) (right ai:Bool)
include hx hK hG
def WL(n:Nat)(q:Ys)(r:Rw)(hr:r.n=n)(E:n<=16)(ok:∀k,k<n->tH r k)(I:∀k,k<n->ai=true->(G k).y=ofNat K+1->ow (G k) r k)(gn:gP q K (20+20*n)) :
 aR aw G17 83 [p0,aU G n none,oL r.o n,yK K,iI (rI right),iI (ofNat (bI ai))] (q.hw x v (r.h [])) (.aK []) ((fw K right ai G n ⟨q,r,0⟩ n).h x v K):=by
 let z:OS:=⟨q,r,0⟩
 let st:=fw K right ai G n z
 have M:z.h x v K=q.hw x v (r.h []):=by
  show q.hw x (aB v K (v K+0)) (r.h [])=_;rw[LN]
 let H:=q.hw x v (r.h [])
 have run:=λ{p l s h D u h1 e} (k:cD 83 p l s h D=some (e,u,h1))=>cf H k
 let V:Nat->JO:=λi=>[p0,aU G n none,oL r.o n,yK K,iI (rI right),iI (ofNat (bI ai)),iI (ofNat i)]
 have round:∀i,i<n->Pq 83 H [0,0,2] [0,1,2,3,4,5,12] (V i) ((st i).h x v K) .normal [0,1,2,3,4,5,12] (V (i+1)) ((st (i+1)).h x v K):=λi a=>by
  obtain⟨O,N⟩:=P6 K right ai G n z i;obtain⟨g,P,f⟩:=EZ K right ai G n z i ae i (wc _) a;have C:=P9 K right ai G n z ok 20 i ae (gn.mono ae);have d:=EX (right:=right) a;have:=qm3 x hx v K hK G hG right ai H (by show 26<=26;omega) n i (st i) (N.trans hr) E a ((ok _ d).uo g f) (λh1 J=>(I _ d h1 J).uo g f) C;rw[show(st i).r.o=r.o from O] at this;exact this
 have last:=run ((qup G p0 (oL r.o n) (yK K) (iI (rI right)) (iI (ofNat (bI ai))) n n ((st n).h x v K)).trans (qF (hZ bH) rfl));have lp:Pq 83 H [0,2] [0,1,2,3,4,5,12] (V 0) ((st 0).h x v K) (.exit 0) [] [] ((st n).h x v K):=Pz.count qh V (λi=>(st i).h x v K) (n:=n) au round (lk last);have B:=run (ov1 p0 (aU G n none) (oL r.o n) (yK K) (iI (rI right)) (iI (ofNat (bI ai))) H);rw[show(st 0).h x v K=H from M] at lp;exact Pz.Ae (A:=az) Qn Tryz.func83 qh qh (l:=[0,1,2,3,4,5]) rfl (av B (fi 0 lp)) rfl
end
def WM(K:Nat)(right ai:Bool):∀(a b:List (ao×List aF)) (q:Ys),ms K right ai q (a++b)=((ms K right ai (ms K right ai q a).1 b).1,(ms K right ai q a).2++(ms K right ai (ms K right ai q a).1 b).2)
 |[],b,q=>rfl
 |(s,l)::a,b,q=>by
  have d:=WM K right ai a b (lL K right ai s q l).1;show((ms K right ai (lL K right ai s q l).1 (a++b)).1,(lL K right ai s q l).2::(ms K right ai (lL K right ai s q l).1 (a++b)).2)=_;rw[d];rfl
def pP(G:Nat->ao)(r:Rw)(n:Nat):List (ao×List aF):=(List.range n).map λk=>(G k,r.sl k)
def Zh{α:Type}(f:Nat->α)(d:α){n i:Nat}(h:i<n):((List.range n).map f).getD i d=f i:=by
 rw[wh,wE,vW h];rfl
def WN(K:Nat)(right ai:Bool)(G:Nat->ao)(n:Nat)(z:OS):∀i,i<=n->(fw K right ai G n z i).q=(ms K right ai z.q ((dl right (pP G z.r n)).take i)).1 ∧
 ∀m,m<i->(fw K right ai G n z i).r.sl (jx right n m)=(ms K right ai z.q ((dl right (pP G z.r n)).take i)).2.getD m []
 |0,_=>⟨rfl,λm h=>absurd h (vm m)⟩
 |i+1,C=>by
  obtain⟨h1,k⟩:=WN K right ai G n z i ae;obtain⟨d,_⟩:=EZ K right ai G n z i ae i (wc _) ae;obtain⟨u,s,o,_⟩:=EY K right ai (G (jx right n i)) (jx right n i) (fw K right ai G n z i);have a:(pP G z.r n).length=n:=by simp[pP]
  have g:(dl right (pP G z.r n)).getD i (⟨0,0,0,0,false⟩,[])=(G (jx right n i),z.r.sl (jx right n i)):=by
   rw[Ww right _ _ (by rw[a];omega),a];exact Zh _ _ (EX ae)
  rw[zA _ (⟨0,0,0,0,false⟩,[]) (by rw[G4,a];omega),g,WM];have f:=(kW K right ai ((dl right (pP G z.r n)).take i) z.q).1;rw[vB,G4,a,Nat.min_eq_left ae] at f;generalize A:ms K right ai z.q ((dl right (pP G z.r n)).take i)=y at *
  show(lO K right ai _ _ (fw K right ai G n z i)).q=(lL K right ai (G (jx right n i)) y.1 (z.r.sl (jx right n i))).1/\∀m,m<i+1->(lO K right ai _ _ (fw K right ai G n z i)).r.sl (jx right n m)=(y.2++[(lL K right ai (G (jx right n i)) y.1 (z.r.sl (jx right n i))).2]).getD m [];rw[←h1];refine⟨by rw[u,d],λm B=>?_⟩;rw[Zs,f];by_cases c:m=i
  .rw[wl c,c,s,d]
  .rw[we c,←k m ae];exact(o _ λe=>c (WJ ae ae e)).1
def WO(K:Nat)(right ai:Bool)(G:Nat->ao)(n:Nat)(q:Ys)(r:Rw)(c:Nat):(fw K right ai G n ⟨q,r,c⟩ n).q=(ni K right ai ((List.range n).map G) q ((List.range n).map r.sl)).1 ∧
 ∀k,k<n->(fw K right ai G n ⟨q,r,c⟩ n).r.sl k=(ni K right ai ((List.range n).map G) q ((List.range n).map r.sl)).2.getD k []:=by
 have g:((List.range n).map G).zip ((List.range n).map r.sl)=pP G r n:=by
  unfold pP;rw[List.zip_map']
 obtain⟨h1,a⟩:=WN K right ai G n ⟨q,r,c⟩ n (wc _);have f:(pP G r n).length=n:=by simp[pP]
 have i:(dl right (pP G r n)).take n=dl right (pP G r n):=by
  rw[List.take_of_length_le (by rw[G4,f];exact wc _)]
 have h1:(fw K right ai G n ⟨q,r,c⟩ n).q=(ms K right ai q ((dl right (pP G r n)).take n)).1:=h1;have a:∀m,m<n->(fw K right ai G n ⟨q,r,c⟩ n).r.sl (jx right n m)=(ms K right ai q ((dl right (pP G r n)).take n)).2.getD m []:=a;rw[i] at h1 a;unfold ni;rw[g];cases right with
 |true=>exact⟨h1,λk d=>a k d⟩
 |false =>
  refine⟨h1,λk d=>?_⟩;have:=a (n-1-k) ae;rw[show jx false n (n-1-k)=k by show n-1-(n-1-k)=k;omega] at this;rw[this];have e:(ms K false ai q (pP G r n).reverse).2.length=n:=by
   have:=(kW K false ai (pP G r n).reverse q).1;rw[vO,f] at this;exact this
  show(ms K false ai q (pP G r n).reverse).2.getD (n-1-k) []=((ms K false ai q (pP G r n).reverse).2.reverse).getD k [];rw[wh,wh,xF (by rw[e];exact d),e]
def pr0(w:bD)(a:T):cD 82 [1] [0,1] [.agg (w.cc none),a] [] [1,2] =
( zN [a,bz w] []):=qh
def pr1(p:JO->T->Prop)(w:bD)(G:Nat->ao)(n:Nat):cK (qv.add 62 (Qa p λ_=>some (iI 0))) 82 [1,2] [1,2] [aU G n none,bz w] [] [1,2] =
( gD (qM (p [aU G n
 none] (iI 0)))<|zN [aU G n
 none,bz w] []):=qh
def pr2(p:JO->T->Prop)(w:bD)(G:Nat->ao)(n:Nat)(m:Int):cK (qv.add 29 (Qa p λ_=>some (iI m))) 82 [1,2,2] [1,2] [aU G n none,bz w] [] [1,2] =
( gD (qM (p [aU G n
 none] (iI m)))<|bif !decide (m=ofNat w.sl.length) then zR [aU G n
 none,bz w] [] else
 zN [aU G n
 none,bz w] []):=qh
def pr4(a j i g f e d:T)(c:List aV)(H:qa):cD 82 [1,2,2,2,2] [1,2] [a,.ah [j,i,g,aM c,f,e,d]] H [1,2,8] =
( zN [a,.ah [j,i,g,aM c,f,e,d],aM c] H):=qh
def pr5(a b c:T)(H:qa):cD 82 [1,2,2,2,2,2] [1,2,8] [a,b,c] H [1,2,8,9] =
( zN [a,b,c,iI 0] H):=qh
def pr6(a b c d:T)(H:qa):cD 82 [1,2,2,2,2,2,2] [1,2,8,9] [a,b,c,d] H [1,2,8,9,10] =
( zN [a,b,c,d,.ag] H):=qh
def pr7(a b c d e:T)(H:qa):cD 82 [1,1,2,2,2,2,2,2,2] [1,2,8,9,10] [a,b,c,d,e] H [1,2,8,9,10,11] =
( zN [a,b,c,d,e,iI 0] H):=qh
def prc(G:Nat->ao)(n i:Nat)(b c d e:T)(H:qa):cD 82 [1,0,0,2,1,2,2,2,2,2,2,2] [1,2,8,9,10,11] [aU G n none,b,c,d,e,iI (ofNat i)] H [1,2,8,9,10,11] =
( bif decide (ofNat i<ofNat n) then zN [aU G n
 none,b,c,d,e,iI (.ofNat i)] H else
 zX 0 [aU G n
 none,b,c,d,e,iI (.ofNat i)] H):=qh
def prx(G:Nat->ao)(n i:Nat)(b c d e:T)(H:qa):cD 82 [1,0,0,2,1,2,2,2,2,2,2,2] [1,2,8,9,10,11] [aU G n none,b,c,d,e,iI (ofNat i)] H [8,10] =
( bif decide (ofNat i<ofNat n) then zN [c,e] H else
 zX 0 [c,e] H):=qh
def quA(G:Nat->ao)(n i:Nat)(b c d e:T)(H:qa):cD 82 [1,0,1,2,0,0,2,1,2,2,2,2,2,2,2] [1,2,8,9,10,11] [aU G n none,b,c,d,e,iI (ofNat i)] H [1,2,8,9,10,11,12] =
( gD (decide (0<=ofNat i)&&decide (ofNat i<ofNat n))<|zN [aU G n
 none,b,c,d,e,iI (.ofNat i),.ah (G i).c] H):=qh
def quB(p:JO->T->Prop)(s:ao)(m:Int)(a b c d e f:T)(H:qa):cK (qv.add 64 (Qa p λ_=>some (iI m))) 82 [1,2,0,1,2,0,0,2,1,2,2,2,2,2,2,2] [1,2,8,9,10,11,12] [a,b,c,d,e,f,.ah s.c] H [1,2,8,9,10,11,12,13] =
( gD (qM (p [s.t] (iI m)))<|zN [a,b,c,d,e,f,.ah s.c,iI m] H):=qh
def quC(a b c d e f g h:T)(H:qa):cD 82 [1,2,2,0,1,2,0,0,2,1,2,2,2,2,2,2,2] [1,2,8,9,10,11,12,13] [a,b,c,d,e,f,g,h] H [1,2,8,9,10,11,12,13,14] =
( zN [a,b,c,d,e,f,g,h,.ag] H):=qh
def quD(a b c d e f g h i:T)(H:qa):cD 82 [1,2,2,2,0,1,2,0,0,2,1,2,2,2,2,2,2,2] [1,2,8,9,10,11,12,13,14] [a,b,c,d,e,f,g,h,i] H [1,2,8,9,10,11,12,13,14,15] =
( zN [a,b,c,d,e,f,g,h,i,.ag] H):=qh
def quE(a b c e f g h i j:T)(mc:Int)(H:qa):cD 82 [1,1,2,2,2,2,0,1,2,0,0,2,1,2,2,2,2,2,2,2] [1,2,8,9,10,11,12,13,14,15] [a,b,c,iI mc,e,f,g,h,i,j] H [1,2,8,9,10,11,12,13,14,15,16] =
( zN [a,b,c,iI mc,e,f,g,h,i,j,iI mc] H):=qh
def quF(a b c e f g i j:T)(mc k m:Nat)(H:qa):cD 82 [1,0,0,2,1,2,2,2,2,0,1,2,0,0,2,1,2,2,2,2,2,2,2] [1,2,8,9,10,11,12,13,14,15,16] [a,b,c,iI (ofNat mc),e,f,g,iI (ofNat m),i,j,iI (ofNat k)] H [1,2,8,9,10,11,12,13,14,15,16] =
( bif decide (ofNat k<i64.wrap (ofNat mc+ofNat m)) then zN [a,b,c,iI (.ofNat mc),e,f,g,iI (.ofNat m),i,j,iI (.ofNat k)] H else
 zX 2 [a,b,c,iI (.ofNat mc),e,f,g,iI (.ofNat m),i,j,iI (.ofNat k)] H):=qh
def qrL(a b c e f g i j:T)(mc k m:Nat)(H:qa):cD 82 [1,0,0,2,1,2,2,2,2,0,1,2,0,0,2,1,2,2,2,2,2,2,2] [1,2,8,9,10,11,12,13,14,15,16] [a,b,c,iI (ofNat mc),e,f,g,iI (ofNat m),i,j,iI (ofNat k)] H [1,2,8,9,10,11,12,13,14,15] =
( bif decide (ofNat k<i64.wrap (ofNat mc+ofNat m)) then zN [a,b,c,iI (.ofNat mc),e,f,g,iI (.ofNat m),i,j] H else
 zX 2 [a,b,c,iI (.ofNat mc),e,f,g,iI (.ofNat m),i,j] H):=qh
def quG(a b c d e f g h i j:T)(k:Nat)(H:qa):cD 82 [2,2,0,0,2,1,2,2,2,2,0,1,2,0,0,2,1,2,2,2,2,2,2,2] [1,2,8,9,10,11,12,13,14,15,16] [a,b,c,d,e,f,g,h,i,j,iI (ofNat k)] H [1,2,8,9,10,11,12,13,14,15,16] =
( zN [a,b,c,d,e,f,g,h,i,j,iI (i64.wrap (ofNat k+1))] H):=qh
def quH(a b c e f g i j:T)(mc m:Nat)(H:qa):cD 82 [1,2,2,2,2,2,0,1,2,0,0,2,1,2,2,2,2,2,2,2] [1,2,8,9,10,11,12,13,14,15] [a,b,c,iI (ofNat mc),e,f,g,iI (ofNat m),i,j] H [1,2,8,9,10,11,12,14,15] =
( zN [a,b,c,iI (i64.wrap (ofNat mc+ofNat m)),e,f,g,i,j] H):=qh
def WP(s:ao)(a b c d e f j:T)(H:qa):cD 82 [1,1,2,2,2,2,2,2,2,0,1,2,0,0,2,1,2,2,2,2,2,2,2] [1,2,8,9,10,11,12,15] [a,b,c,d,e,f,.ah s.c,j] H [1,2,8,9,10,11,12,15,105] =
( bif decide (s.k=4) then zN [a,b,c,d,e,f,.ah s.c,j,.bool true] H else
 bif decide (s.k=5) then zN [a,b,c,d,e,f,.ah s.c,j,.bool true] H else
 zN [a,b,c,d,e,f,.ah s.c,j,.bool false] H):=qh
def WQ(s:ao)(a b c d e f j:T)(H:qa):cD 82 [1,1,2,2,2,2,2,2,2,2,0,1,2,0,0,2,1,2,2,2,2,2,2,2] [1,2,8,9,10,11,12,15] [a,b,c,d,e,f,.ah s.c,j] H [1,2,8,9,10,11,12,15,122] =
( bif decide (s.k=8) then zN [a,b,c,d,e,f,.ah s.c,j,.bool true] H else
 zN [a,b,c,d,e,f,.ah s.c,j,.bool false] H):=qh
def qrO(a b c d e f g j k:T)(H:qa):cD 82 [4,2,1,2,2,2,2,2,2,2,0,1,2,0,0,2,1,2,2,2,2,2,2,2] [1,2,8,9,10,11,12,15,105] [a,b,c,d,e,f,g,j,k] H [1,2,8,9,10,11,12,15] =
( zN [a,b,c,d,e,f,g,j] H):=qh
def qrP(a b c d e f g j k:T)(H:qa):cD 82 [4,2,1,2,2,2,2,2,2,2,2,0,1,2,0,0,2,1,2,2,2,2,2,2,2] [1,2,8,9,10,11,12,15,122] [a,b,c,d,e,f,g,j,k] H [1,2,8,9,10,11,15] =
( zN [a,b,c,d,e,f,j] H):=qh
def quI(a b c d e:T)(i:Nat)(H:qa):cD 82 [2,2,0,0,2,1,2,2,2,2,2,2,2] [1,2,8,9,10,11] [a,b,c,d,e,iI (ofNat i)] H [1,2,8,9,10,11] =
( zN [a,b,c,d,e,iI (i64.wrap (ofNat i+1))] H):=qh
def quJ(c:List aV)(n:Nat)(H:qa):cD 82 [2,2,2,2,2,2,2,2] [8,10] [aM c,.own 0 n 0 n none] H [4,5,6] =
( zR [.own 0 n 0 n
 none,aM c,iI 0] H):=qh
def Hq(a:aq)(X:Nat->aq)(o:aq)(f:Nat->aq)(z:qa):qa:=a::X 0::X 1::X 2::X 3::X 4::X 5::X 6::X 7::X 8::X 9::X 10::X 11::X 12::X 13::X 14::X 15::Hf o f z
def gM(N:Nat)(b:Nat->Int)(c:Nat->T):aq:=.mk N 2 N (λj=>[uI (b j),c j]) false false none
def fC(g:Nat->T)(k:Nat)(c:T)(j:Nat):T:=bif j==k then c else g j
def dD(N:Nat):T:=.ah [.own 0 N 0 N none,.undef,.undef,.undef,.undef,.undef,.undef]
def me(a e:Nat)(d:Nat->JO):aq:=.mk a 1 e d true false none
def Bx(a m:Nat)(d:Nat->JO)(j:Nat):JO:=bif j.blt a then d (0+j) else List.map Qj ([[iI (ofNat m)]].getD (j-a) [])
def WR(a m:Nat)(d:Nat->JO)(j:Nat):JO:=bif (0+a).ble j&&j.blt (0+a+1) then List.map Qj ([[iI (ofNat m)]].getD (j-(0+a)) []) else d j
def Q3(e:Nat)(g:Nat->JO)(x:JO)(j:Nat):JO:=bif j.blt e then g (0+j) else [x].getD (0+(j-e)) []
def liP(e:Nat)(g:Nat->JO)(x:JO)(j:Nat):JO:=bif (0+e).ble j&&j.blt (0+e+1) then [x].getD (0+(j-(0+e))) [] else g j
def WS(e:Nat)(g:Nat->JO)(x:JO)(j:Nat):JO:=bif j.blt e then g (0+j) else [x].getD (j-e) []
def liQ(e:Nat)(g:Nat->JO)(x:JO)(j:Nat):JO:=bif (0+e).ble j&&j.blt (0+e+1) then [x].getD (j-(0+e)) [] else g j
def Q4(x:JO):aq:=.mk 0 2 1 (λj=>[x].getD j []) false true none
def qrQ(N k:Nat)(x:k<16)(b:Nat->Int)(i:Nat->T)(X:Nat->aq)(a:aq)(f:Nat->aq)(z:qa)(m:Nat)(A:Nat->aL)(u s r j o d g e gF:T):cD 82 [1,0,1,2,0,0,2,1,2,2,2,2,0,1,2,0,0,2,1,2,2,2,2,2,2,2] [1,2,8,9,10,11,12,13,14,15,16] [u,dD N,s,r,j,o,d,g,e,gF,iI (ofNat k)] (Hq (gM N b (fC i k (.own (1+k) 0 0 m none))) X a f z) [1,2,8,9,10,11,12,13,14,15,16,17] =
 (bif N==N&&true then bif dj k N then bif N==N&&true then bif k.blt N then some (.normal,[u,dD N,s,r,j,o,d,g,e,gF,iI (ofNat k),.ah [uI (b k),.own (1+k) 0 0 m none]],(Hq (gM N b (fC i k (.own (1+k) 0 0 m none))) X a f z)) else none else none else none else none):=by
 cases qW x
 all_goals kernel_rfl
def qrR(N k:Nat)(A:k<16)(b:Nat->Int)(j:Nat->T)(X:Nat->aq)(d:aq)(f:Nat->aq)(z:qa)(m:Nat)(a:Nat->aL)(x u s o r e i g gF:T):cD 82 [1,0,1,2,0,0,2,1,2,2,2,2,0,1,2,0,0,2,1,2,2,2,2,2,2,2] [1,2,8,9,10,11,12,13,14,15,16] [x,dD N,u,s,o,r,e,i,g,gF,iI (ofNat k)] (Hq (gM N b (fC j k (fj a m none))) X d f z) [1,2,8,9,10,11,12,13,14,15,16,17] =
 (bif N==N&&true then bif dj k N then bif N==N&&true then bif k.blt N then some (.normal,[x,dD N,u,s,o,r,e,i,g,gF,iI (ofNat k),.ah [uI (b k),fj a m none]],(Hq (gM N b (fC j k (fj a m none))) X d f z)) else none else none else none else none):=by
 cases qW A
 all_goals kernel_rfl
def qrS(s:ao)(i m:Nat)(x:Nat->aL)(u:Int)(r o k j f g e a gF d:T)(H:qa):cD 82 [1,2,0,1,2,0,0,2,1,2,2,2,2,0,1,2,0,0,2,1,2,2,2,2,2,2,2] [1,2,8,9,10,11,12,13,14,15,16,17] [r,o,k,j,f,g,.ah s.c,e,a,gF,d,.ah [uI u,.own i 0 0 m none]] H [1,2,8,9,10,11,12,13,14,15,16,17]=some (.normal,[r,o,k,j,f,g,.ah s.c,e,a,gF,d,.ah [uI 0,.own i 0 0 m none]],H):=qh
def qrT(s:ao)(i m:Nat)(x:Nat->aL)(u r o j f g e a gF d:T)(H:qa):cD 82 [1,2,2,0,1,2,0,0,2,1,2,2,2,2,0,1,2,0,0,2,1,2,2,2,2,2,2,2] [1,2,8,9,10,11,12,13,14,15,16,17] [u,r,o,j,f,g,.ah s.c,e,a,gF,d,.ah [uI 0,.own i 0 0 m none]] H [1,2,8,9,10,11,12,13,14,15,16,17] =
 (bif decide (s.k=2) then some (.normal,[u,r,o,j,f,g,.ah s.c,e,a,gF,d,.ah [uI 1,.own i 0 0 m none]],H) else bif decide (s.k=5) then some (.normal,[u,r,o,j,f,g,.ah s.c,e,a,gF,d,.ah [uI 1,.own i 0 0 m none]],H) else some (.normal,[u,r,o,j,f,g,.ah s.c,e,a,gF,d,.ah [uI 0,.own i 0 0 m none]],H)):=qh
def qrU(s:ao)(i m:Nat)(d:Nat->aL)(x:Int)(u r o k g j f a gF e:T)(H:qa):cD 82 [1,2,0,1,2,0,0,2,1,2,2,2,2,0,1,2,0,0,2,1,2,2,2,2,2,2,2] [1,2,8,9,10,11,12,13,14,15,16,17] [u,r,o,k,g,j,.ah s.c,f,a,gF,e,.ah [uI x,fj d m none]] H [1,2,8,9,10,11,12,13,14,15,16,17]=some (.normal,[u,r,o,k,g,j,.ah s.c,f,a,gF,e,.ah [uI 0,fj d m none]],H):=qh
def qrV(s:ao)(i m:Nat)(d:Nat->aL)(x u r o g j f a gF e:T)(H:qa):cD 82 [1,2,2,0,1,2,0,0,2,1,2,2,2,2,0,1,2,0,0,2,1,2,2,2,2,2,2,2] [1,2,8,9,10,11,12,13,14,15,16,17] [x,u,r,o,g,j,.ah s.c,f,a,gF,e,.ah [uI 0,fj d m none]] H [1,2,8,9,10,11,12,13,14,15,16,17] =
 (bif decide (s.k=2) then some (.normal,[x,u,r,o,g,j,.ah s.c,f,a,gF,e,.ah [uI 1,fj d m none]],H) else bif decide (s.k=5) then some (.normal,[x,u,r,o,g,j,.ah s.c,f,a,gF,e,.ah [uI 1,fj d m none]],H) else some (.normal,[x,u,r,o,g,j,.ah s.c,f,a,gF,e,.ah [uI 0,fj d m none]],H)):=qh
def qrW(u:aq)(X:Nat->aq)(e:aq)(f:Nat->aq)(j:aq)(m d a:Nat)(r:Nat->JO)(i:Nat->aL)(s:Int)(D C B A x z g o gF k:T):cK (KG qv) 82 [1,2,2,2,0,1,2,0,0,2,1,2,2,2,2,0,1,2,0,0,2,1,2,2,2,2,2,2,2] [1,2,8,9,10,11,12,13,14,15,16,17] [D,C,B,A,x,z,g,o,.own 35 d 0 a none,gF,k,.ah [uI s,fj i m none]] (Hq u X e f [j,me d a r]) [1,2,8,9,10,11,12,13,14,15,16,17] =
 (bif d==d&&true then bif (0+a).ble a then bif ((a+1)*9).ble 70368744177664 then bif (0+a+1).ble a then some (.normal,[D,C,B,A,x,z,g,o,.own 35 d 0 (a+1) none,gF,k,.ah [uI s,fj i m none]],(Hq u X e f [j,me d a (WR a m r)])) else some (.normal,[D,C,B,A,x,z,g,o,.own 35 (d+1) 0 (a+1) none,gF,k,.ah [uI s,fj i m none]],(Hq u X e f [j,me (d+1) (a+1) (Bx a m r)])) else none else none else none):=qh
def qrX(k:Nat)(H:k<16)(x:aq)(X:Nat->aq)(e:aq)(f:Nat->aq)(j:aq)(m d a:Nat)(s:Nat->JO)(i:Nat->aL)(u:Int)(E D C B z A g r gF o:T):cK (KG qv) 82 [1,2,2,2,0,1,2,0,0,2,1,2,2,2,2,0,1,2,0,0,2,1,2,2,2,2,2,2,2] [1,2,8,9,10,11,12,13,14,15,16,17] [E,D,C,B,z,A,g,r,.own 35 d 0 a none,gF,o,.ah [uI u,.own (1+k) 0 0 m none]] (Hq x (fX X k (iB m i)) e f [j,me d a s]) [1,2,8,9,10,11,12,13,14,15,16,17] =
 (bif d==d&&true then bif (0+a).ble a then bif ((a+1)*9).ble 70368744177664 then bif (0+a+1).ble a then some (.normal,[E,D,C,B,z,A,g,r,.own 35 d 0 (a+1) none,gF,o,.ah [uI u,.own (1+k) 0 0 m none]],(Hq x (fX X k (iB m i)) e f [j,me d a (WR a m s)])) else some (.normal,[E,D,C,B,z,A,g,r,.own 35 (d+1) 0 (a+1) none,gF,o,.ah [uI u,.own (1+k) 0 0 m none]],(Hq x (fX X k (iB m i)) e f [j,me (d+1) (a+1) (Bx a m s)])) else none else none else none):=by
 cases qW H
 all_goals kernel_rfl
def qrY(s:aq)(X:Nat->aq)(a:aq)(f:Nat->aq)(cb:aq)(m v e:Nat)(g:Nat->JO)(j:Nat->aL)(r:Int)(C B A z u x d o i k:T):cK (KG qv) 82 [2,2,2,2,0,1,2,0,0,2,1,2,2,2,2,0,1,2,0,0,2,1,2,2,2,2,2,2,2] [1,2,8,9,10,11,12,13,14,15,16,17] [C,B,A,z,u,x,d,o,i,.own 34 v 0 e none,k,.ah [uI r,fj j m none]] (Hq s X a f [bW v e g,cb]) [1,2,8,9,10,11,12,13,14,15,16] =
 (bif v==v&&true then bif (0+e).ble e then bif ((e+1)*33).ble 70368744177664 then bif (0+e+1).ble e then some (.normal,[C,B,A,z,u,x,d,o,i,.own 34 v 0 (e+1) none,k],(Hq s X a f [bW v e (liQ e g [uI r,fj j m none]),cb])) else some (.normal,[C,B,A,z,u,x,d,o,i,.own 34 (v+1) 0 (e+1) none,k],(Hq s X a f [bW (v+1) (e+1) (WS e g [uI r,fj j m none]),cb])) else none else none else none):=qh
def qrZ(k:Nat)(E:k<16)(u:aq)(X:Nat->aq)(d:aq)(f:Nat->aq)(cb:aq)(m v e:Nat)(g:Nat->JO)(o:Nat->aL)(a:Int)(D C B A x z i s j r:T):cK (KG qv) 82 [2,2,2,2,0,1,2,0,0,2,1,2,2,2,2,0,1,2,0,0,2,1,2,2,2,2,2,2,2] [1,2,8,9,10,11,12,13,14,15,16,17] [D,C,B,A,x,z,i,s,j,.own 34 v 0 e none,r,.ah [uI a,.own (1+k) 0 0 m none]] (Hq u (fX X k (iB m o)) d f [bW v e g,cb]) [1,2,8,9,10,11,12,13,14,15,16] =
 (bif v==v&&true then bif (0+e).ble e then bif ((e+1)*33).ble 70368744177664 then bif (0+e+1).ble e then some (.normal,[D,C,B,A,x,z,i,s,j,.own 34 v 0 (e+1) none,r],(Hq u (fX X k (iB m o)) d f [bW v e (liP e g [uI a,.own (1+k) 0 0 m none]),cb,Q4 [uI a,.own (1+k) 0 0 m none]])) else some (.normal,[D,C,B,A,x,z,i,s,j,.own 34 (v+1) 0 (e+1) none,r],(Hq u (fX X k (iB m o)) d f [bW (v+1) (e+1) (Q3 e g [uI a,.own (1+k) 0 0 m none]),cb,Q4 [uI a,.own (1+k) 0 0 m none]])) else none else none else none):=by
 cases qW E
 all_goals kernel_rfl
def quK(s:ao)(c:List aV)(l:List aF)(g f e a d:T)(H:qa):cD 82 [1,3,2,1,2,2,2,2,2,2,2,2,0,1,2,0,0,2,1,2,2,2,2,2,2,2] [1,2,8,9,10,11,12,15] [g,f,aM c,e,a,d,.ah s.c,bR l none] H [1,2,8,9,10,11,12,15,20] =
( zN [g,f,aM c,e,a,d,.ah s.c,bR l
 none,iI (-1:Int)] H):=qh
def quL(s:ao)(c:List aV)(l:List aF)(j i e a d:T)(H:qa)(g:Int):cD 82 [1,1,2,3,2,1,2,2,2,2,2,2,2,2,0,1,2,0,0,2,1,2,2,2,2,2,2,2] [1,2,8,9,10,11,12,15,20] [j,i,aM c,e,a,d,.ah s.c,bR l none,iI g] H [1,2,8,9,10,11,12,15,20,124] =
( bif s.f then zN [j,i,aM c,e,a,d,.ah s.c,bR l
 none,iI g,.bool true] H else
 zN [j,i,aM c,e,a,d,.ah s.c,bR l
 none,iI g,.bool false] H):=qh
def quM(s:ao)(c:List aV)(l:List aF)(g f e a d:T)(H:qa):cD 82 [3,2,1,2,3,2,1,2,2,2,2,2,2,2,2,0,1,2,0,0,2,1,2,2,2,2,2,2,2] [1,2,8,9,10,11,12,15] [g,f,aM c,e,a,d,.ah s.c,bR l none] H [1,2,8,9,10,11,12,15,20] =
( zN [g,f,aM c,e,a,d,.ah s.c,bR l
 none,iI 1] H):=qh
def qr0(s:ao)(c:List aV)(l:List aF)(i f e a d:T)(H:qa)(g:Int)(t:T):cD 82 [4,2,1,2,3,2,1,2,2,2,2,2,2,2,2,0,1,2,0,0,2,1,2,2,2,2,2,2,2] [1,2,8,9,10,11,12,15,20,124] [i,f,aM c,e,a,d,.ah s.c,bR l none,iI g,t] H [1,2,8,9,10,11,12,15,20] =
( zN [i,f,aM c,e,a,d,.ah s.c,bR l
 none,iI g] H):=qh
def quN(s:ao)(c:List aV)(l:List aF)(i f e a d:T)(H:qa)(g:Int):cD 82 [1,1,2,2,3,2,1,2,2,2,2,2,2,2,2,0,1,2,0,0,2,1,2,2,2,2,2,2,2] [1,2,8,9,10,11,12,15,20] [i,f,aM c,e,a,d,.ah s.c,bR l none,iI g] H [1,2,8,9,10,11,12,15,20,21] =
( zN [i,f,aM c,e,a,d,.ah s.c,bR l
 none,iI g,iI 0] H):=qh
def quO(s:ao)(c:List aV)(l:List aF)(j i f d e:T)(H:qa)(g:Int)(a:Nat):cD 82 [1,0,0,2,1,2,2,3,2,1,2,2,2,2,2,2,2,2,0,1,2,0,0,2,1,2,2,2,2,2,2,2] [1,2,8,9,10,11,12,15,20,21] [j,i,aM c,f,d,e,.ah s.c,bR l none,iI g,iI (ofNat a)] H [1,2,8,9,10,11,12,15,20,21] =
( bif decide (ofNat a<s.a) then zN [j,i,aM c,f,d,e,.ah s.c,bR l
 none,iI g,iI (.ofNat a)] H else
 zX 4 [j,i,aM c,f,d,e,.ah s.c,bR l
 none,iI g,iI (.ofNat a)] H):=qh
def qr1(s:ao)(c:List aV)(l:List aF)(j i f d e:T)(H:qa)(g:Int)(a:Nat):cD 82 [1,0,0,2,1,2,2,3,2,1,2,2,2,2,2,2,2,2,0,1,2,0,0,2,1,2,2,2,2,2,2,2] [1,2,8,9,10,11,12,15,20,21] [j,i,aM c,f,d,e,.ah s.c,bR l none,iI g,iI (ofNat a)] H [1,2,8,9,10,11,12,15] =
( bif decide (ofNat a<s.a) then zN [j,i,aM c,f,d,e,.ah s.c,bR l
 none] H else
 zX 4 [j,i,aM c,f,d,e,.ah s.c,bR l
 none] H):=qh
def quP(s:ao)(c:List aV)(l:List aF)(j i f d e:T)(H:qa)(g:Int)(a:Nat):cD 82 [2,2,0,0,2,1,2,2,3,2,1,2,2,2,2,2,2,2,2,0,1,2,0,0,2,1,2,2,2,2,2,2,2] [1,2,8,9,10,11,12,15,20,21] [j,i,aM c,f,d,e,.ah s.c,bR l none,iI g,iI (ofNat a)] H [1,2,8,9,10,11,12,15,20,21] =
( zN [j,i,aM c,f,d,e,.ah s.c,bR l
 none,iI g,iI (i64.wrap (ofNat a+1))] H):=qh
def quQ(s:ao)(c:List aV)(l:List aF)(j i f d e:T)(H:qa)(g:Int)(a:Nat):cD 82 [1,0,1,2,0,0,2,1,2,2,3,2,1,2,2,2,2,2,2,2,2,0,1,2,0,0,2,1,2,2,2,2,2,2,2] [1,2,8,9,10,11,12,15,20,21] [j,i,aM c,f,d,e,.ah s.c,bR l none,iI g,iI (ofNat a)] H [1,2,8,9,10,11,12,15,20,21,22] =
( zN [j,i,aM c,f,d,e,.ah s.c,bR l
 none,iI g,iI (.ofNat a),iI s.a] H):=qh
def quR(s:ao)(c:List aV)(l:List aF)(j i f d e:T)(H:qa)(g:Int)(a:Nat)(b:Nat):cD 82 [1,0,0,2,0,1,2,0,0,2,1,2,2,3,2,1,2,2,2,2,2,2,2,2,0,1,2,0,0,2,1,2,2,2,2,2,2,2] [1,2,8,9,10,11,12,15,20,21,22] [j,i,aM c,f,d,e,.ah s.c,bR l none,iI g,iI (ofNat a),iI (ofNat b)] H [1,2,8,9,10,11,12,15,20,21,22] =
( bif decide (ofNat b<i64.wrap (s.a+s.b)) then zN [j,i,aM c,f,d,e,.ah s.c,bR l
 none,iI g,iI (.ofNat a),iI (.ofNat b)] H else
 zX 6 [j,i,aM c,f,d,e,.ah s.c,bR l
 none,iI g,iI (.ofNat a),iI (.ofNat b)] H):=qh
def qr2(s:ao)(c:List aV)(l:List aF)(j i f d e:T)(H:qa)(g:Int)(a:Nat)(b:Nat):cD 82 [1,0,0,2,0,1,2,0,0,2,1,2,2,3,2,1,2,2,2,2,2,2,2,2,0,1,2,0,0,2,1,2,2,2,2,2,2,2] [1,2,8,9,10,11,12,15,20,21,22] [j,i,aM c,f,d,e,.ah s.c,bR l none,iI g,iI (ofNat a),iI (ofNat b)] H [1,2,8,9,10,11,12,15,20,21] =
( bif decide (ofNat b<i64.wrap (s.a+s.b)) then zN [j,i,aM c,f,d,e,.ah s.c,bR l
 none,iI g,iI (.ofNat a)] H else
 zX 6 [j,i,aM c,f,d,e,.ah s.c,bR l
 none,iI g,iI (.ofNat a)] H):=qh
def qr3(s:ao)(c:List aV)(l:List aF)(j i f d e:T)(H:qa)(g:Int)(a:Nat)(b:Nat):cD 82 [2,2,0,0,2,0,1,2,0,0,2,1,2,2,3,2,1,2,2,2,2,2,2,2,2,0,1,2,0,0,2,1,2,2,2,2,2,2,2] [1,2,8,9,10,11,12,15,20,21,22] [j,i,aM c,f,d,e,.ah s.c,bR l none,iI g,iI (ofNat a),iI (ofNat b)] H [1,2,8,9,10,11,12,15,20,21,22] =
( zN [j,i,aM c,f,d,e,.ah s.c,bR l
 none,iI g,iI (.ofNat a),iI (i64.wrap (ofNat b+1))] H):=qh
def quS(s:ao)(c:List aV)(l:List aF)(j i f d e:T)(H:qa)(g:Int)(a:Nat)(b:Nat):cD 82 [1,0,1,2,0,0,2,0,1,2,0,0,2,1,2,2,3,2,1,2,2,2,2,2,2,2,2,0,1,2,0,0,2,1,2,2,2,2,2,2,2] [1,2,8,9,10,11,12,15,20,21,22] [j,i,aM c,f,d,e,.ah s.c,bR l none,iI g,iI (ofNat a),iI (ofNat b)] H [1,2,8,9,10,11,12,15,20,21,22,23] =
( zN [j,i,aM c,f,d,e,.ah s.c,bR l
 none,iI g,iI (.ofNat a),iI (.ofNat b),iI 0] H):=qh
def quT(s:ao)(c:List aV)(l:List aF)(j i f d e:T)(H:qa)(g:Int)(a:Nat)(b:Nat)(u:Nat):cD 82 [1,0,0,2,0,1,2,0,0,2,0,1,2,0,0,2,1,2,2,3,2,1,2,2,2,2,2,2,2,2,0,1,2,0,0,2,1,2,2,2,2,2,2,2] [1,2,8,9,10,11,12,15,20,21,22,23] [j,i,aM c,f,d,e,.ah s.c,bR l none,iI g,iI (ofNat a),iI (ofNat b),iI (ofNat u)] H [1,2,8,9,10,11,12,15,20,21,22,23] =
( gD (decide (0<=ofNat a)&&decide (ofNat a<ofNat l.length))<|bif decide (ofNat u<ofNat (l.getD a (aF.mk (0:Int) [])).l.length) then zN [j,i,aM c,f,d,e,.ah s.c,bR l
 none,iI g,iI (.ofNat a),iI (.ofNat b),iI (.ofNat u)] H else
 zX 8 [j,i,aM c,f,d,e,.ah s.c,bR l
 none,iI g,iI (.ofNat a),iI (.ofNat b),iI (.ofNat u)] H):=qh
def qr4(s:ao)(c:List aV)(l:List aF)(j i f d e:T)(H:qa)(g:Int)(a:Nat)(b:Nat)(u:Nat):cD 82 [1,0,0,2,0,1,2,0,0,2,0,1,2,0,0,2,1,2,2,3,2,1,2,2,2,2,2,2,2,2,0,1,2,0,0,2,1,2,2,2,2,2,2,2] [1,2,8,9,10,11,12,15,20,21,22,23] [j,i,aM c,f,d,e,.ah s.c,bR l none,iI g,iI (ofNat a),iI (ofNat b),iI (ofNat u)] H [1,2,8,9,10,11,12,15,20,21,22] =
( gD (decide (0<=ofNat a)&&decide (ofNat a<ofNat l.length))<|bif decide (ofNat u<ofNat (l.getD a (aF.mk (0:Int) [])).l.length) then zN [j,i,aM c,f,d,e,.ah s.c,bR l
 none,iI g,iI (.ofNat a),iI (.ofNat b)] H else
 zX 8 [j,i,aM c,f,d,e,.ah s.c,bR l
 none,iI g,iI (.ofNat a),iI (.ofNat b)] H):=qh
def quU(s:ao)(c:List aV)(l:List aF)(j i f d e:T)(H:qa)(g:Int)(a:Nat)(b:Nat)(u:Nat):cD 82 [2,2,0,0,2,0,1,2,0,0,2,0,1,2,0,0,2,1,2,2,3,2,1,2,2,2,2,2,2,2,2,0,1,2,0,0,2,1,2,2,2,2,2,2,2] [1,2,8,9,10,11,12,15,20,21,22,23] [j,i,aM c,f,d,e,.ah s.c,bR l none,iI g,iI (ofNat a),iI (ofNat b),iI (ofNat u)] H [1,2,8,9,10,11,12,15,20,21,22,23] =
( zN [j,i,aM c,f,d,e,.ah s.c,bR l
 none,iI g,iI (.ofNat a),iI (.ofNat b),iI (i64.wrap (ofNat u+1))] H):=qh
def quV(s:ao)(c:List aV)(l:List aF)(j i f d e:T)(H:qa)(g:Int)(a:Nat)(b:Nat)(u:Nat):cD 82 [1,0,1,2,0,0,2,0,1,2,0,0,2,0,1,2,0,0,2,1,2,2,3,2,1,2,2,2,2,2,2,2,2,0,1,2,0,0,2,1,2,2,2,2,2,2,2] [1,2,8,9,10,11,12,15,20,21,22,23] [j,i,aM c,f,d,e,.ah s.c,bR l none,iI g,iI (ofNat a),iI (ofNat b),iI (ofNat u)] H [1,2,8,9,10,11,12,15,20,21,22,23,24] =
( zN [j,i,aM c,f,d,e,.ah s.c,bR l
 none,iI g,iI (.ofNat a),iI (.ofNat b),iI (.ofNat u),iI 0] H):=qh
def quW(s:ao)(c:List aV)(l:List aF)(j i f d e:T)(H:qa)(g:Int)(a:Nat)(b:Nat)(u:Nat)(y:Nat):cD 82 [1,0,0,2,0,1,2,0,0,2,0,1,2,0,0,2,0,1,2,0,0,2,1,2,2,3,2,1,2,2,2,2,2,2,2,2,0,1,2,0,0,2,1,2,2,2,2,2,2,2] [1,2,8,9,10,11,12,15,20,21,22,23,24] [j,i,aM c,f,d,e,.ah s.c,bR l none,iI g,iI (ofNat a),iI (ofNat b),iI (ofNat u),iI (ofNat y)] H [1,2,8,9,10,11,12,15,20,21,22,23,24] =
( gD (decide (0<=ofNat b)&&decide (ofNat b<ofNat l.length))<|bif decide (ofNat y<ofNat (l.getD b (aF.mk (0:Int) [])).l.length) then zN [j,i,aM c,f,d,e,.ah s.c,bR l
 none,iI g,iI (.ofNat a),iI (.ofNat b),iI (.ofNat u),iI (.ofNat y)] H else
 zX 10 [j,i,aM c,f,d,e,.ah s.c,bR l
 none,iI g,iI (.ofNat a),iI (.ofNat b),iI (.ofNat u),iI (.ofNat y)] H):=qh
def qr5(s:ao)(c:List aV)(l:List aF)(j i f d e:T)(H:qa)(g:Int)(a:Nat)(b:Nat)(u:Nat)(y:Nat):cD 82 [1,0,0,2,0,1,2,0,0,2,0,1,2,0,0,2,0,1,2,0,0,2,1,2,2,3,2,1,2,2,2,2,2,2,2,2,0,1,2,0,0,2,1,2,2,2,2,2,2,2] [1,2,8,9,10,11,12,15,20,21,22,23,24] [j,i,aM c,f,d,e,.ah s.c,bR l none,iI g,iI (ofNat a),iI (ofNat b),iI (ofNat u),iI (ofNat y)] H [1,2,8,9,10,11,12,15,20,21,22,23] =
( gD (decide (0<=ofNat b)&&decide (ofNat b<ofNat l.length))<|bif decide (ofNat y<ofNat (l.getD b (aF.mk (0:Int) [])).l.length) then zN [j,i,aM c,f,d,e,.ah s.c,bR l
 none,iI g,iI (.ofNat a),iI (.ofNat b),iI (.ofNat u)] H else
 zX 10 [j,i,aM c,f,d,e,.ah s.c,bR l
 none,iI g,iI (.ofNat a),iI (.ofNat b),iI (.ofNat u)] H):=qh
def quX(s:ao)(c:List aV)(l:List aF)(j i f d e:T)(H:qa)(g:Int)(a:Nat)(b:Nat)(u:Nat)(y:Nat):cD 82 [2,2,0,0,2,0,1,2,0,0,2,0,1,2,0,0,2,0,1,2,0,0,2,1,2,2,3,2,1,2,2,2,2,2,2,2,2,0,1,2,0,0,2,1,2,2,2,2,2,2,2] [1,2,8,9,10,11,12,15,20,21,22,23,24] [j,i,aM c,f,d,e,.ah s.c,bR l none,iI g,iI (ofNat a),iI (ofNat b),iI (ofNat u),iI (ofNat y)] H [1,2,8,9,10,11,12,15,20,21,22,23,24] =
( zN [j,i,aM c,f,d,e,.ah s.c,bR l
 none,iI g,iI (.ofNat a),iI (.ofNat b),iI (.ofNat u),iI (i64.wrap (ofNat y+1))] H):=qh
def quY(p:JO->T->Prop)(d:List aV)(s:ao)(c:List aV)(l:List aF)(k j i e f:T)(H:qa)(g:Int)(a:Nat)(b:Nat)(u:Nat)(y:Nat):cK (qv.add 119 (Qa p λ_=>some (.new (aM d)))) 82 [0,1,2,0,0,2,0,1,2,0,0,2,0,1,2,0,0,2,0,1,2,0,0,2,1,2,2,3,2,1,2,2,2,2,2,2,2,2,0,1,2,0,0,2,1,2,2,2,2,2,2,2] [1,2,8,9,10,11,12,15,20,21,22,23,24] [k,j,aM c,i,e,f,.ah s.c,bR l none,iI g,iI (ofNat a),iI (ofNat b),iI (ofNat u),iI (ofNat y)] H [1,2,8,9,10,11,12,15,20,21,22,23,24] =
( gD (decide (0<=ofNat a)&&decide (ofNat a<ofNat l.length))<|gD (decide (0<=ofNat u)&&decide (ofNat u<ofNat (l.getD a (aF.mk (0:Int) [])).l.length))<|gD (decide (0<=ofNat b)&&decide (ofNat b<ofNat l.length))<|gD (decide (0<=ofNat y)&&decide (ofNat y<ofNat (l.getD b (aF.mk (0:Int) [])).l.length))<|gD (qM (p [aM c,.agg ((l.getD a (aF.mk (0:Int) [])).l.getD u (aL.mk (0:Int) (0:Int))).c,.agg ((l.getD b (aF.mk (0:Int) [])).l.getD y (aL.mk (0:Int) (0:Int))).c,iI g] (aM d).new))<|zN [k,j,aM d,i,e,f,.ah s.c,bR l
 none,iI g,iI (.ofNat a),iI (.ofNat b),iI (.ofNat u),iI (.ofNat y)] H):=qh
def Q5(a b:aL)(s:Int):∀(l:List aV) (p:List aV×Bool),((l.foldl (fD a b s) p).1).length+(if (l.foldl (fD a b s) p).2 then 0 else 1)<=p.1.length+(if p.2 then 0 else 1)+l.length
 |[],p=>wc _
 |x::l,p=>by
  have e:=Q5 a b s l (fD a b s p x);have h1:(fD a b s p x).1.length+(if (fD a b s p x).2 then 0 else 1)<=p.1.length+(if p.2 then 0 else 1)+1:=by
   obtain⟨o,d⟩:=p;unfold fD Ky;cases d<;>cases ff x a b<;>cases dZ x a b<;>cases decide ((iP a b s x).n=0)<;>(try simp)<;>(try omega)
  show((l.foldl (fD a b s) (fD a b s p x)).1).length+_<=_;rw[vc];have:((l.foldl (fD a b s) (fD a b s p x)).1).length+(if (l.foldl (fD a b s) (fD a b s p x)).2 then 0 else 1)<=_:=e;show _+(if (l.foldl (fD a b s) (fD a b s p x)).2 then 0 else 1)<=_;omega
def WT(a b:aL)(s:Int)(p:List aV×Bool):(jy a b s p).length=p.1.length+(if p.2 then 0 else 1):=by
 unfold jy;cases p.2<;>simp
def qjE(l:List aV)(a b:aL)(s:Int):(Z9 l a b s).length<=l.length+1:=by
 unfold Z9;cases Bq a b
 .rw[wp,WT];have:=Q5 a b s l ([],false);simp only[vE] at this;exact wN this (by simp;omega)
 .rw[wm,WT];have:=Q5 b a s l ([],false);simp only[vE] at this;exact wN this (by simp;omega)
def fo{α:Type}(f:List aV->α->List aV)(l:List α)(c:List aV)(i:Nat):List aV:=(l.take i).foldl f c
def G9{α:Type}(f:List aV->α->List aV)(l:List α)(c:List aV)(d:α){i:Nat}(h:i<l.length):fo f l c (i+1)=f (fo f l c i) (l.getD i d):=by
 unfold fo;rw[zA l d h,xL];rfl
def jz{α:Type}(f:List aV->α->List aV)(l:List α)(c:List aV):fo f l c l.length=l.foldl f c:=by
 unfold fo;rw[xm]
def KB{α:Type}(f:List aV->α->List aV)(l:List α)(c:List aV)(N:Nat)(h:∀c x,x∈l->(f c x).length<=c.length+N)(d:α):∀i,i<=l.length->(fo f l c i).length<=c.length+N*i
 |0,_=>by unfold fo;simp
 |i+1,e=>by
  have a:=KB f l c N h d i ae;rw[G9 f l c d ae];have:=h (fo f l c i) (l.getD i d) (ya ae);rw[Nat.mul_succ];omega
def fY(x:aL)(g:Int)(c:List aV)(y:aL):List aV:=Z9 c x y g
def CK(r:aF)(g:Int)(c:List aV)(x:aL):List aV:=r.l.foldl (fY x g) c
def Ao(a:aF)(g:Int)(c:List aV)(r:aF):List aV:=a.l.foldl (CK r g) c
def Ap(R:List aF)(g:Int)(c:List aV)(a:aF):List aV:=R.foldl (Ao a g) c
def WU(c:List aV)(L R:List aF)(g:Int):ER c L R g=L.foldl (Ap R g) c:=by
 unfold ER KA Ap Ao CK fY;simp only[List.foldl_flatMap,List.foldl_map]
def WV{x:aL}{g:Int}{c:List aV}{y:aL}:(fY x g c y).length<=c.length+1:=qjE c x y g
def WW{r:aF}{g:Int}{c:List aV}{x:aL}(h:r.l.length<=4):(CK r g c x).length<=c.length+4:=by
 unfold CK;rw[←jz];have:=KB (fY x g) r.l c 1 (λc y _=>WV) bU r.l.length (wc _);omega
def WX{a r:aF}{g:Int}{c:List aV}(d:a.l.length<=4)(h:r.l.length<=4):(Ao a g c r).length<=c.length+16:=by
 unfold Ao;rw[←jz];have:=KB (CK r g) a.l c 4 (λc y _=>WW h) bU a.l.length (wc _);omega
def WY{a:aF}{R:List aF}{g:Int}{c:List aV}(e:a.l.length<=4)(h:∀r∈R,r.l.length<=4)(hR:R.length<=4):(Ap R g c a).length<=c.length+64:=by
 unfold Ap;rw[←jz];have:=KB (Ao a g) R c 16 (λc y d=>WX e (h y d)) be R.length (wc _);omega
section
variable (s:ao) (l:List aF) (a1 a2 a9 aQ aP:T) (H:qa) (h0:qa)
def uP{i n:Nat}(h:i<n):(decide ((0:Int)<=ofNat i)&&decide (ofNat i<ofNat n))=true:=by simp only[wu,wg,wC];omega
def CL{i n:Nat}(h:i<n):decide (ofNat i<ofNat n)=true:=wq bH
def CM{i n:Nat}(h:n<=i):¬(decide (ofNat i<ofNat n)=true):=hZ bH
def quZ(g:Int)(a b u:Nat)(E:a<l.length)(d:b<l.length)(C:u<(l.getD a be).l.length)(I:∀x∈l,x.l.length<=4)(c:List aV)(J:c.length<=900000) :
 Pq 82 h0 [2,0,1,2,0,0,2,0,1,2,0,0,2,0,1,2,0,0,2,1,2,2,3,2,1,2,2,2,2,2,2,2,2,0,1,2,0,0,2,1,2,2,2,2,2,2,2] [1,2,8,9,10,11,12,15,20,21,22,23,24] [a1,a2,aM c,a9,aQ,aP,.ah s.c,bR l none,iI g,iI (ofNat a),iI (ofNat b),iI (ofNat u),iI (ofNat 0)] H .normal [1,2,8,9,10,11,12,15,20,21,22,23] [a1,a2,aM ((l.getD b be).l.foldl (fY ((l.getD a be).l.getD u bU) g) c),a9,aQ,aP,.ah s.c,bR l none,iI g,iI (ofNat a),iI (ofNat b),iI (ofNat u)] H:=by
 have run:=λ{p l o h B r h1 e} (k:cD 82 p l o h B=some (e,r,h1))=>cf h0 k;obtain⟨p,j⟩:=qE aw G17 119
 let x:=(l.getD a be).l.getD u bU
 let L:=(l.getD b be).l
 have M:L.length<=4:=I _ (ya d)
 let st:Nat->List aV:=fo (fY x g) L c
 let V:Nat->JO:=λy=>[a1,a2,aM (st y),a9,aQ,aP,.ah s.c,bR l none,iI g,iI (ofNat a),iI (ofNat b),iI (ofNat u),iI (ofNat y)]
 have round:∀y,y<L.length->Pq 82 h0 [0,0,2,0,1,2,0,0,2,0,1,2,0,0,2,0,1,2,0,0,2,1,2,2,3,2,1,2,2,2,2,2,2,2,2,0,1,2,0,0,2,1,2,2,2,2,2,2,2] [1,2,8,9,10,11,12,15,20,21,22,23,24] (V y) H .normal [1,2,8,9,10,11,12,15,20,21,22,23,24] (V (y+1)) H:=λy f=>by
  have D:(st y).length<=1000000:=by
   have:=KB (fY x g) L c 1 (λc y _=>WV) bU y ae;show(fo _ _ _ _).length<=_;omega
  have t:=qn7 (st y) x (L.getD y bU) g D;have A:=run ((quW s (st y) l a1 a2 a9 aQ aP H g a b u y).trans (qk (uP d) (qk (CL f) rfl)));have z:=eD (qr qp (qq j)) h0 ((quY p (st (y+1)) s (st y) l a1 a2 a9 aQ aP H g a b u y).trans (qk (uP E) (qk (uP C) (qk (uP d) (qk (uP f) (qk (by
   show qM (p [aM (st y),.agg x.c,.agg (L.getD y bU).c,iI g] (.new (aM (fo (fY x g) L c (y+1)))))=true;rw[G9 (fY x g) L c bU f];exact qu j t) rfl))))))
  have i:=run (quX s (st (y+1)) l a1 a2 a9 aQ aP H g a b u y);rw[il ae] at i;exact av A (av (fi 11 z) i)
 have last:=run ((qr5 s (st L.length) l a1 a2 a9 aQ aP H g a b u L.length).trans (qk (uP d) (qF (CM (wc _)) rfl)));have lp:Pq 82 h0 [0,2,0,1,2,0,0,2,0,1,2,0,0,2,0,1,2,0,0,2,1,2,2,3,2,1,2,2,2,2,2,2,2,2,0,1,2,0,0,2,1,2,2,2,2,2,2,2] [1,2,8,9,10,11,12,15,20,21,22,23,24] (V 0) H (.exit 10) [1,2,8,9,10,11,12,15,20,21,22,23] [a1,a2,aM (st L.length),a9,aQ,aP,.ah s.c,bR l none,iI g,iI (ofNat a),iI (ofNat b),iI (ofNat u)] H:=Pz.count qh V (λ_=>H) (n:=L.length) au round (lk last);rw[show st L.length=L.foldl (fY x g) c from jz _ _ _] at lp;exact fi 10 lp
def qu0(g:Int)(a b:Nat)(d:a<l.length)(z:b<l.length)(i:∀x∈l,x.l.length<=4)(c:List aV)(J:c.length<=800000) :
 Pq 82 h0 [0,1,2,0,0,2,0,1,2,0,0,2,1,2,2,3,2,1,2,2,2,2,2,2,2,2,0,1,2,0,0,2,1,2,2,2,2,2,2,2] [1,2,8,9,10,11,12,15,20,21,22] [a1,a2,aM c,a9,aQ,aP,.ah s.c,bR l none,iI g,iI (ofNat a),iI (ofNat b)] H .normal [1,2,8,9,10,11,12,15,20,21,22] [a1,a2,aM (Ao (l.getD a be) g c (l.getD b be)),a9,aQ,aP,.ah s.c,bR l none,iI g,iI (ofNat a),iI (ofNat b)] H:=by
 have run:=λ{p l A h E B h1 e} (k:cD 82 p l A h E=some (e,B,h1))=>cf h0 k
 let L:=(l.getD a be).l
 let r:=l.getD b be
 have hr:r.l.length<=4:=i _ (ya z);have M:L.length<=4:=i _ (ya d)
 let st:Nat->List aV:=fo (CK r g) L c
 let V:Nat->JO:=λu=>[a1,a2,aM (st u),a9,aQ,aP,.ah s.c,bR l none,iI g,iI (ofNat a),iI (ofNat b),iI (ofNat u)]
 have round:∀u,u<L.length->Pq 82 h0 [0,0,2,0,1,2,0,0,2,0,1,2,0,0,2,1,2,2,3,2,1,2,2,2,2,2,2,2,2,0,1,2,0,0,2,1,2,2,2,2,2,2,2] [1,2,8,9,10,11,12,15,20,21,22,23] (V u) H .normal [1,2,8,9,10,11,12,15,20,21,22,23] (V (u+1)) H:=λu f=>by
  have I:(st u).length<=900000:=by
   have:=KB (CK r g) L c 4 (λc y _=>WW hr) bU u ae;show(fo _ _ _ _).length<=_;omega
  have D:=run ((quT s (st u) l a1 a2 a9 aQ aP H g a b u).trans (qk (uP d) (qk (CL f) rfl)));have C:=run (quV s (st u) l a1 a2 a9 aQ aP H g a b u);have o:=quZ s l a1 a2 a9 aQ aP H h0 g a b u d z f i (st u) I;have e:st (u+1)=(l.getD b be).l.foldl (fY ((l.getD a be).l.getD u bU) g) (st u):=G9 (CK r g) L c bU f;rw[←e] at o;have j:=run (quU s (st (u+1)) l a1 a2 a9 aQ aP H g a b u);rw[il ae] at j;exact av D (av (fi 9 (av C o)) j)
 have last:=run ((qr4 s (st L.length) l a1 a2 a9 aQ aP H g a b L.length).trans (qk (uP d) (qF (CM (wc _)) rfl)));have lp:Pq 82 h0 [0,2,0,1,2,0,0,2,0,1,2,0,0,2,1,2,2,3,2,1,2,2,2,2,2,2,2,2,0,1,2,0,0,2,1,2,2,2,2,2,2,2] [1,2,8,9,10,11,12,15,20,21,22,23] (V 0) H (.exit 8) [1,2,8,9,10,11,12,15,20,21,22] [a1,a2,aM (st L.length),a9,aQ,aP,.ah s.c,bR l none,iI g,iI (ofNat a),iI (ofNat b)] H:=Pz.count qh V (λ_=>H) (n:=L.length) au round (lk last);rw[show st L.length=Ao (l.getD a be) g c (l.getD b be) from jz _ _ _] at lp;exact av (run (quS s c l a1 a2 a9 aQ aP H g a b)) (fi 8 lp)
def qu1(g:Int)(a A B:Nat)(u:s.a=(A:Int))(hB:s.b=(B:Int))(W:l.length=A+B)(U:A+B<=4)(Y:a<A)(f:∀x∈l,x.l.length<=4)(c:List aV)(X:c.length<=700000) :
 Pq 82 h0 [0,1,2,0,0,2,1,2,2,3,2,1,2,2,2,2,2,2,2,2,0,1,2,0,0,2,1,2,2,2,2,2,2,2] [1,2,8,9,10,11,12,15,20,21] [a1,a2,aM c,a9,aQ,aP,.ah s.c,bR l none,iI g,iI (ofNat a)] H .normal [1,2,8,9,10,11,12,15,20,21] [a1,a2,aM (Ap (l.drop A) g c (l.getD a be)),a9,aQ,aP,.ah s.c,bR l none,iI g,iI (ofNat a)] H:=by
 have run:=λ{p l D h N E h1 e} (k:cD 82 p l D h N=some (e,E,h1))=>cf h0 k
 let R:=l.drop A
 have hR:R.length=B:=by show(l.drop A).length=B;rw[vo];omega
 have P:∀i,i<B->R.getD i be=l.getD (A+i) be:=λi r=>by show(l.drop A).getD i be=_;rw[wh,wh,vA]
 have I:∀x∈R,x.l.length<=4:=λx hx=>f x (xZ hx);have S:=f _ (ya (d:=be) (l:=l) (i:=a) ae)
 let st:Nat->List aV:=fo (Ao (l.getD a be) g) R c
 let V:Nat->JO:=λi=>[a1,a2,aM (st i),a9,aQ,aP,.ah s.c,bR l none,iI g,iI (ofNat a),iI (ofNat (A+i))]
 have z:i64.wrap (s.a+s.b)=ofNat (A+B):=by rw[u,hB,Qp ae ae];rfl
 have round:∀i,i<B->Pq 82 h0 [0,0,2,0,1,2,0,0,2,1,2,2,3,2,1,2,2,2,2,2,2,2,2,0,1,2,0,0,2,1,2,2,2,2,2,2,2] [1,2,8,9,10,11,12,15,20,21,22] (V i) H .normal [1,2,8,9,10,11,12,15,20,21,22] (V (i+1)) H:=λi r=>by
  have M:(st i).length<=800000:=by
   have:=KB (Ao (l.getD a be) g) R c 16 (λc y O=>WX S (I y O)) be i ae;show(fo _ _ _ _).length<=_;omega
  have J:=run ((quR s (st i) l a1 a2 a9 aQ aP H g a (A+i)).trans (qk (by rw[z];exact CL ae) rfl));have o:=qu0 s l a1 a2 a9 aQ aP H h0 g a (A+i) ae ae f (st i) M;have e:st (i+1)=Ao (l.getD a be) g (st i) (l.getD (A+i) be):=by
   have:=G9 (Ao (l.getD a be) g) R c be (i:=i) ae;rw[P i r] at this;exact this
  rw[←e] at o;have j:=run (qr3 s (st (i+1)) l a1 a2 a9 aQ aP H g a (A+i));rw[il ae] at j;exact av J (av (fi 7 o) j)
 have last:=run ((qr2 s (st B) l a1 a2 a9 aQ aP H g a (A+B)).trans (qF (by rw[z];exact CM (wc _)) rfl));have lp:Pq 82 h0 [0,2,0,1,2,0,0,2,1,2,2,3,2,1,2,2,2,2,2,2,2,2,0,1,2,0,0,2,1,2,2,2,2,2,2,2] [1,2,8,9,10,11,12,15,20,21,22] (V 0) H (.exit 6) [1,2,8,9,10,11,12,15,20,21] [a1,a2,aM (st B),a9,aQ,aP,.ah s.c,bR l none,iI g,iI (ofNat a)] H:=Pz.count qh V (λ_=>H) (n:=B) au round (lk last);have Q:st B=Ap (l.drop A) g c (l.getD a be):=by rw[←hR];exact jz _ _ _
 rw[Q] at lp;have C:=run (quQ s c l a1 a2 a9 aQ aP H g a);rw[u] at C;exact av C (fi 6 lp)
def qu2(g:Int)(A B:Nat)(f:s.a=(A:Int))(hB:s.b=(B:Int))(O:l.length=A+B)(N:A+B<=4)(j:∀x∈l,x.l.length<=4)(c:List aV)(S:c.length<=600000) :
 Pq 82 h0 [1,2,2,3,2,1,2,2,2,2,2,2,2,2,0,1,2,0,0,2,1,2,2,2,2,2,2,2] [1,2,8,9,10,11,12,15,20] [a1,a2,aM c,a9,aQ,aP,.ah s.c,bR l none,iI g] H .normal [1,2,8,9,10,11,12,15] [a1,a2,aM (ER c (l.take A) (l.drop A) g),a9,aQ,aP,.ah s.c,bR l none] H:=by
 have run:=λ{p l u h J z h1 e} (k:cD 82 p l u h J=some (e,z,h1))=>cf h0 k
 let L:=l.take A
 have P:L.length=A:=by show(l.take A).length=A;rw[vB];omega
 have Q:∀i,i<A->L.getD i be=l.getD i be:=λi d=>by show(l.take A).getD i be=_;rw[wh,wh,vv d]
 have C:∀x∈l.drop A,x.l.length<=4:=λx hx=>j x (xZ hx);have I:∀x∈L,x.l.length<=4:=λx hx=>j x (xX hx)
 let st:Nat->List aV:=fo (Ap (l.drop A) g) L c
 let V:Nat->JO:=λi=>[a1,a2,aM (st i),a9,aQ,aP,.ah s.c,bR l none,iI g,iI (ofNat i)]
 have round:∀i,i<A->Pq 82 h0 [0,0,2,1,2,2,3,2,1,2,2,2,2,2,2,2,2,0,1,2,0,0,2,1,2,2,2,2,2,2,2] [1,2,8,9,10,11,12,15,20,21] (V i) H .normal [1,2,8,9,10,11,12,15,20,21] (V (i+1)) H:=λi d=>by
  have E:(st i).length<=700000:=by
   have:=KB (Ap (l.drop A) g) L c 64 (λc y M=>WY (I y M) C (by rw[vo];omega)) be i ae;show(fo _ _ _ _).length<=_;omega
  have D:=run ((quO s (st i) l a1 a2 a9 aQ aP H g i).trans (qk (by rw[f];exact CL d) rfl));have r:=qu1 s l a1 a2 a9 aQ aP H h0 g i A B f hB O N d j (st i) E;have e:st (i+1)=Ap (l.drop A) g (st i) (l.getD i be):=by
   have:=G9 (Ap (l.drop A) g) L c be (i:=i) ae;rw[Q i d] at this;exact this
  rw[←e] at r;have o:=run (quP s (st (i+1)) l a1 a2 a9 aQ aP H g i);rw[il ae] at o;exact av D (av (fi 5 r) o)
 have last:=run ((qr1 s (st A) l a1 a2 a9 aQ aP H g A).trans (qF (by rw[f];exact CM (wc _)) rfl));have lp:Pq 82 h0 [0,2,1,2,2,3,2,1,2,2,2,2,2,2,2,2,0,1,2,0,0,2,1,2,2,2,2,2,2,2] [1,2,8,9,10,11,12,15,20,21] (V 0) H (.exit 4) [1,2,8,9,10,11,12,15] [a1,a2,aM (st A),a9,aQ,aP,.ah s.c,bR l none] H:=Pz.count qh V (λ_=>H) (n:=A) au round (lk last);have R:st A=ER c (l.take A) (l.drop A) g:=by rw[WU,←jz,P]
 rw[R] at lp;exact av (run (quN s c l a1 a2 a9 aQ aP H g)) (fi 4 lp)
end
def Xb(v:Nat)(e:Int)(c:T)(d:Nat)(a:Nat->aL):aq:=bW v 2 (λj=>[uI e,bif j==0 then c else fj a (d+1) none])
def Ha(v:Nat)(a:Int)(c g:T)(f:Nat)(d:Nat->aL):aq:=bW v 2 (λe=>[uI (bif e==0 then a else a),bif e==0 then c else bif e==0 then g else fj d (f+1) none])
def joP(m d:Nat)(e a:Nat->aL):aq:=.mk 0 2 m (λj=>bif (0+m).ble j&&j.blt (0+m+(d+1)) then(a (j-(0+m))).c else(e j).c) true false none
def DK(m d:Nat)(e a:Nat->aL):aq:=.mk 1 2 (m+(d+1)) (λj=>bif j.blt m then(e (0+j)).c else(a (j-m)).c) true false none
def qu3(k:Nat)(B:k<16)(o:aq)(X:Nat->aq)(e:aq)(f:Nat->aq)(v m a:Nat)(i d:Nat->aL)(j:Int)(A z x u r s g:T):cK (KG qv) 82 [1,3,2,1,2,2,2,2,2,2,2,0,1,2,0,0,2,1,2,2,2,2,2,2,2] [1,2,8,9,10,11,12,15] [A,z,x,u,r,s,g,.own 34 v 0 2 none] (Hq o (fX X k (iB m i)) e f [Xb v j (.own (1+k) 0 0 m none) a d]) [1,2,8,9,10,11,12,15] =
 (bif v==v&&true then bif v==v&&true then bif v==v&&true then bif v==v&&true then bif v==v&&true then bif v==v&&true then bif (0+m).ble m then bif ((m+(a+1))*17).ble 70368744177664 then bif (0+m+(a+1)).ble m then bif v==v&&true then bif v==v&&true then bif v==v&&true then some (.normal,[A,z,x,u,r,s,g,.own 34 v 0 2 none],(Hq o (fX X k (joP m a i d)) e f [Ha v j (.own (1+k) 0 0 (m+(a+1)) none) (.own (1+k) 0 0 m none) a d])) else none else none else none else bif v==v&&true then bif v==v&&true then bif v==v&&true then some (.normal,[A,z,x,u,r,s,g,.own 34 v 0 2 none],(Hq o (fX X k (DK m a i d)) e f [Ha v j (.own (1+k) 1 0 (m+(a+1)) none) (.own (1+k) 0 0 m none) a d])) else none else none else none else none else none else none else none else none else none else none else none):=by
 cases qW B
 all_goals kernel_rfl
def qu4(e:aq)(X:Nat->aq)(a:aq)(f:Nat->aq)(v:Nat)(g:Nat->JO)(s r o k i j d:T):cK (KG qv) 82 [2,3,2,1,2,2,2,2,2,2,2,0,1,2,0,0,2,1,2,2,2,2,2,2,2] [1,2,8,9,10,11,12,15] [s,r,o,k,i,j,d,.own 34 v 0 2 none] (Hq e X a f [bW v 2 g]) [1,2,8,9,10,11,12,15] =
 (bif v==v&&true then some (.normal,[s,r,o,k,i,j,d,.own 34 v 0 1 none],(Hq e X a f [bW v 2 g])) else none):=qh
def qu5(d:aq)(X:Nat->aq)(a:aq)(f:Nat->aq)(y:Int)(fr:Bool)(A B:Nat)(H:1<=A)(hB:1<=B)(E:A+B<=4)(l:List aF)(s:l.length=A+B)(r o k i e g:T):cK (KG qv) 82 [2,2,2,3,2,1,2,2,2,2,2,2,2,2,0,1,2,0,0,2,1,2,2,2,2,2,2,2] [1,2,8,9,10,11,12,15] [r,o,k,i,e,g,.ah (ao.mk 8 y (ofNat A) (ofNat B) fr).c,bR l none] (Hq d X a f []) [1,2,8,9,10,11,15] =
 some (.normal,[r,o,k,i,e,g,.own 34 1 0 (0+B+A) none],Hq d X a f [.mk 1 2 (0+B+A) (λj=>bif j.blt (0+B) then(l.getD (A+(0+j)) be).c else(l.getD (0+(j-(0+B))) be).c) false false none]):=by
 have h:(A=1/\B=1)∨(A=1/\B=2)∨(A=1/\B=3)∨(A=2/\B=1)∨(A=2/\B=2)∨(A=3/\B=1):=by omega
 rcases h with⟨rfl,rfl⟩|⟨rfl,rfl⟩|⟨rfl,rfl⟩|⟨rfl,rfl⟩|⟨rfl,rfl⟩|⟨rfl,rfl⟩
 all_goals
  rcases l with _|⟨D,_|⟨C,_|⟨z,_|⟨x,_|⟨u,l⟩⟩⟩⟩⟩
  all_goals first|(exfalso;simp only[vc,vE] at s;omega)|(show _=_;kernel_rfl)
def By(n:Nat)(b:Nat->JO)(c:T)(j:Nat):JO:=bif j.blt n then b (0+j) else [[c]].getD (0+(j-n)) []
def ouP(n:Nat)(b:Nat->JO)(c:T)(j:Nat):JO:=bif (0+n).ble j&&j.blt (0+n+1) then [[c]].getD (0+(j-(0+n))) [] else b j
def qu6(d:aq)(X:Nat->aq)(f:Nat->aq)(n v e:Nat)(a:aq)(b:Nat->JO)(r o k i g:T):cK (KG qv) 82 [2,2,2,2,2,2,2,2,2,0,1,2,0,0,2,1,2,2,2,2,2,2,2] [1,2,8,9,10,11,15] [r,o,k,i,.own 17 n 0 n none,g,.own 34 v 0 e none] (Hq d X (di n b) f [a]) [1,2,8,9,10,11] =
 (bif n==n&&true then bif (0+n).ble n then bif ((n+1)*25).ble 70368744177664 then bif (0+n+1).ble n then some (.normal,[r,o,k,i,.own 17 n 0 (n+1) none,g],(Hq d X (.mk n 1 n (ouP n b (.own 34 v 0 e none)) false false none) f [a,.mk 0 1 1 (λj=>[[T.own 34 v 0 e none]].getD j []) false true none])) else some (.normal,[r,o,k,i,.own 17 (n+1) 0 (n+1) none,g],(Hq d X (di (n+1) (By n b (.own 34 v 0 e none))) f [a,.mk 0 1 1 (λj=>[[T.own 34 v 0 e none]].getD j []) false true none])) else none else none else none):=qh
def pr3(q:JO->qa->T->qa->Prop)(w:bD)(G:Nat->ao)(n N:Nat)(b:aq)(X:Nat->aq)(y t:aq)(R:Nat->aq)(cr he fa:T)(d:Int):cK (qv.cE 20 (jo q λ_ _=>some (.agg [.own 0 N 0 N none,.own 17 6 0 6 none,.own 18 6 0 6 none,cr,he,fa,uI d],mq b X y t R []))) 82 [1,2,2,2] [1,2] [aU G n none,bz w] [] [1,2] =
 (bif qM (q [.agg (w.cc none)] [] (.agg [.own 0 N 0 N none,.own 17 6 0 6 none,.own 18 6 0 6 none,cr,he,fa,uI d]) (mq b X y t R [])) then some (.normal,[aU G n none,.ah [.own 0 N 0 N none,.own 17 6 0 6 none,.own 18 6 0 6 none,cr,he,fa,uI d]],mq b X y t R []) else none):=qh
section
variable (w:bD) (G:Nat->ao) (A:Nat->Bool)
def dA:Nat->Nat
 |0=>0
 |i+1=>dA i+(G i).nN
def cP(j:Nat):List aF:=lz (G j) (fJ (G j) (w.sl.drop (dA G j)))
def ia:Nat->List aV
 |0=>w.cr
 |i+1=>tF (G i) (fJ (G i) (w.sl.drop (dA G i))) (ia i)
def gA(a j:Nat):T:=bif A j then(bif j.blt a then .undef else .own (1+j) 0 0 (bl w j).l.length none) else aX (bl w j).l
def XP(a k:Nat):aq:=.mk 0 2 (bif A k&&(!k.blt a&&k.blt w.sl.length) then(bl w k).l.length else 0) (λe=>((bl w k).l.getD e bU).c) true false none
def bS(j:Nat):Int:=(bl w j).b
def gy(d:Int)(a e:Nat):JO:=[uI d,gA w A a (a+e)]
def lQ(a e:Nat):JO:=[iI (ofNat (bl w (a+e)).l.length)]
end
def Xd(g:Nat->T)(k:Nat){c:T}(h:g k=c):fC g k c=g:=funext λj=>by
 show(bif j==k then c else g j)=g j;by_cases q:j=k
 .rw[show(j==k)=true by simpa using q,q,h];rfl
 .rw[show(j==k)=false by simpa using q];rfl
def Q8(f:Nat->aq)(k:Nat){b:aq}(h:f k=b):fX f k b=f:=funext λj=>by
 show(bif j==k then b else f j)=f j;by_cases q:j=k
 .rw[show(j==k)=true by simpa using q,q,h];rfl
 .rw[show(j==k)=false by simpa using q];rfl
def fg.mono{n m:Nat}{b:aq}(h:fg n b)(e:n<=m):fg m b:=by
 rcases h with h|h
 .exact .inl h
 .refine .inr λj a c d=>?_;have:=h j a c d;revert this;cases c<;>simp[cu]<;>omega
def ak.pre:∀(p:qa) {h h2:qa},ak h h2->ak (p++h) (p++h2)
 |[],_,_,a=>a
 |_::p,_,_,a=>.cons ⟨rfl,rfl,rfl,λh=>h,λ_ _=>rfl⟩ (ak.pre p a) rfl
def ZC(a:aq)(X:Nat->aq)(o:aq)(f:Nat->aq)(z:qa):Hq a X o f z=Hq a X o f []++z:=rfl
def Hb{n:Nat}{a:aq}{X:Nat->aq}{o:aq}{f:Nat->aq}(h1:fg n a)(h2:∀k,fg n (X k))(e:fg n o)(d:∀k,fg n (f k)):∀b∈Hq a X o f [],fg n b:=by
 refine vI.2 ⟨h1,?_⟩
 repeat (first|exact List.forall_mem_nil _|refine vI.2 ⟨h2 _,?_⟩|refine vI.2 ⟨e,?_⟩|refine vI.2 ⟨d _,?_⟩)
section
variable {w:bD} {A:Nat->Bool}
def LW{a j n:Nat}(h:1+j<n):cu n (gA w A a j)=true:=by
 unfold gA;cases A j with
 |true=>cases j.blt a with
  |true=>rfl
  |false=>show Nat.blt (1+j) n=true;exact qL h
 |false=>rfl
def KC{n a:Nat}(h:w.sl.length<n):fg n (gM w.sl.length (bS w) (gA w A a)):=.inr λj d c e=>by
 have d:j<w.sl.length:=d;rcases wK.1 e with r|r
 .rw[r];rfl
 .rw[wM.1 r];exact LW ae
def Hc{n a k:Nat}:fg n (XP w A a k):=.inl rfl
def qqq(a m:Nat)(hN:w.sl.length<=16)(ham:a+m<=w.sl.length)(hm:m<=4)(d:ao)(hl:∀j,j<w.sl.length->(bl w j).l.length<=1000)(C:aq)(f:Nat->aq)(ho:fg 36 C)(hf:∀k,fg 36 (f k))(B u o s:T)(l1:low 36 B=true)(l8:low 36 u=true)(l10:low 36 o=true)(l11:low 36 s=true) :
 Pq 82 [] [0,2,1,2,2,2,2,0,1,2,0,0,2,1,2,2,2,2,2,2,2] [1,2,8,9,10,11,12,13,14,15,16] [B,dD w.sl.length,u,iI (ofNat a),o,s,.ah d.c,iI (ofNat m),.own 35 0 0 0 none,.own 34 0 0 0 none,iI (ofNat a)] (Hq (gM w.sl.length (bS w) (gA w A a)) (XP w A a) C f [bW 0 0 (gy w A (ze d) a),me 0 0 (lQ w a)])
  (.exit 2) [1,2,8,9,10,11,12,13,14,15] [B,dD w.sl.length,u,iI (ofNat a),o,s,.ah d.c,iI (ofNat m),.own 35 m 0 m none,.own 34 m 0 m none] (Hq (gM w.sl.length (bS w) (gA w A a)) (XP w A a) C f [bW m m (gy w A (ze d) a),me m m (lQ w a)]):=by
 have run:=λ{p l U h l1 W h1 e} (k:cD 82 p l U h l1=some (e,W,h1))=>cf [] k;have um:OO (KG qv):=qC qp (λ_ _ _ _ h=>(by cases h));have D:=λ{p l U h l1 W h1 e} (k:cK (KG qv) 82 p l U h l1=some (e,W,h1))=>eD um [] k
 let N:=w.sl.length
 let E:=gM N (bS w) (gA w A a)
 let X:=XP w A a
 let g:=ze d
 let V:Nat->JO:=λj=>[B,dD N,u,iI (ofNat a),o,s,.ah d.c,iI (ofNat m),.own 35 j 0 j none,.own 34 j 0 j none,iI (ofNat (a+j))]
 let H:Nat->qa:=λj=>Hq E X C f [bW j j (gy w A g a),me j j (lQ w a)]
 have LX:i64.wrap (ofNat a+ofNat m)=ofNat (a+m):=by rw[Qp bH bH];simp
 have lwH:∀j,j<=m->∀b∈Hq E X C f [bW j j (gy w A g a),me j j (lQ w a)],fg 36 b:=λj hj=>by
  intro b M;rw[ZC] at M;rcases wS.1 M with r|r
  .exact Hb (KC ae) (λ_=>Hc) ho hf b r
  .rcases wK.1 r with r|r
   .rw[r];refine .inr λe he c I=>?_;have he:e<j:=he;rcases wK.1 I with q|q
    .rw[q];rfl
    .rw[wM.1 q];exact LW ae
   .rw[wM.1 r];exact .inl rfl
 have round:∀j,j<m->Pq 82 [] [0,0,2,1,2,2,2,2,0,1,2,0,0,2,1,2,2,2,2,2,2,2] [1,2,8,9,10,11,12,13,14,15,16] (V j) (H j) .normal [1,2,8,9,10,11,12,13,14,15,16] (V (j+1)) (H (j+1)):=by
  intro j hj
  let k:=a+j
  have J:k<N:=by show a+j<w.sl.length;omega
  have Xe:k.blt a=false:=QP (by show a<=a+j;omega)
  let L:=(bl w k).l
  have hL:L.length<=1000:=hl k J;have dk:dj k N=true:=uP J;have pA:=run ((quF B (dD N) u o s (.ah d.c) (.own 35 j 0 j none) (.own 34 j 0 j none) a k m (H j)).trans (qk (by rw[LX];exact CL (by show a+j<a+m;omega)) rfl));have Y:=run (quG B (dD N) u (iI (ofNat a)) o s (.ah d.c) (iI (ofNat m)) (.own 35 (j+1) 0 (j+1) none) (.own 34 (j+1) 0 (j+1) none) k (H (j+1)));rw[il ae] at Y;have CN:∀{α:Type} (x y:α),(bif decide (d.k=2) then x else bif decide (d.k=5) then x else y)=if d.k=2∨d.k=5 then x else y:=λx y=>by
   by_cases Q:d.k=2
   .rw[wq Q,wl (.inl Q)];rfl
   .rw[dF Q];by_cases P:d.k=5
    .rw[wq P,wl (.inr P)];rfl
    .rw[dF P,we (λh=>h.elim Q P)];rfl
  have Xf:∀m',m'=L.length->∀e,e<j+1->Bx j m' (lQ w a) e=lQ w a e:=λm' fM e he=>by
   unfold Bx;by_cases c:e<j
   .rw[qL c,wn];rfl
   .obtain rfl:e=j:=by omega
    rw[QP (wc _),wW,fM];rfl
  cases hA:A k with
  |false =>
   have O:gA w A a k=aX L:=by unfold gA;rw[hA];rfl
   have pB:Pq 82 [] [1,0,1,2,0,0,2,1,2,2,2,2,0,1,2,0,0,2,1,2,2,2,2,2,2,2] [1,2,8,9,10,11,12,13,14,15,16] (V j) (H j) .normal [1,2,8,9,10,11,12,13,14,15,16,17] [B,dD N,u,iI (ofNat a),o,s,.ah d.c,iI (ofNat m),.own 35 j 0 j none,.own 34 j 0 j none,iI (ofNat k),.ah [uI (bS w k),aX L]] (H j):=by
    have q:=qrR N k ae (bS w) (gA w A a) X C f [bW j j (gy w A g a),me j j (lQ w a)] L.length (λi=>L.getD i bU) B u (iI (ofNat a)) o s (.ah d.c) (iI (ofNat m)) (.own 35 j 0 j none) (.own 34 j 0 j none);rw[Xd (gA w A a) k (c:=fj (λi=>L.getD i bU) L.length none) O] at q;exact run (q.trans (qk au (qk dk (qk au (qk (qL J) rfl)))))
   have pC:=run (qrU d 0 L.length (λi=>L.getD i bU) (bS w k) B (dD N) u (iI (ofNat a)) o s (iI (ofNat m)) (.own 35 j 0 j none) (.own 34 j 0 j none) (iI (ofNat k)) (H j));have Z:Pq 82 [] [1,2,2,0,1,2,0,0,2,1,2,2,2,2,0,1,2,0,0,2,1,2,2,2,2,2,2,2] [1,2,8,9,10,11,12,13,14,15,16,17] [B,dD N,u,iI (ofNat a),o,s,.ah d.c,iI (ofNat m),.own 35 j 0 j none,.own 34 j 0 j none,iI (ofNat k),.ah [uI 0,aX L]] (H j) .normal [1,2,8,9,10,11,12,13,14,15,16,17] [B,dD N,u,iI (ofNat a),o,s,.ah d.c,iI (ofNat m),.own 35 j 0 j none,.own 34 j 0 j none,iI (ofNat k),.ah [uI g,aX L]] (H j):=by
    have q:=(qrV d 0 L.length (λi=>L.getD i bU) B (dD N) u (iI (ofNat a)) o s (iI (ofNat m)) (.own 35 j 0 j none) (.own 34 j 0 j none) (iI (ofNat k)) (H j)).trans (CN _ _);show Pq 82 [] _ _ _ _ _ _ [B,dD N,u,iI (ofNat a),o,s,.ah d.c,iI (ofNat m),.own 35 j 0 j none,.own 34 j 0 j none,iI (ofNat k),.ah [uI (ze d),aX L]] _;unfold ze;by_cases c:d.k=2∨d.k=5
    .rw[wl c] at q ⊢;exact run q
    .rw[we c] at q ⊢;exact run q
   have S:=qrW E X C f (bW j j (gy w A g a)) L.length j j (lQ w a) (λi=>L.getD i bU) g B (dD N) u (iI (ofNat a)) o s (.ah d.c) (iI (ofNat m)) (.own 34 j 0 j none) (iI (ofNat k));have Bu:=D (S.trans (qk au (qk (qO ae) (qk (qO ae) (qF (by rw[ZG ae];simp) rfl)))));have R:=qrY E X C f (me (j+1) (j+1) (Bx j L.length (lQ w a))) L.length j j (gy w A g a) (λi=>L.getD i bU) g B (dD N) u (iI (ofNat a)) o s (.ah d.c) (iI (ofNat m)) (.own 35 (j+1) 0 (j+1) none) (iI (ofNat k));have Hd:=Pz.post (D (R.trans (qk au (qk (qO ae) (qk (qO ae) (qF (by rw[ZG ae];simp) rfl)))))) (v2:=[B,dD N,u,iI (ofNat a),o,s,.ah d.c,iI (ofNat m),.own 35 (j+1) 0 (j+1) none,.own 34 (j+1) 0 (j+1) none,iI (ofNat k)]) (h2:=H (j+1)) λnt=>by
    refine .same ?_;have key:ak [bW (j+1) (j+1) (WS j (gy w A g a) [uI g,aX L]),me (j+1) (j+1) (Bx j L.length (lQ w a))] [bW (j+1) (j+1) (gy w A g a),me (j+1) (j+1) (lQ w a)]:=by
     refine .cons ⟨rfl,rfl,rfl,λh=>h,λe he=>?_⟩ (.cons ⟨rfl,rfl,rfl,λh=>h,λe he=>(Xf _ rfl e he).symm⟩ .nil rfl) rfl;have he:e<j+1:=he;show gy w A g a e=bif e.blt j then gy w A g a (0+e) else [[uI g,aX L]].getD (e-j) [];by_cases c:e<j
     .rw[qL c,wn];rfl
     .obtain rfl:e=j:=by omega
      rw[QP (wc _),wW];show [uI g,gA w A a (a+e)]=[_,_];rw[show gA w A a (a+e)=aX L from O]
    rw[ZC E X C f [bW (j+1) (j+1) _,_]];show ak _ (Hq E X C f [bW (j+1) (j+1) (gy w A g a),me (j+1) (j+1) (lQ w a)]);rw[ZC E X C f [bW (j+1) (j+1) (gy w A g a),_]];exact ak.pre _ key
   exact av pA (av (fi 3 (av pB (av pC (av Z (av Bu Hd))))) Y)
  |true =>
   have O:gA w A a k = .own (1+k) 0 0 L.length none:=by unfold gA;rw[hA,Xe];rfl
   have hX:X k=iB L.length (λi=>L.getD i bU):=by show XP w A a k=_;unfold XP;rw[hA,Xe,qL J];rfl
   have pB:Pq 82 [] [1,0,1,2,0,0,2,1,2,2,2,2,0,1,2,0,0,2,1,2,2,2,2,2,2,2] [1,2,8,9,10,11,12,13,14,15,16] (V j) (H j) .normal [1,2,8,9,10,11,12,13,14,15,16,17] [B,dD N,u,iI (ofNat a),o,s,.ah d.c,iI (ofNat m),.own 35 j 0 j none,.own 34 j 0 j none,iI (ofNat k),.ah [uI (bS w k),.own (1+k) 0 0 L.length none]] (H j):=by
    have q:=qrQ N k ae (bS w) (gA w A a) X C f [bW j j (gy w A g a),me j j (lQ w a)] L.length (λi=>L.getD i bU) B u (iI (ofNat a)) o s (.ah d.c) (iI (ofNat m)) (.own 35 j 0 j none) (.own 34 j 0 j none);rw[Xd (gA w A a) k (c:=.own (1+k) 0 0 L.length none) O] at q;exact run (q.trans (qk au (qk dk (qk au (qk (qL J) rfl)))))
   have pC:=run (qrS d (1+k) L.length (λi=>L.getD i bU) (bS w k) B (dD N) u (iI (ofNat a)) o s (iI (ofNat m)) (.own 35 j 0 j none) (.own 34 j 0 j none) (iI (ofNat k)) (H j));have Z:Pq 82 [] [1,2,2,0,1,2,0,0,2,1,2,2,2,2,0,1,2,0,0,2,1,2,2,2,2,2,2,2] [1,2,8,9,10,11,12,13,14,15,16,17] [B,dD N,u,iI (ofNat a),o,s,.ah d.c,iI (ofNat m),.own 35 j 0 j none,.own 34 j 0 j none,iI (ofNat k),.ah [uI 0,.own (1+k) 0 0 L.length none]] (H j) .normal [1,2,8,9,10,11,12,13,14,15,16,17] [B,dD N,u,iI (ofNat a),o,s,.ah d.c,iI (ofNat m),.own 35 j 0 j none,.own 34 j 0 j none,iI (ofNat k),.ah [uI g,.own (1+k) 0 0 L.length none]] (H j):=by
    have q:=(qrT d (1+k) L.length (λi=>L.getD i bU) B (dD N) u (iI (ofNat a)) o s (iI (ofNat m)) (.own 35 j 0 j none) (.own 34 j 0 j none) (iI (ofNat k)) (H j)).trans (CN _ _);show Pq 82 [] _ _ _ _ _ _ [B,dD N,u,iI (ofNat a),o,s,.ah d.c,iI (ofNat m),.own 35 j 0 j none,.own 34 j 0 j none,iI (ofNat k),.ah [uI (ze d),.own (1+k) 0 0 L.length none]] _;unfold ze;by_cases c:d.k=2∨d.k=5
    .rw[wl c] at q ⊢;exact run q
    .rw[we c] at q ⊢;exact run q
   have S:=qrX k ae E X C f (bW j j (gy w A g a)) L.length j j (lQ w a) (λi=>L.getD i bU) g B (dD N) u (iI (ofNat a)) o s (.ah d.c) (iI (ofNat m)) (.own 34 j 0 j none) (iI (ofNat k));rw[Q8 X k hX] at S;have Bu:=D (S.trans (qk au (qk (qO ae) (qk (qO ae) (qF (by rw[ZG ae];simp) rfl)))));have R:=qrZ k ae E X C f (me (j+1) (j+1) (Bx j L.length (lQ w a))) L.length j j (gy w A g a) (λi=>L.getD i bU) g B (dD N) u (iI (ofNat a)) o s (.ah d.c) (iI (ofNat m)) (.own 35 (j+1) 0 (j+1) none) (iI (ofNat k));rw[Q8 X k hX] at R;have Hd:=Pz.post (D (R.trans (qk au (qk (qO ae) (qk (qO ae) (qF (by rw[ZG ae];simp) rfl)))))) (v2:=[B,dD N,u,iI (ofNat a),o,s,.ah d.c,iI (ofNat m),.own 35 (j+1) 0 (j+1) none,.own 34 (j+1) 0 (j+1) none,iI (ofNat k)]) (h2:=H (j+1)) λnt=>by
    refine .trans (h1:=Hq E X C f [bW (j+1) (j+1) (Q3 j (gy w A g a) [uI g,.own (1+k) 0 0 L.length none]),me (j+1) (j+1) (Bx j L.length (lQ w a))]) (fA:=[B,dD N,u,iI (ofNat a),o,s,.ah d.c,iI (ofNat m),.own 35 (j+1) 0 (j+1) none,.own 34 (j+1) 0 (j+1) none,iI (ofNat k)]) ?_ (.same ?_)
    .refine am.DM (n:=36) (p:=Hq E X C f [bW (j+1) (j+1) _,me (j+1) (j+1) _]) (z:=[Q4 _]) rfl (wR _) rfl (λc I=>?_) (λb M=>?_)
     .simp only[wK,xa,or_false] at I;rcases I with h|h|h|h|h|h|h|h|h|h|h
      all_goals (rw[h];first|exact l1|exact l8|exact l10|exact l11|rfl)
     .rw[ZC] at M;rcases wS.1 M with r|r
      .exact Hb (KC ae) (λ_=>Hc) ho hf b r
      .rcases wK.1 r with r|r
       .rw[r];refine .inr λe he c I=>?_;have he:e<j+1:=he;have I:c∈(bif e.blt j then gy w A g a (0+e) else [[uI g,.own (1+k) 0 0 L.length none]].getD (0+(e-j)) []):=I;by_cases q:e<j
        .rw[qL q] at I;rcases wK.1 I with z|z
         .rw[z];rfl
         .rw[wM.1 z];exact LW ae
        .obtain rfl:e=j:=by omega
         rw[QP (wc _),wW] at I;rcases wK.1 I with z|z
         .rw[z];rfl
         .rw[wM.1 z];exact qL ae
       .rw[wM.1 r];exact .inl rfl
    have key:ak [bW (j+1) (j+1) (Q3 j (gy w A g a) [uI g,.own (1+k) 0 0 L.length none]),me (j+1) (j+1) (Bx j L.length (lQ w a))] [bW (j+1) (j+1) (gy w A g a),me (j+1) (j+1) (lQ w a)]:=by
     refine .cons ⟨rfl,rfl,rfl,λh=>h,λe he=>?_⟩ (.cons ⟨rfl,rfl,rfl,λh=>h,λe he=>(Xf _ rfl e he).symm⟩ .nil rfl) rfl;have he:e<j+1:=he;show gy w A g a e=bif e.blt j then gy w A g a (0+e) else [[uI g,.own (1+k) 0 0 L.length none]].getD (0+(e-j)) [];by_cases c:e<j
     .rw[qL c,wn];rfl
     .obtain rfl:e=j:=by omega
      rw[QP (wc _),wW];show [uI g,gA w A a (a+e)]=[_,_];rw[show gA w A a (a+e) = .own (1+k) 0 0 L.length none from O]
    rw[ZC E X C f [bW (j+1) (j+1) _,_]];show ak _ (Hq E X C f [bW (j+1) (j+1) (gy w A g a),me (j+1) (j+1) (lQ w a)]);rw[ZC E X C f [bW (j+1) (j+1) (gy w A g a),_]];exact ak.pre _ key
   exact av pA (av (fi 3 (av pB (av pC (av Z (av Bu Hd))))) Y)
 have last:=run ((qrL B (dD N) u o s (.ah d.c) (.own 35 m 0 m none) (.own 34 m 0 m none) a (a+m) m (H m)).trans (qF (by rw[LX];exact CM (wc _)) rfl));exact Pz.count qh V H (n:=m) au round (lk last)
end
def qr6(p:JO->T->Prop)(s:ao)(B g:Nat->Int)(M m:Nat)(a b c d e f j:T)(H:qa):cK (qv.add 65 (Qa p λ_=>some (.aK [.new (br g m none),iI 0]))) 82 [1,2,2,2,2,2,2,0,1,2,0,0,2,1,2,2,2,2,2,2,2] [1,2,8,9,10,11,12,14,15] [a,b,c,d,e,f,.ah s.c,br B M none,j] H [1,2,8,9,10,11,12,15] =
( gD (qM (p [s.t,br B M
 none] (.aK [(br g m
 none).new,iI 0])))<|zN [a,b,c,d,e,f,.ah s.c,j] H):=qh
section
variable {w:bD} {A:Nat->Bool}
def qqr{a m n:Nat}{f:Int}(h:a+m<n):fg n (bW m m (gy w A f a)):=.inr λe he c d=>by
 have he:e<m:=he;rcases wK.1 d with q|q
 .rw[q];rfl
 .rw[wM.1 q];exact LW ae
def qqs(a m:Nat)(H:w.sl.length<=16)(x:a+m<=w.sl.length)(D:m<=4)(d:ao)(C:d.Ok)(I:m=d.nN)(he:iY d (λe=>ofNat (bl w (a+e)).l.length) d.nN=0)(g:aq)(f:Nat->aq)(s:fg 35 g)(u:∀k,fg 35 (f k))(i:Nat)(E:i<16)(G:Nat->ao)(n:Nat)(c:List aV)(j:Int) :
 Pq 82 [] [1,2,2,2,2,2,0,1,2,0,0,2,1,2,2,2,2,2,2,2] [1,2,8,9,10,11,12,13,14,15] [aU G n none,dD w.sl.length,aM c,iI (ofNat a),.own 17 i 0 i none,iI (ofNat i),.ah d.c,iI (ofNat m),.own 35 m 0 m none,.own 34 m 0 m none] (Hq (gM w.sl.length (bS w) (gA w A a)) (XP w A a) g f [bW m m (gy w A j a),me m m (lQ w a)])
  .normal [1,2,8,9,10,11,12,14,15] [aU G n none,dD w.sl.length,aM c,iI (ofNat (a+m)),.own 17 i 0 i none,iI (ofNat i),.ah d.c,br (λe=>ofNat (bl w (a+e)).l.length) m none,.own 34 m 0 m none] (Hq (gM w.sl.length (bS w) (gA w A a)) (XP w A a) g f [bW m m (gy w A j a)]):=by
 have B:i64.wrap (ofNat a+ofNat m)=ofNat (a+m):=by rw[Qp bH bH];simp
 have q:=quH (aU G n none) (dD w.sl.length) (aM c) (.own 17 i 0 i none) (iI (ofNat i)) (.ah d.c) (.own 35 m 0 m none) (.own 34 m 0 m none) a m (Hq (gM w.sl.length (bS w) (gA w A a)) (XP w A a) g f [bW m m (gy w A j a),me m m (lQ w a)]);rw[B] at q;refine Pz.post (cf [] q) λnt=>?_;refine am.DL (n:=35) (p:=Hq (gM w.sl.length (bS w) (gA w A a)) (XP w A a) g f [bW m m (gy w A j a)]) (z:=[me m m (lQ w a)]) rfl (wR _) rfl ?_ (λb o=>?_)
 .show [aU G n none,dD w.sl.length,aM c,iI (ofNat (a+m)),.own 17 i 0 i none,iI (ofNat i),.ah d.c,bif m==m&&Nat.ble (0+m) m then T.view 1 m (λe=>lQ w a (0+e)) none else .undef,.own 34 m 0 m none]=_;rw[wF,qO ae];show [_,_,_,_,_,_,_,T.view 1 m (λe=>lQ w a (0+e)) none,_]=[_,_,_,_,_,_,_,T.view 1 m (λe=>lQ w a e) none,_];rw[show(λe=>lQ w a (0+e))=λe=>lQ w a e from funext λe=>by rw[wn]]
 .rw[ZC] at o;rcases wS.1 o with r|r
  .exact Hb (KC ae) (λ_=>Hc) s u b r
  .rw[wM.1 r];exact qqr ae
def qqt(a m:Nat)(d:ao)(u:d.Ok)(z:m<=4)(x:m=d.nN)(he:iY d (λe=>ofNat (bl w (a+e)).l.length) d.nN=0)(r o k j g i gF:T)(H:qa) :
 Pq 82 [] [1,2,2,2,2,2,2,0,1,2,0,0,2,1,2,2,2,2,2,2,2] [1,2,8,9,10,11,12,14,15] [r,o,k,j,g,i,.ah d.c,br (λe=>ofNat (bl w (a+e)).l.length) m none,gF] H .normal [1,2,8,9,10,11,12,15] [r,o,k,j,g,i,.ah d.c,gF] H:=by
 obtain⟨p,s⟩:=qE aw G17 65;have f:=UW d u (λe=>ofNat (bl w (a+e)).l.length) m none ae;unfold Gy at f;rw[wl (by rw[x];exact he)] at f;exact eD (qr qp (qq s)) [] ((qr6 p d (λe=>ofNat (bl w (a+e)).l.length) (fe d λe=>ofNat (bl w (a+e)).l.length) m d.mN r o k j g i gF H).trans (qk (qu s f) rfl))
def dq(l:Nat->List aF)(i j:Nat):aq:=.mk (bif j.blt i then 1 else 0) 2 (bif j.blt i then(l j).length else 0) (λe=>((l j).getD e be).c) false false none
def eR(l:Nat->List aF)(j:Nat):JO:=[.own (18+j) 1 0 (l j).length none]
def jY{n:Nat}(l:Nat->List aF)(i j:Nat):fg n (dq l i j):=.inr λe _ c a=>by
 have a:c∈((l j).getD e be).c:=a;rcases wK.1 a with q|q
 .rw[q];rfl
 .rw[wM.1 q];rfl
def L0{n:Nat}(l:Nat->List aF){i:Nat}(h:18+i<=n):fg n (di i (eR l)):=.inr λe he c a=>by
 have he:e<i:=he;rw[wM.1 a];exact qL ae
def qu7{i vi d n:Nat}{x:T}(h:cu 34 x=true):nj i vi 34 d x=x:=by
 cases x with
 |own m aj e len cap =>
  show(bif m==34 then _ else _)=_;have:m<34:=by simpa [cu] using h
  rw[show(m==34)=false by simp;omega];rfl
 |ptr m aj q o =>
  show(bif m==34 then _ else _)=_;have:m<34:=by simpa [cu] using h
  rw[show(m==34)=false by simp;omega];rfl
 |mp m aj =>
  show(bif m==34 then _ else _)=_;have:m<34:=by simpa [cu] using h
  rw[show(m==34)=false by simp;omega];rfl
 |fn f a =>
  have h:a.isEmpty=true:=h;obtain rfl:a=[]:=xQ.1 h;rfl
 |_=>first|rfl|(simp[cu,zK] at h;done)
def Xg{i vi d:Nat}{l:JO}(h:∀c∈l,cu 34 c=true):l=l.map (nj i vi 34 d):=by
 have:l.map (nj i vi 34 d)=l.map id:=va λa e=>qu7 (n:=0) (h a e);rw[this,xP]
def qr7(G:Nat->ao)(n:Nat)(l:Nat->List aF)(i:Nat)(H:i<16)(c:List aV)(u:aq)(X:Nat->aq)(J:fg 34 u)(I:∀k,(X k).flat=true)(N a v:Nat) :
 Pq 82 [] [2,2,2,2,2,2,2,2,2,0,1,2,0,0,2,1,2,2,2,2,2,2,2] [1,2,8,9,10,11,15] [aU G n none,dD N,aM c,iI (ofNat a),.own 17 i 0 i none,iI (ofNat i),.own 34 v 0 (l i).length none] (Hq u X (di i (eR l)) (dq l i) [.mk v 2 (l i).length (λe=>((l i).getD e be).c) false false none])
  .normal [1,2,8,9,10,11] [aU G n none,dD N,aM c,iI (ofNat a),.own 17 (i+1) 0 (i+1) none,iI (ofNat i)] (Hq u X (di (i+1) (eR l)) (dq l (i+1)) []):=by
 let o:aq:=.mk v 2 (l i).length (λe=>((l i).getD e be).c) false false none
 have P:OO (KG qv):=qC qp (λ_ _ _ _ h=>(by cases h));have q:=qu6 u X (dq l i) i v (l i).length o (eR l) (aU G n none) (dD N) (aM c) (iI (ofNat a)) (iI (ofNat i));refine Pz.post (eD P [] (q.trans (qk au (qk (qO ae) (qk (qO ae) (qF (by rw[ZG ae];simp) rfl)))))) λnt=>?_;have O:∀n,fg n o:=λn=>.inr λe _ c C=>by
  have C:c∈((l i).getD e be).c:=C;rcases wK.1 C with q|q
  .rw[q];rfl
  .rw[wM.1 q];rfl
 have E:∀e,e<i+1->By i (eR l) (.own 34 v 0 (l i).length none) e=(if e=i then [.own 34 v 0 (l i).length none] else eR l e):=λe he=>by
  unfold By;by_cases z:e=i
  .rw[wl z,z,QP (wc _),wW];rfl
  .rw[we z,qL ae,wn];rfl
 refine .trans (h1:=Hq u X (di (i+1) (By i (eR l) (.own 34 v 0 (l i).length none))) (dq l i) [o]) (fA:=[aU G n none,dD N,aM c,iI (ofNat a),.own 17 (i+1) 0 (i+1) none,iI (ofNat i)]) ?_ ?_
 .refine am.DM (n:=35) (p:=Hq u X (di (i+1) (By i (eR l) (.own 34 v 0 (l i).length none))) (dq l i) [o]) (z:=[_]) rfl (wR _) rfl (λx hx=>?_) (λb B=>?_)
  .simp only[wK,xa,or_false] at hx;rcases hx with h|h|h|h|h|h
   all_goals (rw[h];rfl)
  .rw[ZC] at B;rcases wS.1 B with r|r
   .refine Hb (J.mono ae) (λk=>.inl (I k)) (.inr λe he x hx=>?_) (λk=>jY l i k) b r;have hx:x∈By i (eR l) (.own 34 v 0 (l i).length none) e:=hx;rw[E e he] at hx;split at hx
    .rw[wM.1 hx];rfl
    .rw[wM.1 hx];have:e<i+1:=he;exact qL ae
   .rw[wM.1 r];exact O 35
 .refine .trans (am.rF (18+i) 34 (bi:=dq l i i) (bj:=o) ae rfl (wR _) ?_ rfl rfl) ?_
  .cases qW H
   all_goals rfl
  have Z:(dq l i i).aj=0:=by show(bif i.blt i then 1 else 0)=0;rw[QP (wc _)];rfl
  rw[Z];refine .same ?_;have nf:∀b:aq,fg 34 b->∀j,j<b.n->(nD (18+i) 0 34 v b).get j=b.get j:=λb B j g=>by
   unfold nD;cases cA:b.flat with
   |true=>rfl
   |false =>
    rcases B with h|h
    .rw[cA] at h;cases h
    .exact(Xg (h j g)).symm
  have D:∀(b:aq) {h f:qa},fg 34 b->ak h f->ak (nD (18+i) 0 34 v b::h) (b::f):=λb _ _ B s=>by
   obtain⟨Y,W,M,V,U⟩:=Wu (18+i) 0 34 v b;exact .cons ⟨Y.symm,W.symm,M.symm,λh=>by rw[V];exact h,λj g=>(nf b B j (by rw[M] at g;exact g)).symm⟩ s U.symm
  have S:∀{h f:qa},ak h f->ak (nD (18+i) 0 34 v (di (i+1) (By i (eR l) (.own 34 v 0 (l i).length none)))::h) (di (i+1) (eR l)::f):=λs=>by
   refine .cons ⟨rfl,rfl,rfl,λh=>h,λj g=>?_⟩ s rfl;have g:j<i+1:=g;show eR l j=(By i (eR l) (.own 34 v 0 (l i).length none) j).map _;rw[E j g];by_cases z:j=i
   .rw[wl z,z];show _=[bif (34:Nat)==34 then(bif v==v then T.own (18+i) (0+1) 0 (l i).length none else .undef) else .own 34 v 0 (l i).length none];rw[wF,wF];rfl
   .rw[we z];exact Xg λc C=>by rw[wM.1 C];exact qL ae
  have R:∀j,j≠i->∀{h f:qa},ak h f->ak (nD (18+i) 0 34 v (dq l i j)::h) (dq l (i+1) j::f):=λj g _ _ s=>by
   have e:dq l (i+1) j=dq l i j:=by
    unfold dq;by_cases z:j<i
    .rw[qL z,qL ae]
    .rw[QP ae,QP ae]
   rw[e];exact D _ (jY l i j) s
  have Q:∀{h f:qa},ak h f->ak (Bw (18+i) 0 34 v o::h) (dq l (i+1) i::f):=λs=>by
   refine .cons ⟨?_,rfl,?_,λh=>(by cases h),λj g=>?_⟩ s rfl
   .show(bif i.blt (i+1) then 1 else 0)=0+1;rw[qL ae];rfl
   .show(bif i.blt (i+1) then(l i).length else 0)=(l i).length;rw[qL ae];rfl
   .exact(nf o (O 34) j g).symm
  have d:∀(k:Nat) {h f:qa},ak h f->ak (nD (18+i) 0 34 v (X k)::h) (X k::f):=λk _ _ s=>D _ (.inl (I k)) s;show ak (PX (18+i) 0 34 v o (Hq u X (di (i+1) (By i (eR l) (.own 34 v 0 (l i).length none))) (dq l i) [o])) _;cases qW H
  all_goals
   refine D _ J (d 0 (d 1 (d 2 (d 3 (d 4 (d 5 (d 6 (d 7 (d 8 (d 9 (d 10 (d 11 (d 12 (d 13 (d 14 (d 15 (S ?_)))))))))))))))))
   repeat (first|exact .nil|refine Q ?_|refine R _ (by decide) ?_)
end
def mv(a:Nat):Wa:=(List.range 35).map λj=>bif j==1+a then 35 else j
def qu8:∀a,a<16->∀i,i<35->i≠1+a->QU (mv a) i=some i:=by decide
def Xi:∀a,a<16->QU (mv a) (1+a)=none:=by decide
def Xj:∀a,a<16->(mv a).contains (1+a)=false:=by decide
def nJ(a:Nat):T->Bool
 |.own i _ _ _ _=>Nat.blt i 35&&!(i==1+a)
 |x=>zK x
def Q9{a:Nat}(g:a<16){h:qa}{x:T}(hx:nJ a x=true):qJ (mv a) h x=x:=by
 cases x with
 |own i aj e len cap =>
  simp only[nJ,wg,Nat.blt_eq,vn,ud] at hx;simp only[qJ,qu8 a g i hx.1 hx.2]
 |fn f d =>
  have h:d.isEmpty=true:=hx;obtain rfl:d=[]:=xQ.1 h;rfl
 |_=>first|rfl|(simp[nJ,zK] at hx;done)
def L3{a:Nat}(f:a<16){h:qa}{l:JO}(d:∀c∈l,nJ a c=true):l=l.map (qJ (mv a) h):=by
 have:l.map (qJ (mv a) h)=l.map id:=va λc e=>Q9 f (d c e);rw[this,xP]
def nJt(a:Nat):T->Bool
 |.agg l=>l.all (nJ a)
 |.ah l=>l.all (nJ a)
 |.fn _ d=>d.all (nJ a)
 |x=>nJ a x
def qu9{a:Nat}(d:a<16){h:qa}{x:T}(hx:nJt a x=true):mV (mv a) h x=x:=by
 have e:∀y,nJ a y=true->qJ (mv a) h y=y:=λ_=>Q9 d;cases x with
 |agg l=>show T.agg _=_;rw[←L3 d (wA.1 hx)]
 |ah l=>show T.ah _=_;rw[←L3 d (wA.1 hx)]
 |fn f l=>show T.fn f _=_;rw[←L3 d (wA.1 hx)]
 |_=>(simp only[mV];exact e _ hx)
def NJB(a:Nat)(b:aq):Prop:=b.flat=true∨∀j,j<b.n->∀c∈b.get j,nJ a c=true
def qjG{a aj off len:Nat}{cap:Option Nat}(d:a<16)(X:Nat->aq)(i:aq)(g:aq)(f:Nat->aq)(z:qa)(h:(X a).aj≠aj):qJ (mv a) (Hq i X g f z) (.own (1+a) aj off len cap) = .undef:=by
 have j:(Hq i X g f z)[1+a]?=some (X a):=by
  cases qW d
  all_goals rfl
 have e:((X a).aj==aj)=false:=by simpa using h
 simp only[qJ,Xi a d,resolve,j,e,Xj a d,xT,Bool.and_false,wp]
def Xk{x:T}(h:cu 34 x=true):rj 34 1 x=x:=by
 cases x with
 |own m aj d len cap =>
  show(bif m==34 then _ else _)=_;have:m<34:=by simpa [cu] using h
  rw[show(m==34)=false by simp;omega];rfl
 |ptr m aj q o=>rfl
 |mp m aj=>rfl
 |fn f a =>
  have h:a.isEmpty=true:=h;obtain rfl:a=[]:=xQ.1 h;rfl
 |_=>first|rfl|(simp[cu,zK] at h;done)
section
variable {w:bD} {A:Nat->Bool}
def L5(a:Int)(l:List aL):aq:=.mk 2 2 1 (λe=>(([⟨a,l⟩]:List aF).getD e be).c) false false none
def qqu{aa:Wa}{nt:Nat}(a m f:Nat)(J:a<16)(hN:w.sl.length<=16)(haN:a<w.sl.length)(hA:A a=true)(Xl:A (a+1)=false)(M:Int)(I C:List aL)(h1:I.length=m)(h2:C.length=f+1)(l:Nat->List aF)(i:Nat)(hi:i<16)(G:Nat->ao)(n:Nat)(c:List aV)(Z:ao)(mc:Int) :
 am G17 aa nt [1,2,8,9,10,11,12,15] 0 [aU G n none,dD w.sl.length,aM c,iI mc,.own 17 i 0 i none,iI (ofNat i),.ah Z.c,.own 34 2 0 1 none] (Hq (gM w.sl.length (bS w) (gA w A a)) (fX (XP w A a) a (DK m f (λi=>I.getD i bU) (λi=>C.getD i bU))) (di i (eR l)) (dq l i) [Ha 2 M (.own (1+a) 1 0 (m+(f+1)) none) (.own (1+a) 0 0 m none) f (λi=>C.getD i bU)])
  [aU G n none,dD w.sl.length,aM c,iI mc,.own 17 i 0 i none,iI (ofNat i),.ah Z.c,.own 34 2 0 1 none] (Hq (gM w.sl.length (bS w) (gA w A (a+2))) (XP w A (a+2)) (di i (eR l)) (dq l i) [L5 M (I++C)]):=by
 let o:Nat->aq:=fX (XP w A a) a (DK m f (λi=>I.getD i bU) (λi=>C.getD i bU))
 let u:=gM w.sl.length (bS w) (gA w A a)
 let X:=Ha 2 M (.own (1+a) 1 0 (m+(f+1)) none) (.own (1+a) 0 0 m none) f (λi=>C.getD i bU)
 let O:JO:=[aU G n none,dD w.sl.length,aM c,iI mc,.own 17 i 0 i none,iI (ofNat i),.ah Z.c,.own 34 2 0 1 none]
 let D:aq:={ X with n:=1 }
 have Xm:∀k,(o k).flat=true:=λk=>by
  show(bif k==a then _ else _:aq).flat=true;cases k==a<;>rfl
 have Xn:o a=DK m f (λi=>I.getD i bU) (λi=>C.getD i bU):=by show(bif a==a then _ else _:aq)=_;rw[wF];rfl
 refine .trans (h1:=Hq u o (di i (eR l)) (dq l i) [D]) (fA:=O) (.trans (am.shrink 34 1 (bi:=X) (wR _) rfl rfl (by show 1<=2;omega)) (.same ?_)) ?_
 ·have nf:∀b:aq,fg 34 b->∀{h h2:qa},ak h h2->ak (iE 34 1 b::h) (b::h2):=λb Q _ _ g=>by
   obtain⟨S,R,U,e4,Y⟩:=Xa 34 1 b;refine .cons ⟨S.symm,R.symm,U.symm,λh=>by rw[e4];exact h,λj d=>?_⟩ g Y.symm;rw[U] at d;unfold iE;cases E:b.flat with
   |true=>rfl
   |false =>
    rcases Q with h|h
    .rw[E] at h;cases h
    .show b.get j=(b.get j).map _;have:(b.get j).map (rj 34 1)=(b.get j).map id:=va λc P=>Xk (h j d c P);rw[this,xP]
  show ak (iE 34 1 u::iE 34 1 (o 0)::_) _;refine nf u (KC ae) ?_;have r:∀(k:Nat) {h h2:qa},ak h h2->ak (iE 34 1 (o k)::h) (o k::h2):=λk _ _ g=>nf _ (.inl (Xm k)) g;have s:∀(k:Nat) {h h2:qa},ak h h2->ak (iE 34 1 (dq l i k)::h) (dq l i k::h2):=λk _ _ g=>nf _ (jY l i k) g;refine r 0 (r 1 (r 2 (r 3 (r 4 (r 5 (r 6 (r 7 (r 8 (r 9 (r 10 (r 11 (r 12 (r 13 (r 14 (r 15 (nf _ (L0 l ae) (s 0 (s 1 (s 2 (s 3 (s 4 (s 5 (s 6 (s 7 (s 8 (s 9 (s 10 (s 11 (s 12 (s 13 (s 14 (s 15 ?_))))))))))))))))))))))))))))))));refine .cons ⟨rfl,rfl,rfl,λh=>h,λj d=>?_⟩ .nil rfl;obtain rfl:j=0:=vL.1 d;show X.get 0=(X.get 0).map (rj 34 1);show [uI M,T.own (1+a) 1 0 (m+(f+1)) none]=[uI M,rj 34 1 (.own (1+a) 1 0 (m+(f+1)) none)];rw[Xk (show cu 34 (.own (1+a) 1 0 (m+(f+1)) none)=true from qL ae)]
 let B:aq:=.mk 0 2 0 (λ_=>[]) true false none
 refine .trans (h1:=Hq u o (di i (eR l)) (dq l i) [D,B]) (fA:=O) (am.gh [B] (by simp[B]) (.Ue (.Ue (.Ue (.Ue (.Ue (.Ue (.Ue (.Ue .nil)))))))) (cT.refl _)) ?_
 let j2:aq:=.mk 2 2 1 (λe=>[uI M,.view 2 (m+(f+1)) (λe=>(DK m f (λi=>I.getD i bU) (λi=>C.getD i bU)).get (0+e)) none]) false false none
 refine .trans (h1:=Hq (gM w.sl.length (bS w) (gA w A (a+2))) (XP w A (a+2)) (di i (eR l)) (dq l i) [j2]) (fA:=O) ?_ ?_
 ·have hv:O.map (mV (mv a) (Hq u o (di i (eR l)) (dq l i) [D,B]))=O:=by
   have z:∀m,m≠1+a->m<35->(Nat.blt m 35&&!(m==1+a))=true:=λm h1 h2=>by
    rw[qL h2,show(m==1+a)=false by simpa using h1];rfl
   have:O.map (mV (mv a) (Hq u o (di i (eR l)) (dq l i) [D,B]))=O.map id:=va λx hx=>by
    refine qu9 J ?_;simp only[O,wK,xa,or_false] at hx;rcases hx with h|h|h|h|h|h|h|h
    all_goals (rw[h];first|rfl|exact z 17 ae ae|exact z 34 ae ae|skip)
    .show(nJ a (.own 0 _ 0 _ none)&&_)=true;rw[show nJ a (.own 0 w.sl.length 0 w.sl.length none)=true from z 0 ae ae];rfl
   rw[this,xP]
  have nf:∀b N:aq,N.aj=b.aj/\N.sz=b.sz/\N.n=b.n/\N.flat=b.flat/\N.mp=b.mp->(∀h j,j<b.n->b.flat=false->N.get j=(b.get j).map (qJ (mv a) h))->(b.flat=true->∀j,j<b.n->N.get j=b.get j)->∀(H:qa) {h h2:qa},ak h h2->ak (QJ (mv a) H b::h) (N::h2):=λb N e W V H _ _ g=>by
   obtain⟨S,R,U,e4,Y⟩:=e;cases E:b.flat with
   |true =>
    have eb:QJ (mv a) H b=b:=by unfold QJ;rw[E];rfl
    rw[eb];exact .cons ⟨S,R,U,λ_=>E,λj d=>V E j d⟩ g Y
   |false =>
    have eb:QJ (mv a) H b = { b with get:=λj=>(b.get j).map (qJ (mv a) H) }:=by unfold QJ;rw[E];rfl
    rw[eb];exact .cons ⟨S,R,U,(λh=>by rw[e4,E] at h;cases h),λj d=>W H j d E⟩ g Y
  have ns:∀b:aq,NJB a b->∀(H:qa) {h h2:qa},ak h h2->ak (QJ (mv a) H b::h) (b::h2):=λb Q H _ _ g=>nf b b ⟨rfl,rfl,rfl,rfl,rfl⟩ (λh j d E=>by
   rcases Q with q|q
   .rw[q] at E;cases E
   .exact L3 J (q j d)) (λ_ _ _=>rfl) H g
  have s:∀(k:Nat) (H:qa) {h h2:qa},ak h h2->ak (QJ (mv a) H (dq l i k)::h) (dq l i k::h2):=λk H _ _ g=>ns _ (.inr λe _ c P=>by
   have P:c∈((l k).getD e be).c:=P;rcases wK.1 P with q|q
   .rw[q];rfl
   .rw[wM.1 q];rfl) H g
  have ko:∀(H:qa) {h h2:qa},ak h h2->ak (QJ (mv a) H (di i (eR l))::h) (di i (eR l)::h2):=λH _ _ g=>ns _ (.inr λe he c P=>by
   have he:e<i:=he;rw[wM.1 P];show(Nat.blt (18+e) 35&&!(18+e==1+a))=true;rw[qL ae,show(18+e==1+a)=false by simp;omega];rfl) H g
  have xe:∀k,k≠a->XP w A (a+2) k=o k:=λk hk=>by
   show _=(bif k==a then _ else XP w A a k:aq);rw[show(k==a)=false by simpa using hk];show XP w A (a+2) k=XP w A a k;unfold XP;by_cases W:k=a+1
   .rw[W,Xl];rfl
   ·have:k.blt (a+2)=k.blt a:=by
     by_cases V:k<a
     ·rw[qL V,qL ae]
     ·rw[QP ae,QP ae]
    rw[this]
  have r:∀(k:Nat),k≠a->∀(H:qa) {h h2:qa},ak h h2->ak (QJ (mv a) H (o k)::h) (XP w A (a+2) k::h2):=λk hk H _ _ g=>by
   rw[xe k hk];exact ns _ (.inl (Xm k)) H g
  have kg:∀(H:qa) {h h2:qa},ak h h2->ak (QJ (mv a) H B::h) (XP w A (a+2) a::h2):=λH _ _ g=>nf B (XP w A (a+2) a) ⟨rfl,rfl,by
   show(bif A a&&(!a.blt (a+2)&&a.blt w.sl.length) then _ else 0)=0;rw[qL (show a<a+2 by omega)];simp,rfl,rfl⟩ (λ_ j d=>absurd d (vm j)) (λ_ j d=>absurd d (vm j)) H g
  have k0:∀{h h2:qa},ak h h2->ak (QJ (mv a) (Hq u o (di i (eR l)) (dq l i) [D,B]) u::h) (gM w.sl.length (bS w) (gA w A (a+2))::h2):=λg=>by
   show ak ({ u with get:=_ }::_) _;refine .cons ⟨rfl,rfl,rfl,λh=>h,λj d=>?_⟩ g rfl;have d:j<w.sl.length:=d;show [uI (bS w j),gA w A (a+2) j]=[uI (bS w j),qJ (mv a) (Hq u o (di i (eR l)) (dq l i) [D,B]) (gA w A a j)];congr 2;by_cases c:j=a
   .subst c;have S:gA w A j j = .own (1+j) 0 0 (bl w j).l.length none:=by unfold gA;rw[hA,QP (wc _)];rfl
    have R:gA w A (j+2) j = .undef:=by unfold gA;rw[hA,qL ae];rfl
    rw[S,R];exact(qjG J o u _ _ _ (by rw[Xn];show(1:Nat)≠0;omega)).symm
   ·have eg:gA w A (a+2) j=gA w A a j:=by
     unfold gA;by_cases W:j=a+1
     ·rw[W,Xl];rfl
     ·have:j.blt (a+2)=j.blt a:=by
       by_cases V:j<a
       ·rw[qL V,qL ae]
       ·rw[QP ae,QP ae]
      rw[this]
    rw[eg];refine(Q9 J ?_).symm;unfold gA;cases A j with
    |false=>rfl
    |true=>cases j.blt a with
     |true=>rfl
     |false =>
      show(Nat.blt (1+j) 35&&!(1+j==1+a))=true;rw[qL ae,show(1+j==1+a)=false by simp;omega];rfl
  have kj:ak [QJ (mv a) (Hq u o (di i (eR l)) (dq l i) [D,B]) D] [j2]:=by
   refine .cons ⟨rfl,rfl,rfl,λh=>h,λj d=>?_⟩ .nil rfl;obtain rfl:j=0:=vL.1 d;have Q:(Hq u o (di i (eR l)) (dq l i) [D,B])[1+a]?=some (o a):=by
    cases qW J
    all_goals rfl
   show [uI M,_]=[uI M,qJ (mv a) (Hq u o (di i (eR l)) (dq l i) [D,B]) (.own (1+a) 1 0 (m+(f+1)) none)];congr 2;rw[Xn] at Q;simp only[qJ,Xi a J];show _=(bif (mv a).contains (1+a) then T.undef else match (Hq u o (di i (eR l)) (dq l i) [D,B])[1+a]? with
    |some b=>bif b.mp.isNone&&(b.aj==1&&Nat.ble (0+(m+(f+1))) b.n) then .view b.sz (m+(f+1)) (bif b.flat then λj=>b.get (0+j) else λj=>(b.get (0+j)).map (resolve 3 (mv a) (Hq u o (di i (eR l)) (dq l i) [D,B]))) none else .undef
    |none=>.undef)
   rw[Xj a J,Q];show _=bif (true&&((1:Nat)==1&&Nat.ble (0+(m+(f+1))) (m+(f+1)))) then _ else _;rw[qO ae];rfl
  refine am.bZ (mv a) ?_ hv rfl ?_
  .cases qW J
   all_goals rfl
  .cases qW J
   all_goals
    refine k0 ?_
    repeat (first|exact kj|refine kg _ ?_|refine r _ (by decide) _ ?_|refine ko _ ?_|refine s _ _ ?_)
 .rw[ZC _ _ _ _ [j2],ZC _ _ _ _ [L5 M (I++C)]];refine .sl (.Ue (.Ue (.Ue (.Ue (.Ue (.Ue (.Ue (.Ue .nil)))))))) (bk.pre _ (.cons ⟨rfl,rfl,rfl⟩ (λh=>by cases h) (λj d=>?_) (.refl _)));obtain rfl:j=0:=vL.1 d;refine .Ue (.cons ?_ .nil);show fu (.view 2 (m+(f+1)) _ none) (aX (I++C));unfold aX fj;rw[show(I++C).length=m+(f+1) by simp[h1,h2]];refine .view (.inr rfl) λe he=>?_;show eO (bif (0+e).blt m then(I.getD (0+(0+e)) bU).c else(C.getD (0+e-m) bU).c) ((I++C).getD e bU).c;rw[Lu,h1];simp only[wn];by_cases q:e<m
  .rw[wl q,qL q];exact .refl _
  .rw[we q,QP ae];exact .refl _
end
structure pQ(w:bD)(A:Nat->Bool)(sp:ao)(a:Nat):Prop where
 ok:sp.Ok
 v:c9 sp=true
 le:a+sp.nN<=w.sl.length
 e:iY sp (λe=>ofNat (bl w (a+e)).l.length) sp.nN=0
 two:sp.k=4∨sp.k=5->A a=true/\A (a+1)=false
 one:¬(sp.k=4∨sp.k=5)->∀e,e<sp.nN->A (a+e)=false
def ao.n4{s:ao}(h:s.Ok):s.nN<=4/\s.n=ofNat s.nN:=by
 have:=s.nR h;unfold ao.nN;exact⟨ae,bH⟩
def KD(s:ao)(S:List aF)(h:s.nN<=S.length):(fJ s S).length=s.nN:=by unfold fJ;rw[wQ,vB];omega
def yS(w:bD)(s:ao)(a e:Nat)(h:a+s.nN<=w.sl.length)(he:e<s.nN):(fJ s (w.sl.drop a)).getD e be=⟨ze s,(bl w (a+e)).l⟩:=by
 unfold fJ bl;rw[wh,wE,vv he,vA,wj ae];show(⟨ze s,(w.sl[a+e]'ae).l⟩:aF)=_;rw[wh,wj (show a+e<w.sl.length by omega)];rfl
def ao.oV{s:ao}(h:c9 s=true)(d:s.k=4∨s.k=5):s.nN=2:=by
 unfold ao.nN ao.n;rw[h];rcases d with q|q<;>rw[q]<;>rfl
def ao.Aq{s:ao}(h:c9 s=true)(ok:s.Ok)(d:s.k=8):∃A B:Nat,s.a=(A:Int)/\s.b=(B:Int)/\1<=A/\1<=B/\A+B<=4/\s.nN=A+B:=by
 have q:=(s.mW ok).1 h;have e:s.k=8/\1<=s.a/\s.a<=4/\1<=s.b/\s.a+s.b<=4:=by
  rcases q.2.2.2.2 with z|z
  .exact absurd d z.1
  .exact z
 refine⟨s.a.toNat,s.b.toNat,ae,ae,ae,ae,ae,?_⟩;unfold ao.nN ao.n;rw[h,d];show(i64.wrap (s.a+s.b)).toNat=_;rw[Qp ae ae];omega
section
variable {w:bD} {A:Nat->Bool}
def qoC{a m:Nat}(h:∀e,e<m->A (a+e)=false):gA w A (a+m)=gA w A a:=funext λj=>by
 unfold gA;cases f:A j with
 |false=>rfl
 |true =>
  have:j.blt (a+m)=j.blt a:=by
   by_cases c:j<a
   .rw[qL c,qL ae]
   .by_cases d:j<a+m
    .have:=h (j-a) ae;rw[show a+(j-a)=j by omega,f] at this;cases this
    .rw[QP ae,QP ae]
  rw[this]
def qoD{a m:Nat}(h:∀e,e<m->A (a+e)=false):XP w A (a+m)=XP w A a:=funext λj=>by
 unfold XP;cases f:A j with
 |false=>rfl
 |true =>
  have:j.blt (a+m)=j.blt a:=by
   by_cases c:j<a
   .rw[qL c,qL ae]
   .by_cases d:j<a+m
    .have:=h (j-a) ae;rw[show a+(j-a)=j by omega,f] at this;cases this
    .rw[QP ae,QP ae]
  rw[this]
def L6(v:Nat)(l:List aF):aq:=.mk v 2 l.length (λe=>(l.getD e be).c) false false none
section
variable (sp:ao) (a:Nat) (fit:pQ w A sp a) (hN:w.sl.length<=16) (nV:∀j,j<w.sl.length->1<=(bl w j).l.length/\(bl w j).l.length<=3) (l:Nat->List aF) (i:Nat) (hi:i<16) (G:Nat->ao) (n:Nat) (c:List aV)
include fit hN nV hi
def qqv(D:sp.k=4∨sp.k=5) :
 Pq 82 [] [1,2,2,2,2,2,2,2,0,1,2,0,0,2,1,2,2,2,2,2,2,2] [1,2,8,9,10,11,12,15] [aU G n none,dD w.sl.length,aM c,iI (ofNat (a+sp.nN)),.own 17 i 0 i none,iI (ofNat i),.ah sp.c,.own 34 sp.nN 0 sp.nN none] (Hq (gM w.sl.length (bS w) (gA w A a)) (XP w A a) (di i (eR l)) (dq l i) [bW sp.nN sp.nN (gy w A (ze sp) a)])
  .normal [1,2,8,9,10,11,12,15] [aU G n none,dD w.sl.length,aM c,iI (ofNat (a+sp.nN)),.own 17 i 0 i none,iI (ofNat i),.ah sp.c,.own 34 2 0 1 none] (Hq (gM w.sl.length (bS w) (gA w A (a+sp.nN))) (XP w A (a+sp.nN)) (di i (eR l)) (dq l i) [L5 (ze sp) ((bl w a).l++(bl w (a+1)).l)]):=by
 have X:=ao.oV fit.v D;have Y:=fit.le;rw[X] at Y ⊢;obtain⟨E,J⟩:=fit.two D;have Q:OO (KG qv):=qC qp (λ_ _ _ _ h=>(by cases h));have run:=λ{p l z h C B h1 e} (k:cD 82 p l z h C=some (e,B,h1))=>cf [] k;have o:=λ{p l z h C B h1 e} (k:cK (KG qv) 82 p l z h C=some (e,B,h1))=>eD Q [] k
 let d:=(bl w a).l
 let r:=(bl w (a+1)).l
 obtain⟨N,M⟩:=nV a ae;obtain⟨P,O⟩:=nV (a+1) ae;obtain⟨f,H⟩:∃f,r.length=f+1:=⟨r.length-1,by have:1<=r.length:=P;omega⟩
 let g:=ze sp
 let own:T:=.own (1+a) 0 0 d.length none
 let u:Nat->aL:=λi=>d.getD i bU
 let s:Nat->aL:=λi=>r.getD i bU
 let x:=Hq (gM w.sl.length (bS w) (gA w A a)) (XP w A a) (di i (eR l)) (dq l i) [bW 2 2 (gy w A g a)]
 have U:Pq 82 [] [1,1,2,2,2,2,2,2,2,0,1,2,0,0,2,1,2,2,2,2,2,2,2] [1,2,8,9,10,11,12,15] [aU G n none,dD w.sl.length,aM c,iI (ofNat (a+2)),.own 17 i 0 i none,iI (ofNat i),.ah sp.c,.own 34 2 0 2 none] x .normal [1,2,8,9,10,11,12,15,105] [aU G n none,dD w.sl.length,aM c,iI (ofNat (a+2)),.own 17 i 0 i none,iI (ofNat i),.ah sp.c,.own 34 2 0 2 none,.bool true] x:=by
  have q:=WP sp (aU G n none) (dD w.sl.length) (aM c) (iI (ofNat (a+2))) (.own 17 i 0 i none) (iI (ofNat i)) (.own 34 2 0 2 none) x;rcases D with h|h
  .exact run (q.trans (qk (wq h) rfl))
  .exact run (q.trans (qF (hZ ae) (qk (wq h) rfl)))
 have V:XP w A a a=iB d.length u:=by unfold XP;rw[E,QP (wc _),qL ae];rfl
 have S:Pq 82 [] [1,3,2,1,2,2,2,2,2,2,2,0,1,2,0,0,2,1,2,2,2,2,2,2,2] [1,2,8,9,10,11,12,15] [aU G n none,dD w.sl.length,aM c,iI (ofNat (a+2)),.own 17 i 0 i none,iI (ofNat i),.ah sp.c,.own 34 2 0 2 none] x .normal [1,2,8,9,10,11,12,15] [aU G n none,dD w.sl.length,aM c,iI (ofNat (a+2)),.own 17 i 0 i none,iI (ofNat i),.ah sp.c,.own 34 2 0 2 none] (Hq (gM w.sl.length (bS w) (gA w A a)) (fX (XP w A a) a (DK d.length f u s)) (di i (eR l)) (dq l i) [Ha 2 g (.own (1+a) 1 0 (d.length+(f+1)) none) own f s]):=by
  have q:=qu3 a ae (gM w.sl.length (bS w) (gA w A a)) (XP w A a) (di i (eR l)) (dq l i) 2 d.length f u s g (aU G n none) (dD w.sl.length) (aM c) (iI (ofNat (a+2))) (.own 17 i 0 i none) (iI (ofNat i)) (.ah sp.c);rw[Q8 (XP w A a) a V] at q;have N:d.length<=3:=M;have Z:f<=3:=by have:r.length<=3:=O;omega
  have W:d.length=(bl w a).l.length:=rfl;have q:=q.trans (qk rfl (qk rfl (qk rfl (qk rfl (qk rfl (qk rfl (qk (qO (show 0+d.length<=d.length by omega)) (qk (qO (show(d.length+(f+1))*17<=70368744177664 by omega)) (qF (by rw[ZG (show d.length<0+d.length+(f+1) by omega)];simp) (qk rfl (qk rfl (qk rfl rfl))))))))))));refine Pz.pre (λnt=>.same ?_) (o q);show ak (Hq _ _ _ _ [_]) (Hq _ _ _ _ [_]);rw[ZC _ _ _ _ [bW 2 2 _],ZC _ _ _ _ [Xb _ _ _ _ _]];refine ak.pre _ (.cons ⟨rfl,rfl,rfl,λh=>h,λj I=>?_⟩ .nil rfl);have I:j<2:=I;show _=[uI g,gA w A a (a+j)];have c:j=0∨j=1:=by omega
  rcases c with rfl|rfl
  .show [uI g,own]=_;unfold gA;rw[show a+0=a from rfl,E,QP (wc _)];rfl
  .show [uI g,fj s (f+1) none]=_;unfold gA;rw[J];show _=[uI g,aX r];unfold aX;rw[H]
 have R:=Pz.post (o ((qu4 (gM w.sl.length (bS w) (gA w A a)) (fX (XP w A a) a (DK d.length f u s)) (di i (eR l)) (dq l i) 2 (λe=>[uI (bif e==0 then g else g),bif e==0 then .own (1+a) 1 0 (d.length+(f+1)) none else bif e==0 then own else fj s (f+1) none]) (aU G n none) (dD w.sl.length) (aM c) (iI (ofNat (a+2))) (.own 17 i 0 i none) (iI (ofNat i)) (.ah sp.c)).trans (qk rfl rfl)))
  λnt=>qqu (A:=A) a d.length f ae hN ae E J g d r rfl H l i hi G n c sp (ofNat (a+2))
 exact av U (Pz.gE 105 qh rfl (Pz.drop rfl (av S R)))
omit fit hN nV hi in
def qm9(hk:¬(sp.k=4∨sp.k=5))(a1 a2 a8 a9 aQ aP gF:T)(H:qa):Pq 82 [] [1,2,2,2,2,2,2,2,0,1,2,0,0,2,1,2,2,2,2,2,2,2] [1,2,8,9,10,11,12,15] [a1,a2,a8,a9,aQ,aP,.ah sp.c,gF] H .normal [1,2,8,9,10,11,12,15] [a1,a2,a8,a9,aQ,aP,.ah sp.c,gF] H:=by
 have run:=λ{p l vs h l1 v1 h1 e} (k:cD 82 p l vs h l1=some (e,v1,h1))=>cf [] k;exact av (run ((WP sp a1 a2 a8 a9 aQ aP gF H).trans (qF (hZ λh=>hk (.inl h)) (qF (hZ λh=>hk (.inr h)) rfl)))) (Pz.fc 105 qh rfl (run (qrO a1 a2 a8 a9 aQ aP (.ah sp.c) gF (.bool false) H)))
omit fit hN nV hi in
def Xo(hk:sp.k≠8)(a1 a2 a8 a9 aQ aP gF:T)(H:qa):Pq 82 [] [1,2,2,2,2,2,2,2,2,0,1,2,0,0,2,1,2,2,2,2,2,2,2] [1,2,8,9,10,11,12,15] [a1,a2,a8,a9,aQ,aP,.ah sp.c,gF] H .normal [1,2,8,9,10,11,15] [a1,a2,a8,a9,aQ,aP,gF] H:=by
 have run:=λ{p l vs h l1 v1 h1 e} (k:cD 82 p l vs h l1=some (e,v1,h1))=>cf [] k;exact av (run ((WQ sp a1 a2 a8 a9 aQ aP gF H).trans (qF (hZ hk) rfl))) (Pz.fc 122 qh rfl (run (qrP a1 a2 a8 a9 aQ aP (.ah sp.c) gF (.bool false) H)))
def qr9(D:sp.k=8)(Z:c.length<=600000) :
 Pq 82 [] [1,2,2,2,2,2,2,2,2,0,1,2,0,0,2,1,2,2,2,2,2,2,2] [1,2,8,9,10,11,12,15] [aU G n none,dD w.sl.length,aM c,iI (ofNat (a+sp.nN)),.own 17 i 0 i none,iI (ofNat i),.ah sp.c,.own 34 sp.nN 0 sp.nN none] (Hq (gM w.sl.length (bS w) (gA w A a)) (XP w A a) (di i (eR l)) (dq l i) [bW sp.nN sp.nN (gy w A (ze sp) a)])
  .normal [1,2,8,9,10,11,15] [aU G n none,dD w.sl.length,aM (tF sp (fJ sp (w.sl.drop a)) c),iI (ofNat (a+sp.nN)),.own 17 i 0 i none,iI (ofNat i),.own 34 1 0 sp.nN none] (Hq (gM w.sl.length (bS w) (gA w A a)) (XP w A a) (di i (eR l)) (dq l i) [L6 1 (lz sp (fJ sp (w.sl.drop a)))]):=by
 obtain⟨s,u,E,hB,IJ,Xp,U,Q⟩:=ao.Aq fit.v fit.ok D;have bv:=fit.le;have no:=fit.one ae
 let L:=fJ sp (w.sl.drop a)
 have J:L.length=s+u:=by rw[←Q];exact KD sp _ (by rw[vo];omega)
 have P:∀e,e<sp.nN->L.getD e be=⟨ze sp,(bl w (a+e)).l⟩:=λe he=>yS w sp a e bv he;have L4:∀x∈L,x.l.length<=4:=λx hx=>by
  obtain⟨e,he,rfl⟩:=ua.1 hx;have:=P e ae;rw[wh,wj he] at this;rw[show L[e]=_ from this];show(bl w (a+e)).l.length<=4;have:=(nV (a+e) ae).2;omega
 have run:=λ{p l V h Y d h1 e} (k:cD 82 p l V h Y=some (e,d,h1))=>cf [] k;have W:OO (KG qv):=qC qp (λ_ _ _ _ h=>(by cases h))
 let C:=gM w.sl.length (bS w) (gA w A a)
 let X:=XP w A a
 let B:=di i (eR l)
 let H:=Hq C X B (dq l i) []
 let d:T:=aU G n none
 let o:T:=dD w.sl.length
 let g:T:=iI (ofNat (a+sp.nN))
 let r:T:=.own 17 i 0 i none
 let nU:T:=iI (ofNat i)
 have Rb:Pq 82 [] [1,1,2,2,2,2,2,2,2,2,0,1,2,0,0,2,1,2,2,2,2,2,2,2] [1,2,8,9,10,11,12,15] [d,o,aM c,g,r,nU,.ah sp.c,.own 34 sp.nN 0 sp.nN none] (Hq C X B (dq l i) [bW sp.nN sp.nN (gy w A (ze sp) a)]) .normal [1,2,8,9,10,11,12,15,122] [d,o,aM c,g,r,nU,.ah sp.c,bR L none,.bool true] H:=by
  refine Pz.post (run ((WQ sp d o (aM c) g r nU (.own 34 sp.nN 0 sp.nN none) (Hq C X B (dq l i) [bW sp.nN sp.nN (gy w A (ze sp) a)])).trans (qk (wq D) rfl))) λnt=>?_;refine .trans (am.DL (n:=34) (p:=H) (z:=[bW sp.nN sp.nN (gy w A (ze sp) a)]) (aS:=[d,o,aM c,g,r,nU,.ah sp.c,.view 2 sp.nN (λe=>[uI (ze sp),gA w A a (a+(0+e))].map (resolve 3 (List.range 34) (Hq C X B (dq l i) [bW sp.nN sp.nN (gy w A (ze sp) a)]))) none,.bool true]) rfl (wR _) rfl ?_ (Hb (KC ae) (λ_=>Hc) (L0 l ae) (jY l i))) ?_
  .show [d,o,aM c,g,r,nU,.ah sp.c,bif sp.nN==sp.nN&&Nat.ble (0+sp.nN) sp.nN then T.view 2 sp.nN (λe=>[uI (ze sp),gA w A a (a+(0+e))].map (resolve 3 (List.range 34) (Hq C X B (dq l i) [bW sp.nN sp.nN (gy w A (ze sp) a)]))) none else .undef,.bool true]=_;rw[wF,qO ae];rfl
  .refine .sl (.Ue (.Ue (.Ue (.Ue (.Ue (.Ue (.Ue (.cons (.inl ?_) (.Ue .nil))))))))) (.refl _);show fu (.view 2 sp.nN _ none) (.view 2 L.length (λj=>(L.getD j be).c) none);rw[J,←Q];refine .view (.inr rfl) λe he=>?_;show eO [uI (ze sp),resolve 3 _ _ (gA w A a (a+(0+e)))] (L.getD e be).c;rw[P e he,wn];have:gA w A a (a+e)=aX (bl w (a+e)).l:=by unfold gA;rw[no e he];rfl
   rw[this];exact .refl _
 have Rc:=run (quK sp c L d o g r nU H);have I:Pq 82 [] [1,2,3,2,1,2,2,2,2,2,2,2,2,0,1,2,0,0,2,1,2,2,2,2,2,2,2] [1,2,8,9,10,11,12,15,20] [d,o,aM c,g,r,nU,.ah sp.c,bR L none,iI (-1)] H .normal [1,2,8,9,10,11,12,15,20] [d,o,aM c,g,r,nU,.ah sp.c,bR L none,iI (DH sp.f)] H:=by
  have q:=quL sp c L d o g r nU H (-1);cases O:sp.f with
  |true=>exact av (run (q.trans (qk O rfl))) (Pz.gE 124 qh rfl (Pz.drop rfl (run (quM sp c L d o g r nU H))))
  |false=>exact av (run (q.trans (qF (by rw[O];simp) rfl))) (Pz.fc 124 qh rfl (run (qr0 sp c L d o g r nU H (-1) (.bool false))))
 have S:=qu2 sp L d o g r nU H [] (DH sp.f) s u E hB J U L4 c Z;have ec:tF sp L c=ER c (L.take s) (L.drop s) (DH sp.f):=by unfold tF;rw[wl D,E];rfl
 rw[←ec] at S;have R:lz sp L=L.drop s++L.take s:=by unfold lz;rw[we ae,wl D,E];rfl
 have GC:Pq 82 [] [2,2,2,3,2,1,2,2,2,2,2,2,2,2,0,1,2,0,0,2,1,2,2,2,2,2,2,2] [1,2,8,9,10,11,12,15] [d,o,aM (tF sp L c),g,r,nU,.ah sp.c,bR L none] H .normal [1,2,8,9,10,11,15] [d,o,aM (tF sp L c),g,r,nU,.own 34 1 0 sp.nN none] (Hq C X B (dq l i) [L6 1 (lz sp L)]):=by
  have M:sp=ao.mk 8 sp.y (ofNat s) (ofNat u) sp.f:=by
   cases sp;simp only[ao.mk.injEq];exact⟨D,trivial,E,hB,trivial⟩
  have q:=qu5 C X B (dq l i) sp.y sp.f s u IJ Xp U L J d o (aM (tF sp L c)) g r nU;rw[←M] at q;rw[show sp.nN=0+u+s by omega];refine Pz.post (eD W [] q) λnt=>.same ?_;rw[ZC C X B (dq l i) [.mk 1 2 _ _ _ _ _],ZC C X B (dq l i) [L6 _ _]];have Oj:(lz sp L).length=0+u+s:=by rw[R,wD,vo,vB];omega
  refine ak.pre _ (.cons ⟨rfl,rfl,Oj,λh=>h,λj N=>?_⟩ .nil rfl);have N:j<0+u+s:=N;show((lz sp L).getD j be).c=bif j.blt (0+u) then(L.getD (s+(0+j)) be).c else(L.getD (0+(j-(0+u))) be).c;rw[R,Lu,vo,show L.length-s=u by omega];by_cases q:j<u
  .rw[wl q,qL ae,wm,wn,wh,wh,vA]
  .rw[we q,QP ae,wp,wn,wn,wh,wh,vv ae]
 exact av Rb (Pz.gE 122 qh rfl (Pz.drop rfl (av Rc (av I (av S GC)))))
end
end
section
variable {w:bD} {A:Nat->Bool} {G:Nat->ao}
def qna(P:w.sl.length<=16)(O:∀j,j<w.sl.length->1<=(bl w j).l.length/\(bl w j).l.length<=3)(i n:Nat)(I:i<16)(fit:pQ w A (G i) (dA G i))(V:(ia w G i).length<=600000) :
 ∃v,Pq 82 [] [2,2,2,2,2,2,0,1,2,0,0,2,1,2,2,2,2,2,2,2] [1,2,8,9,10,11,12,14,15] [aU G n none,dD w.sl.length,aM (ia w G i),iI (ofNat (dA G i+(G i).nN)),.own 17 i 0 i none,iI (ofNat i),.ah (G i).c,br (λe=>ofNat (bl w (dA G i+e)).l.length) (G i).nN none,.own 34 (G i).nN 0 (G i).nN none] (Hq (gM w.sl.length (bS w) (gA w A (dA G i))) (XP w A (dA G i)) (di i (eR (cP w G))) (dq (cP w G) i) [bW (G i).nN (G i).nN (gy w A (ze (G i)) (dA G i))])
  .normal [1,2,8,9,10,11] [aU G n none,dD w.sl.length,aM (ia w G (i+1)),iI (ofNat (dA G (i+1))),.own 17 (i+1) 0 (i+1) none,iI (ofNat i)] (Hq (gM w.sl.length (bS w) (gA w A (dA G (i+1)))) (XP w A (dA G (i+1))) (di (i+1) (eR (cP w G))) (dq (cP w G) (i+1)) [])/\v=0:=by
 let d:=G i
 let a:=dA G i
 obtain⟨n4,Z⟩:=ao.n4 fit.ok;have N:a+d.nN<=w.sl.length:=fit.le;have lay:=λ(v:Nat)=>qr7 G n (cP w G) i I (ia w G (i+1)) (gM w.sl.length (bS w) (gA w A (a+d.nN))) (XP w A (a+d.nN)) (KC ae) (λ_=>rfl) w.sl.length (a+d.nN) v;have ld:=qqt (w:=w) a d.nN d fit.ok n4 rfl fit.e (aU G n none) (dD w.sl.length) (aM (ia w G i)) (iI (ofNat (a+d.nN))) (.own 17 i 0 i none) (iI (ofNat i)) (.own 34 d.nN 0 d.nN none) (Hq (gM w.sl.length (bS w) (gA w A a)) (XP w A a) (di i (eR (cP w G))) (dq (cP w G) i) [bW d.nN d.nN (gy w A (ze d) a)]);have Q:cP w G i=lz d (fJ d (w.sl.drop a)):=rfl;have eC:ia w G (i+1)=tF d (fJ d (w.sl.drop a)) (ia w G i):=rfl;have H:(fJ d (w.sl.drop a)).length=d.nN:=KD d _ (by rw[vo];omega);refine⟨0,?_,rfl⟩;by_cases o:d.k=4∨d.k=5
 ·have x:=qqv d a fit P O (cP w G) i I G n (ia w G i) o;have D:=Xo d ae (aU G n none) (dD w.sl.length) (aM (ia w G i)) (iI (ofNat (a+d.nN))) (.own 17 i 0 i none) (iI (ofNat i)) (.own 34 2 0 1 none) (Hq (gM w.sl.length (bS w) (gA w A (a+d.nN))) (XP w A (a+d.nN)) (di i (eR (cP w G))) (dq (cP w G) i) [L5 (ze d) ((bl w a).l++(bl w (a+1)).l)]);have M:d.nN=2:=ao.oV fit.v o;have g0:=yS w d a 0 N (by rw[M];omega);have g1:=yS w d a 1 N (by rw[M];omega);have U:(fJ d (w.sl.drop a)).length=2:=H.trans M;have B:cP w G i=[⟨ze d,(bl w a).l++(bl w (a+1)).l⟩]:=by
   rw[Q]
   match hT:fJ d (w.sl.drop a),U with
   |[S,R],_ =>
    rw[hT] at g0 g1;have g0:S=⟨ze d,(bl w a).l⟩:=g0;have g1:R=⟨ze d,(bl w (a+1)).l⟩:=g1;unfold lz;rw[wl o,g0,g1];simp
  have s:ia w G (i+1)=ia w G i:=by rw[eC];unfold tF;rw[we ae]
  have g:=lay 2;rw[B,s] at g;rw[s];exact av ld (av x (av D g))
 .have no:=fit.one o;have x:=qm9 d o (aU G n none) (dD w.sl.length) (aM (ia w G i)) (iI (ofNat (a+d.nN))) (.own 17 i 0 i none) (iI (ofNat i)) (.own 34 d.nN 0 d.nN none) (Hq (gM w.sl.length (bS w) (gA w A a)) (XP w A a) (di i (eR (cP w G))) (dq (cP w G) i) [bW d.nN d.nN (gy w A (ze d) a)]);have z:=qoC (w:=w) (A:=A) (a:=a) (m:=d.nN) no;have u:=qoD (w:=w) (A:=A) (a:=a) (m:=d.nN) no;by_cases r:d.k=8
  ·have E:=qr9 d a fit P O (cP w G) i I G n (ia w G i) r V;have f:(lz d (fJ d (w.sl.drop a))).length=d.nN:=by
    unfold lz;rw[we o,wl r,wD,vo,vB,H];obtain⟨Na,Nb,W,hB,IJ,Xp,Ra,J⟩:=ao.Aq fit.v fit.ok r;rw[W,J];simp only[Int.toNat_natCast];omega
   have g:=lay 1;rw[show(cP w G i).length=d.nN from f,z,u] at g;show Pz _ _ _ _ _ _ _ _ _ _ _ [_,_,_,iI (ofNat (a+d.nN)),_,_] (Hq (gM w.sl.length (bS w) (gA w A (a+d.nN))) (XP w A (a+d.nN)) _ _ _);rw[z,u];unfold L6 at E;rw[f] at E;exact av ld (av x (av E g))
  .have D:=Xo d r (aU G n none) (dD w.sl.length) (aM (ia w G i)) (iI (ofNat (a+d.nN))) (.own 17 i 0 i none) (iI (ofNat i)) (.own 34 d.nN 0 d.nN none) (Hq (gM w.sl.length (bS w) (gA w A a)) (XP w A a) (di i (eR (cP w G))) (dq (cP w G) i) [bW d.nN d.nN (gy w A (ze d) a)]);have B:cP w G i=fJ d (w.sl.drop a):=by rw[Q];unfold lz;rw[we o,we r]
   have s:ia w G (i+1)=ia w G i:=by rw[eC];unfold tF;rw[we r]
   have f:(cP w G i).length=d.nN:=by rw[B];exact H
   have g:=lay d.nN;rw[f,z,u,s] at g;show Pz _ _ _ _ _ _ _ _ _ _ _ [_,_,_,iI (ofNat (a+d.nN)),_,_] (Hq (gM w.sl.length (bS w) (gA w A (a+d.nN))) (XP w A (a+d.nN)) _ _ _);rw[z,u,s];have C:=Pz.post D (v2:=_) (h2:=Hq (gM w.sl.length (bS w) (gA w A a)) (XP w A a) (di i (eR (cP w G))) (dq (cP w G) i) [.mk d.nN 2 d.nN (λe=>((cP w G i).getD e be).c) false false none]) λnt=>.same (by
    rw[ZC _ _ _ _ [bW _ _ _],ZC _ _ _ _ [aq.mk _ _ _ _ _ _ _]];refine ak.pre _ (.cons ⟨rfl,rfl,rfl,λh=>h,λj f=>?_⟩ .nil rfl);have f:j<d.nN:=f;show((cP w G i).getD j be).c=[uI (ze d),gA w A a (a+j)];rw[B,yS w d a j N f];unfold gA;rw[no j f];rfl)
   exact av ld (av x (av C g))
def qqw(D:w.sl.length<=16)(I:∀j,j<w.sl.length->1<=(bl w j).l.length/\(bl w j).l.length<=3)(i n:Nat)(J:i<n)(hn:n<=16)(fit:pQ w A (G i) (dA G i))(Z:(ia w G i).length<=600000) :
 Pq 82 [] [0,0,2,1,2,2,2,2,2,2,2] [1,2,8,9,10,11] [aU G n none,dD w.sl.length,aM (ia w G i),iI (ofNat (dA G i)),.own 17 i 0 i none,iI (ofNat i)] (Hq (gM w.sl.length (bS w) (gA w A (dA G i))) (XP w A (dA G i)) (di i (eR (cP w G))) (dq (cP w G) i) [])
  .normal [1,2,8,9,10,11] [aU G n none,dD w.sl.length,aM (ia w G (i+1)),iI (ofNat (dA G (i+1))),.own 17 (i+1) 0 (i+1) none,iI (ofNat (i+1))] (Hq (gM w.sl.length (bS w) (gA w A (dA G (i+1)))) (XP w A (dA G (i+1))) (di (i+1) (eR (cP w G))) (dq (cP w G) (i+1)) []):=by
 have run:=λ{p l Q h W o h1 e} (k:cD 82 p l Q h W=some (e,o,h1))=>cf [] k;obtain⟨GC,P⟩:=qE aw G17 64
 let d:=G i
 let a:=dA G i
 let m:=d.nN
 obtain⟨n4,en⟩:=ao.n4 fit.ok;have N:a+m<=w.sl.length:=fit.le
 let E:=gM w.sl.length (bS w) (gA w A a)
 let X:=XP w A a
 let x:=di i (eR (cP w G))
 let f:=dq (cP w G) i
 let H:=Hq E X x f []
 let o:T:=aU G n none
 let g:T:=dD w.sl.length
 let r:T:=aM (ia w G i)
 let u:T:=iI (ofNat a)
 let s:T:=.own 17 i 0 i none
 let nU:T:=iI (ofNat i)
 have V:=run ((prc G n i g r u s H).trans (qk (CL J) rfl));have C:=run ((quA G n i g r u s H).trans (qk (uP J) rfl));have z:TO 64 [d.t] (iI (ofNat m)):=by
  have:=jR d fit.ok;rw[show d.n=ofNat m from en] at this;exact this
 have Hh:=eD (qr qp (qq P)) [] ((quB GC d (ofNat m) o g r u s nU H).trans (qk (qu P z) rfl));have B:=run (quC o g r u s nU (.ah d.c) (iI (ofNat m)) H);have Rd:=Pz.post (run (quD o g r u s nU (.ah d.c) (iI (ofNat m)) .ag H)) (v2:=[o,g,r,u,s,nU,.ah d.c,iI (ofNat m),.own 35 0 0 0 none,.own 34 0 0 0 none]) (h2:=Hq E X x f [bW 0 0 (gy w A (ze d) a),me 0 0 (lQ w a)]) λnt=>by
  refine am.gh [bW 0 0 (gy w A (ze d) a),me 0 0 (lQ w a)] (λb M=>?_) (.Ue (.Ue (.Ue (.Ue (.Ue (.Ue (.Ue (.Ue (.cons (.inl (.own (k:=35) (b:=me 0 0 (lQ w a)) (by show 34<=35;omega) rfl rfl)) (.cons (.inl (.own (k:=34) (b:=bW 0 0 (gy w A (ze d) a)) (wc _) rfl rfl)) .nil)))))))))) (cT.refl _);simp only[wK,xa,or_false] at M;rcases M with h|h<;>rw[h]<;>exact⟨rfl,rfl⟩
 have Hi:=run (quE o g r s nU (.ah d.c) (iI (ofNat m)) (.own 35 0 0 0 none) (.own 34 0 0 0 none) (ofNat a) (Hq E X x f [bW 0 0 (gy w A (ze d) a),me 0 0 (lQ w a)]));have R:=qqq (A:=A) a m D N n4 d (λj Y=>by have:=(I j Y).2;omega) x f (L0 _ ae) (jY _ _) o r s nU rfl rfl rfl rfl;have U:=qqs (A:=A) a m D N n4 d fit.ok rfl fit.e x f (L0 _ ae) (jY _ _) i ae G n (ia w G i) (ze d);obtain⟨_,S,_⟩:=qna D I i n ae fit Z;have O:=run (quI o g (aM (ia w G (i+1))) (iI (ofNat (dA G (i+1)))) (.own 17 (i+1) 0 (i+1) none) i (Hq (gM w.sl.length (bS w) (gA w A (dA G (i+1)))) (XP w A (dA G (i+1))) (di (i+1) (eR (cP w G))) (dq (cP w G) (i+1)) []));rw[il ae] at O;exact av V (av (fi 1 (av C (av Hh (av B (av Rd (av (av Hi (fi 2 R)) (av U S))))))) O)
end
end Go.Ab
