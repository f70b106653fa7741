/- A part of the proof: nothing is assumed. -/
import Derived.Test.YteoamlekamflbaaP16
import Derived.Test.YteoamlekamflbaaP17
set_option linter.all false
namespace Go.Ab
open IntKind(i64 u8)
open Int(ofNat)
open Go.Proofs
theorem qnw:ToldOk P18 G18 7 [.agg [.nils]] (.bool true):=by
 have w:∀{f:Nat} {a:List T} {r:T},QU P18 G18 A18 (qcU P18 G18 A18 (fun f=>!([33,12].contains f)) (fun _=>false) 40 10) 40 f a=some r->ToldOk P18 G18 f a r:=fun h=>qP qv q9 (qhR qv q9 40 10) h;have t22:ToldOk P18 G18 22 [.agg [.nils]] (.tup [.nils,iI 1]):=w (by kernel_rfl);have t23:ToldOk P18 G18 23 [.agg [.nils]] (.tup [.nils,iI 1]):=w (by kernel_rfl);exact qP qv q9 (qgf (l:=[(22,[.agg [.nils]],.tup [.nils,iI 1]),(23,[.agg [.nils]],.tup [.nils,iI 1]),(12,[],.bool true)]) ⟨t22,t23,Yf,trivial⟩ qf) (K:=KL 3 [(22,[.agg [.nils]],.tup [.nils,iI 1]),(23,[.agg [.nils]],.tup [.nils,iI 1]),(12,[],.bool true)] qk) (A:=A18) (m:=4) (by kernel_rfl)
def qph:List Bool:=[true,false,false,false,false,true,true,true,true,true,false,true,false,false,true,true]
def wdX(i j:Nat):Bool:=if i=1 then false else qph.getD j false
def gK3(i j:Nat):Int:=(j:Int)+1
def gK1(i j:Nat):Int:=1
def qj9(i:Nat):Nat:=if i=1 then 2 else 1
def D0:IR:=⟨0,0,fun _=>0,fun _ _=>0⟩
noncomputable def mm9:qhk:=[(5,[lvw (fun _=>wdX 0) 1,uu 1],.bool true),(5,[lvw wdX 3,uu 3],.bool true),(26,[pgV gK1 (fun _=>0) 0 (fun _=>none) none,ii 1],.bool true),(26,[pgV gK3 (fun _=>3) 1 (fun _=>none) none,ii 1],.bool true),(26,[pgV gK1 qj9 3 (fun _=>none) none,ii 1],.bool true),(7,[.agg [.nils]],.bool true),(6,[.agg [uu 0,.view 1 0 (fun _=>[]) none],.str [49,50,51,10]],.bool true),(6,[.agg [uu 0,.view 1 0 (fun _=>[]) none],.str [49,10,49]],.bool true),(12,[],.bool true)]
theorem qlZ:qfa P18 G18 mm9:=by
 have hD:D0.Ok:=⟨by decide,fun _ _=>⟨Int.le_refl 0,(by decide:(0:Int)<256)⟩⟩;refine⟨qmJ _ 1 1 (by omega),qmJ _ 3 3 (by omega),qhg gK1 _ 0 _ _ 1 (by omega) (fun i hi=>by omega) (fun i hi=>by omega) (by decide),qhg gK3 (fun _=>3) 1 _ _ 1 (by omega) (fun i hi=>by omega) (fun i hi j hj=>by have hj:j<3:=hj;unfold gK3;omega) (by decide),qhg gK1 qj9 3 _ _ 1 (by omega) (fun i hi=>by unfold qj9;split<;>omega) (fun i hi j hj=>by unfold gK1;omega) (by decide),qnw,
  ToldOk.sim (qlY D0 hD _) (.cons (.agg (.cons (.refl _) (.cons (.view (.inl rfl) fun j hj=>by omega) .nil))) (.cons (.refl _) .nil)),ToldOk.sim (qlY D0 hD _) (.cons (.agg (.cons (.refl _) (.cons (.view (.inl rfl) fun j hj=>by omega) .nil))) (.cons (.refl _) .nil)),Yf,trivial⟩
def qnx:Option (Ex×List T×qg)->Bool
 |some (.ret,[.bool true],_)=>true
 |_=>false
theorem qka{o:Option (Ex×List T×qg)}(h:qnx o=true):∃h',o=some (.ret,[.bool true],h'):=by
 unfold qnx at h;split at h
 ·exact⟨_,rfl⟩
 ·cases h
theorem qpi:∃h',qy P18 G18 A18 (KL 4 mm9 qk) 0 9 [] (nav [2,2,2,2]) [8] [.reg [.bool true,.bool false,.bool false,.bool false,.bool false,.bool true,.bool true,.bool true,.bool true,.bool true,.bool false,.bool true,.bool false,.bool false,.bool true,.bool true]] [] [0]=some (.ret,[.bool true],h'):=qka (by kernel_rfl)
theorem qpj(k n wd:Int)(i a:Nat)(R:Nat->Nat->Int)(ln:Nat->Nat)(hk:0<=k/\k<=100003)(g0:Nat->Int)(hg0:∀j,0<=g0 j/\g0 j<256) :
 ∃k' g,(0<=k'/\k'<=100003)/\(∀j,0<=g j/\g j<256)/\Pz P18 G18 A18 9 [] [0,2,1,2,0,1,2,0,0,2,1,2,0,1,2,0,0,2,1,2,2] [1,2,3,4,5,6] [iI k,iI n,lRg wd i i,iI a,.own 1 0 0 0 none,iI (0:Nat)] [pcB i i R ln (fun _=>none),ub 0 0 g0] (.exit 4) [1,2,3,4,5,6] [iI k',iI n,lRg wd i i,iI a,.own 1 10 0 10 none,iI (10:Nat)] [pcB i i R ln (fun _=>none),ub 10 10 g]:=by
 obtain⟨e',vs',h',⟨k',g,hk',hg',rfl,rfl,rfl⟩,q⟩:=Pz.loop (P:=P18) (G:=G18) (A:=A18) (f:=9) (h0:=[]) (p:=[0,2,1,2,0,1,2,0,0,2,1,2,0,1,2,0,0,2,1,2,2]) (l:=[1,2,3,4,5,6]) (l1:=[1,2,3,4,5,6]) (by kernel_rfl)
  (fun m vs h=>∃k j g,(0<=k/\k<=100003)/\(∀j,0<=g j/\g j<256)/\j<=10/\m=10-j/\vs=[iI k,iI n,lRg wd i i,iI a,.own 1 j 0 j none,iI (j:Nat)]/\h=[pcB i i R ln (fun _=>none),ub j j g])
  (fun e' vs' h'=>∃k' g,(0<=k'/\k'<=100003)/\(∀j,0<=g j/\g j<256)/\e' = .exit 4/\vs'=[iI k',iI n,lRg wd i i,iI a,.own 1 10 0 10 none,iI (10:Nat)]/\h'=[pcB i i R ln (fun _=>none),ub 10 10 g]) (fun m vs h hI=>by
  obtain⟨k,j,g,hk,hg,hj,rfl,rfl,rfl⟩:=hI;have q:=qpa k n wd i i i a j j g R ln (fun _=>none);rcases Nat.lt_or_ge j 10 with c|c
  ·have e1:i64.wrap (k*31)=k*31:=qI (by omega) (by omega);have e2:i64.wrap (7*ofNat j)=7*(j:Int):=qI (by simp only[Int.ofNat_eq_natCast];omega) (by simp only[Int.ofNat_eq_natCast];omega);have e3:i64.wrap (k*31+7*(j:Int))=k*31+7*(j:Int):=qI (by omega) (by omega);have e4:i64.wrap (k*31+7*(j:Int)+11)=k*31+7*(j:Int)+11:=qI (by omega) (by omega);have hw:=qj0 k;rw[e1,e2,e3,e4,up1 (by omega),hw] at q;have q2:=q.trans (qm (by simp;omega) (qm (by simp) (qm (QZ (by omega)) (qm (QZ (by omega)) (qZ (by rw[qa2 (by omega)];simp) rfl)))));refine .inl ⟨10-(j+1),[iI ((k*31+7*(j:Int)+11).tmod 100003),iI n,lRg wd i i,iI a,.own 1 (j+1) 0 (j+1) none,iI ((j+1:Nat):Int)],[pcB i i R ln (fun _=>none),ub (j+1) (j+1) (fun e=>if e<j then g e else k%256)],by omega,?_,_,j+1,(fun e=>if e<j then g e else k%256),?_,?_,by omega,rfl,rfl,rfl⟩
   ·refine Pz.post (Pz.run qv qf (m:=0) (by kernel_rfl) qh q2) fun nt=>.canonS [0,1] rfl rfl rfl (.cons ⟨rfl,rfl,rfl,id,fun e he=>?_⟩ (.cons ⟨rfl,rfl,rfl,id,fun e he=>?_⟩ .nil))
    ·rfl
    ·have he:e<j+1:=he;show [uI (if e<j then g e else k%256)]=bif Nat.blt e j then [uI (g (0+e))] else [[uI (k%256)]].getD (0+(e-j)) [];by_cases c2:e<j
     ·rw[if_pos c2,Qy c2,cond_true,Nat.zero_add]
     ·obtain rfl:e=j:=by omega
      rw[if_neg c2,Zg (by omega),cond_false,Nat.sub_self];rfl
   ·rw[Int.tmod_eq_emod_of_nonneg (by omega)];omega
   ·intro e;dsimp only;split
    ·exact hg e
    ·omega
  ·obtain rfl:j=10:=by omega
   exact .inr ⟨.exit 4,_,_,by simp,Pz.run qv qf (m:=0) (by kernel_rfl) qh (q.trans (qZ (by simp) rfl)),k,g,hk,hg,rfl,rfl,rfl⟩) (n:=10-0) ⟨k,0,g0,hk,hg0,by omega,rfl,rfl,rfl⟩
 exact⟨k',g,hk',hg',q⟩
def xR(i:Nat)(R:Nat->Nat->Int)(g:Nat->Int)(j:Nat):Nat->Int:=if j<i then R j else g
def xL(i:Nat)(ln:Nat->Nat)(j:Nat):Nat:=if j<i then ln j else 10
theorem qny(k n wd:Int)(hk:0<=k/\k<=100003)(hn:0<=n/\n<=12)(R0:Nat->Nat->Int)(ln0:Nat->Nat)(hR0:∀i j,0<=R0 i j/\R0 i j<256) :
 ∃k' i R ln,(0<=k'/\k'<=100003)/\(∀i j,0<=R i j/\R i j<256)/\Pz P18 G18 A18 9 [] [0,2,1,2,0,1,2,0,0,2,1,2,2] [1,2,3,4] [iI k,iI n,lRg wd 0 0,iI (0:Nat)] [pcB 0 0 R0 ln0 (fun _=>none)] (.exit 2) [1,2,3,4] [iI k',iI n,lRg wd i i,iI (i:Nat)] [pcB i i R ln (fun _=>none)]:=by
 obtain⟨e',vs',h',⟨k',i,R,ln,hk',hR',rfl,rfl,rfl⟩,q⟩:=Pz.loop (P:=P18) (G:=G18) (A:=A18) (f:=9) (h0:=[]) (p:=[0,2,1,2,0,1,2,0,0,2,1,2,2]) (l:=[1,2,3,4]) (l1:=[1,2,3,4]) (by kernel_rfl)
  (fun m vs h=>∃k i R ln,(0<=k/\k<=100003)/\(∀i j,0<=R i j/\R i j<256)/\i<=4/\m=4-i/\vs=[iI k,iI n,lRg wd i i,iI (i:Nat)]/\h=[pcB i i R ln (fun _=>none)])
  (fun e' vs' h'=>∃k i R ln,(0<=k/\k<=100003)/\(∀i j,0<=R i j/\R i j<256)/\e' = .exit 2/\vs'=[iI k,iI n,lRg wd i i,iI (i:Nat)]/\h'=[pcB i i R ln (fun _=>none)]) (fun m vs h hI=>by
  obtain⟨k,i,R,ln,hk,hR,hi,rfl,rfl,rfl⟩:=hI;have et:n.tmod 4=n%4:=Int.tmod_eq_emod_of_nonneg hn.1;have q:=qo7 k n wd i i i i R ln (fun _=>none);rw[et] at q;by_cases c:(i:Int)<n%4
  ·obtain⟨k',g,hk',hg,pr⟩:=qpj k n wd i i R ln hk (fun _=>0) (fun _=>⟨Int.le_refl 0,(by decide:(0:Int)<256)⟩);have pG:=Pz.run qv qf (m:=0) (p:=[1,0,0,2,1,2,0,1,2,0,0,2,1,2,2]) (A:=A18) (f:=9) (h0:=[]) (by kernel_rfl) qh (q.trans (qm (by simpa using c) rfl));have pH:Pz P18 G18 A18 9 [] [1,0,1,2,0,0,2,1,2,0,1,2,0,0,2,1,2,2] [1,2,3,4] [iI k,iI n,lRg wd i i,iI (i:Nat)] [pcB i i R ln (fun _=>none)] .normal [1,2,3,4,5] [iI k,iI n,lRg wd i i,iI (i:Nat),.own 1 0 0 0 none] [pcB i i R ln (fun _=>none),ub 0 0 (fun _=>0)] :=
    Pz.post (Pz.run qv qf (m:=0) (by kernel_rfl) qh (qo8 k n wd i i i i R ln (fun _=>none))) fun nt=>.gh [ub 0 0 (fun _=>0)] (fun b hb=>by simp at hb;subst hb;exact⟨rfl,rfl⟩) (.cons (.refl _) (.cons (.refl _) (.cons (.refl _) (.cons (.refl _) (.cons (.inl (.own (b:=ub 0 0 (fun _=>0)) (Nat.le_refl 1) rfl rfl)) .nil))))) (.refl _)
   have pI:=Pz.run qv qf (m:=0) (p:=[1,1,2,0,1,2,0,0,2,1,2,0,1,2,0,0,2,1,2,2]) (A:=A18) (f:=9) (h0:=[]) (by kernel_rfl) qh (qo9 k n wd i i i i 0 (fun _=>0) R ln (fun _=>none));have n1:ren [0] [pcB i i R ln (fun _=>none),ub 10 10 g] (.own 1 10 0 10 none) = .view 1 10 (fun j=>[uI (g (0+j))]) none:=rfl;have pB4:Pz P18 G18 A18 9 [] [2,1,2,0,1,2,0,0,2,1,2,0,1,2,0,0,2,1,2,2] [1,2,3,4,5,6] [iI k,iI n,lRg wd i i,iI (i:Nat),.own 1 0 0 0 none,iI (0:Nat)] [pcB i i R ln (fun _=>none),ub 0 0 (fun _=>0)] .normal [1,2,3,4,5] [iI k',iI n,lRg wd i i,iI (i:Nat),.view 1 10 (fun j=>[uI (g (0+j))]) none] [pcB i i R ln (fun _=>none)] :=
    Pz.blk (id:=4) (e:=.exit 4) (by kernel_rfl) rfl (Pz.post (Pz.only pr (l2:=[1,2,3,4,5]) rfl) fun nt=>.canonS [0] rfl rfl rfl (.cons ⟨rfl,rfl,rfl,id,fun _ _=>rfl⟩ .nil))
   have k15:=(qpb k' n wd i i i i 10 (fun j=>g (0+j)) R ln (fun _=>none)).trans (qm (by simp) (qm (QZ (by omega)) (qm (QZ (by omega)) (qZ (by rw[qa2 (by omega)];simp) rfl))));have pK:Pz P18 G18 A18 9 [] [2,2,0,1,2,0,0,2,1,2,0,1,2,0,0,2,1,2,2] [1,2,3,4,5] [iI k',iI n,lRg wd i i,iI (i:Nat),.view 1 10 (fun j=>[uI (g (0+j))]) none] [pcB i i R ln (fun _=>none)] .normal [1,2,3,4] [iI k',iI n,lRg wd (i+1) (i+1),iI (i:Nat)] [pcB (i+1) (i+1) (xR i R (fun j=>g (0+j))) (xL i ln) (fun _=>none)] :=
    Pz.post (Pz.run qv qf (m:=0) (by kernel_rfl) qh k15) fun nt=>.canonS [0] rfl rfl rfl (.cons ⟨rfl,rfl,rfl,id,fun j hj=>by
     have hj:j<i+1:=hj;show pcG (xR i R (fun j=>g (0+j))) (xL i ln) (fun _=>none) j=List.map (QN [0] _) (bif Nat.blt j i then pcG R ln (fun _=>none) (0+j) else [[qB (fun j=>g (0+j)) 10 none]].getD (0+(j-i)) []);unfold pcG xR xL;by_cases c2:j<i
     ·rw[Qy c2,cond_true,Nat.zero_add,if_pos c2,if_pos c2];rfl
     ·obtain rfl:j=i:=by omega
      rw[Zg (Nat.le_refl _),cond_false,Nat.sub_self,if_neg c2,if_neg c2];rfl⟩ .nil)
   have kl:=qpc k' n wd (i+1) (i+1) (i+1) i (xR i R (fun j=>g (0+j))) (xL i ln) (fun _=>none);rw[up1 (by omega)] at kl;have pL:=Pz.run qv qf (m:=0) (p:=[2,2,0,0,2,1,2,0,1,2,0,0,2,1,2,2]) (A:=A18) (f:=9) (h0:=[]) (by kernel_rfl) qh kl;refine .inl ⟨4-(i+1),_,_,by omega,Pz.seq (by kernel_rfl) pG (Pz.seq (by kernel_rfl) (Pz.blk (id:=3) (e:=.normal) (by kernel_rfl) rfl (Pz.seq (by kernel_rfl) pH (Pz.seq (by kernel_rfl) (Pz.seq (by kernel_rfl) pI pB4) pK))) pL),k',i+1,xR i R (fun j=>g (0+j)),xL i ln,hk',fun a b=>?_,by omega,rfl,rfl,rfl⟩;unfold xR;split
   ·exact hR a b
   ·exact hg _
  ·exact .inr ⟨.exit 2,_,_,by simp,Pz.seqX (by kernel_rfl) (by simp) (Pz.run qv qf (m:=0) (by kernel_rfl) qh (q.trans (qZ (by simpa using c) rfl))),k,i,R,ln,hk,hR,rfl,rfl,rfl⟩) (n:=4-0) ⟨k,0,R0,ln0,hk,hR0,by omega,rfl,rfl,rfl⟩
 exact⟨k',i,R,ln,hk',hR',q⟩
theorem qpk:ToldOk P18 G18 9 [] (.bool true):=by
 obtain⟨p13,hp13⟩:=qD P18 G18 13;obtain⟨p8,hp8⟩:=qD P18 G18 8;obtain⟨p4,hp4⟩:=qD P18 G18 4;obtain⟨p6,hp6⟩:=qD P18 G18 6;obtain⟨p26,hp26⟩:=qD P18 G18 26;obtain⟨p3,hp3⟩:=qD P18 G18 3;obtain⟨e',vs',h',⟨k',n',rfl,rfl,rfl⟩,q⟩:=Pz.loop (P:=P18) (G:=G18) (A:=A18) (f:=9) (h0:=[]) (p:=[0,2,1,2,2]) (l:=[1,2]) (l1:=[1,2]) (by kernel_rfl)
  (fun m vs h=>∃(k:Int) (n:Nat),(0<=k/\k<=100003)/\n<=12/\m=12-n/\vs=[iI k,iI (n:Nat)]/\h=[])
  (fun e' vs' h'=>∃(k:Int) (n:Nat),e' = .exit 0/\vs'=[iI k,iI (n:Nat)]/\h'=[]) (fun m vs h hI=>by
  obtain⟨k,n,hk,hn,rfl,rfl,rfl⟩:=hI;rcases Nat.lt_or_ge n 12 with c|c
  ·have pD:=Pz.run qv qf (m:=0) (p:=[1,0,0,2,1,2,2]) (A:=A18) (f:=9) (h0:=[]) (by kernel_rfl) qh ((qnt k (n:Int)).trans (qm (by simp;omega) rfl));have ke:=qo5 k (n:Int);rw[wr8 (by omega) (by omega)] at ke;have pE:Pz P18 G18 A18 9 [] [1,0,1,2,0,0,2,1,2,2] [1,2] [iI k,iI (n:Nat)] [] .normal [1,2,3] [iI k,iI (n:Nat),lRg n 0 0] [pcB 0 0 (fun _ _=>0) (fun _=>0) (fun _=>none)] :=
    Pz.post (Pz.run qv qf (m:=0) (by kernel_rfl) qh ke) fun nt=>.gh [pcB 0 0 (fun _ _=>0) (fun _=>0) (fun _=>none)] (fun b hb=>by simp at hb;subst hb;exact⟨rfl,rfl⟩) (.cons (.refl _) (.cons (.refl _) (.cons (.reg (.cons (.refl _) (.cons (.own (b:=pcB 0 0 (fun _ _=>0) (fun _=>0) (fun _=>none)) (Nat.le_refl 0) rfl rfl) (.refl _)))) .nil))) (.refl _)
   have pF:=Pz.run qv qf (m:=0) (p:=[1,1,2,0,1,2,0,0,2,1,2,2]) (A:=A18) (f:=9) (h0:=[]) (by kernel_rfl) qh (qo6 k n n 0 0 0 (fun _ _=>0) (fun _=>0) (fun _=>none));obtain⟨k',i,R,ln,hk',hR,pr⟩:=qny k n n hk (by omega) (fun _ _=>0) (fun _=>0) (fun _ _=>⟨Int.le_refl 0,(by decide:(0:Int)<256)⟩);obtain⟨D,hDe⟩:∃D:IR,D=⟨n,i,ln,R⟩:=⟨_,rfl⟩;have hD:D.Ok:=by rw[hDe];exact⟨by dsimp only;omega,hR⟩
   have pB2:Pz P18 G18 A18 9 [] [2,1,2,0,1,2,0,0,2,1,2,2] [1,2,3,4] [iI k,iI (n:Nat),lRg n 0 0,iI (0:Nat)] [pcB 0 0 (fun _ _=>0) (fun _=>0) (fun _=>none)] .normal [1,2,3] [iI k',iI (n:Nat),.reg [uI D.wd,D.rows none]] []:=by
    refine Pz.blk (id:=2) (e:=.exit 2) (by kernel_rfl) rfl (Pz.post (Pz.only pr (l2:=[1,2,3]) rfl) fun nt=>?_);refine .trans (.canon [] rfl) ?_;have n1:QN [] [pcB i i R ln (fun _=>none)] (.own 0 i 0 i none) = .view 1 i (fun j=>((pcB i i R ln (fun _=>none)).get (0+j)).map (resolve 3 [] [pcB i i R ln (fun _=>none)])) none :=
     qe8 (σ:=[]) (h:=[pcB i i R ln (fun _=>none)]) (i:=0) (ver:=i) (n:=i) (cap:=none) (b:=pcB i i R ln (fun _=>none)) rfl rfl rfl rfl rfl (Nat.le_refl _) rfl
    show WeakTo _ _ nt _ _ [_,_,.reg [_,QN [] [pcB i i R ln (fun _=>none)] (.own 0 i 0 i none)]] [] _ _;rw[n1,hDe];refine .sl (.cons (.refl _) (.cons (.refl _) (.cons (.inr (.inl ⟨_,_,rfl,rfl,.cons (.refl _) (.cons (.inr ⟨rfl,.view (.inl rfl) fun j hj=>?_,rfl⟩) .nil)⟩)) .nil))) (.refl _);rw[Nat.zero_add];exact .refl _
   obtain⟨ok,hr⟩:=D.pic;obtain⟨n1,n2,n3⟩:=D.n_bd;have hr256:∀i j,0<=D.r i j/\D.r i j<256:=fun i j=>by have:=hr i j;omega
   have t13:ToldOk P18 G18 13 [.agg [uI D.wd,D.rows none]] (pgV D.r (fun _=>D.w) D.n (fun _=>some D.w) none):=OfT D hD;have t8:=qoI D hD;have em:u8.wrap ((n:Int).tmod 4)=(n:Int)%4:=by rw[Int.tmod_eq_emod_of_nonneg (by omega),wr8 (by omega) (by omega)]
   have t4:=qoo D hD ((n:Int)%4) (by omega);have t6:=qlY D hD [49,50,10,50,49,10,49,49,10];have t26:=qlR D.r D.w D.n (some D.w) none (i64.wrap ((n:Int)-3)) ok hr256;have t3:=qn3 (D.r 0) D.w (some D.w) fun j _=>hr256 0 j;have pM:=Pz.run qv (qq qf (qj hp13)) (m:=0) (p:=[1,2,2,0,1,2,0,0,2,1,2,2]) (A:=A18) (f:=9) (h0:=[]) (by kernel_rfl) qh ((qpd p13 k' n D D.n D.r (fun _=>D.w) (fun _=>some D.w) none).trans (qm (qp hp13 t13) rfl));have kN:=qpe p8 p4 p6 p26 p3 k' n D D.r D.w D.n (some D.w) none;rw[em] at kN;have pN:=Pz.run qv (qq (qq (qq (qq (qq qf (qj hp8)) (qj hp4)) (qj hp6)) (qj hp26)) (qj hp3)) (m:=0) (p:=[2,2,2,0,1,2,0,0,2,1,2,2]) (A:=A18) (f:=9) (h0:=[]) (by kernel_rfl) qh
    (kN.trans (qm (qp hp8 t8) (qm (qp hp4 t4) (qm (qp hp6 t6) (qm (qp hp26 t26) (qm (by simp;omega) (qm (qp hp3 t3) rfl)))))))
   have ko:=qpf k' (n:Int);rw[qeX (i:=n) (h:=12) (by omega) (by omega)] at ko;have pO:=Pz.run qv qf (m:=0) (p:=[2,2,0,0,2,1,2,2]) (A:=A18) (f:=9) (h0:=[]) (by kernel_rfl) qh ko;exact .inl ⟨12-(n+1),_,_,by omega,Pz.seq (by kernel_rfl) pD (Pz.seq (by kernel_rfl) (Pz.blk (id:=1) (e:=.normal) (by kernel_rfl) rfl (Pz.seq (by kernel_rfl) pE (Pz.seq (by kernel_rfl) (Pz.seq (by kernel_rfl) pF pB2) (Pz.seq (by kernel_rfl) pM pN)))) pO),k',n+1,hk',by omega,rfl,rfl,rfl⟩
  ·exact .inr ⟨.exit 0,_,_,by simp,Pz.seqX (by kernel_rfl) (by simp) (Pz.run qv qf (m:=0) (by kernel_rfl) qh ((qnt k (n:Int)).trans (qZ (by simp;omega) rfl))),k,n,rfl,rfl,rfl⟩) (n:=12-0) ⟨1,0,by omega,by omega,rfl,rfl,rfl⟩
 obtain⟨h2,kq⟩:=qpi;have pq:=Pz.run qv (qgf qlZ qf) (m:=0) (p:=[2,2,2,2]) (A:=A18) (f:=9) (h0:=[]) (by kernel_rfl) qh kq;refine Pz.told (A:=A18) (l1:=[0]) (v1:=[.bool true]) (h1:=h2) q9 Try.func9 (by kernel_rfl) (by kernel_rfl) (l:=[]) rfl
  (Pz.seq (by kernel_rfl) (Pz.run qv qf (m:=0) (by kernel_rfl) qh qo2) (Pz.seq (by kernel_rfl) (Pz.run qv qf (m:=0) (by kernel_rfl) qh qo3) (Pz.seq (by kernel_rfl) (Pz.seq (by kernel_rfl) (Pz.run qv qf (m:=0) (by kernel_rfl) qh (qo4 1)) (Pz.blk (id:=0) (e:=.exit 0) (by kernel_rfl) rfl (Pz.only q (l2:=[]) rfl)))
   (Pz.seq (by kernel_rfl) (Pz.run qv qf (m:=0) (by kernel_rfl) qh qpg) pq)))) rfl
end Go.Ab

