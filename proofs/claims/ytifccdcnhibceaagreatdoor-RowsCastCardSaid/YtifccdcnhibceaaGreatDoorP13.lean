/- A part of the proof: nothing is assumed. -/
import Derived.Test.YtifccdcnhibceaaGreatDoorP9
import Derived.Test.YtifccdcnhibceaaGreatDoorP11
import Derived.Test.YtifccdcnhibceaaGreatDoorP12
set_option linter.all false
namespace Go.Ab
open IntKind(i64 u8)
open Int(ofNat)
open Go.Proofs
def eC(d ct:Int):List T:=[.bool true,iI (qiW d),iI ct,.bool true,.nils]
def kEn(d ct:Int)(_:List T):Option T:=some (.tup [.agg (eC d ct),iI 0])
def qlU(x:T)(_:List T):Option T:=some (.new x)
def kV(x:Int)(_:List T):Option T:=some (iI x)
def kU8(x:Int)(_:List T):Option T:=some (uI x)
def kZ(H:qk)(_:List T)(_:qk):Option (T×qk):=some (iI 0,H)
section
variable (p q r u:List T->T->Prop) (w:List T->qk->T->qk->Prop) (y:Yrn) (s:Sx) (rest H:qk) (K:Nat) (t place:Int) (l:T) (m:T) (z:Nat×(Nat->Pss))
theorem qn0:qw P16 G16 A16 qp 0 37 [] (nav [1]) [0,1] [p0,yI K] (HS s rest) [0,1]=some (.normal,[p0,yI K],HS s rest):=by kernel_rfl
theorem qn1:qw P16 G16 A16 (qp.add 65 (qI p (kU8 t))) 0 37 [] (nav [1,2]) [0,1] [p0,yI K] (HS s rest) [0,1,5] =
 (bif qC (p [uI s.d] (uI t)) then some (.normal,[p0,yI K,uI t],HS s rest) else none):=by kernel_rfl
theorem qn2:qw P16 G16 A16 qp 0 37 [] (nav [1,2,2]) [0,1,5] [p0,yI K,uI t] (HS s rest) [0,1,5,6] =
 (bif decide (0<=yJ K)&&decide (yJ K<6) then bif (0+(yJ K).toNat).blt 6 then some (.normal,[p0,yI K,uI t,.reg (s.Y (0+(yJ K).toNat)).c],HS s rest) else none else none):=by kernel_rfl
theorem qn3:qw P16 G16 A16 qp 0 37 [] (nav [1,1,2,2,2]) [0,1,5,6] [p0,yI K,uI t,.reg y.c] (HS s rest) [0,1,5,6,24] =
 (bif y.i then some (.normal,[p0,yI K,uI t,.reg y.c,.bool false],HS s rest) else some (.normal,[p0,yI K,uI t,.reg y.c,.bool true],HS s rest)):=by kernel_rfl
theorem qn4:qw P16 G16 A16 (qp.add 66 (qI q (kEn t y.ct))) 0 37 [] (nav [1,3,2,1,2,2,2]) [0,1,5,6,24] [p0,yI K,uI t,.reg y.c,.bool true] (HS s rest) [0,1,7,8] =
 (bif qC (q [.agg y.c,uI t] (.tup [.agg (eC t y.ct),iI 0])) then some (.normal,[p0,yI K,.reg (eC t y.ct),iI 0],HS s rest) else none):=by kernel_rfl
theorem qn5:qw P16 G16 A16 qp 0 37 [] (nav [1,2,3,2,1,2,2,2]) [0,1,7,8] [p0,yI K,.reg (eC t y.ct),iI 0] (HS s rest) [8] =
 (bif decide (0<=yJ K)&&decide (yJ K<6) then bif (0+(yJ K).toNat).blt 6&&true&&true&&true then some (.normal,[iI 0],HSy s (yG s.Y (0+(yJ K).toNat) (eC t y.ct)) rest) else none else none):=by kernel_rfl
theorem qn6(h:qk):qw P16 G16 A16 qp 0 37 [] (nav [2,2,3,2,1,2,2,2]) [8] [iI 0] h [4]=some (.ret,[iI 0],h):=by kernel_rfl
end
def Yrn.enter(y:Yrn)(d:Int):Yrn:=⟨true,qiW d,y.ct,true,fun _=>⟨0,0,false,0⟩,0⟩
theorem qkk{d:Int}(h:d=0∨d=1):ZW d=0∨ZW d=1:=by
 rcases h with rfl|rfl
 ·exact .inr rfl
 ·exact .inl rfl
set_option maxHeartbeats 1000000
set_option maxRecDepth 100000
section
variable {s:Sx} {rest:qk} {K:Nat}
theorem qkl(hK:K<6):Pz P16 G16 A16 37 (HS s rest) [1] [0,1] [p0,yI K] (HS s rest) .normal [0,1] [p0,yI K] (HS s rest) ∧
 Pz P16 G16 A16 37 (HS s rest) [1,2] [0,1] [p0,yI K] (HS s rest) .normal [0,1,5] [p0,yI K,uI (ZW s.d)] (HS s rest) ∧
 Pz P16 G16 A16 37 (HS s rest) [1,2,2] [0,1,5] [p0,yI K,uI (ZW s.d)] (HS s rest) .normal [0,1,5,6] [p0,yI K,uI (ZW s.d),.reg (s.Y K).c] (HS s rest):=by
 obtain⟨p,hp⟩:=qE P16 G16 65;have ej:=qef hK;have qc:=qn2 s rest K (ZW s.d);rw[ej,show 0+(ofNat K).toNat=K by simp] at qc;exact⟨Pz.run qu qa (m:=0) (by kernel_rfl) ql (qn0 s rest K),
  Pz.run qu (qv qa (qr hp)) (m:=0) (by kernel_rfl) ql ((qn1 p s rest K (ZW s.d)).trans (qt (qz.2 (qH hp (qfW s.d))) rfl)),
  Pz.run qu qa (m:=0) (by kernel_rfl) ql (qc.trans (qt (inR hK) (qt (QX hK) rfl)))⟩
theorem qeh(hK:K<6)(hd:s.d=0∨s.d=1)(hy:yrE (s.Y K)=0)(hi:(s.Y K).i=false)(hn:(s.Y K).np<=1000000) :
 ToldRef P16 G16 37 [p0,yI K] (HS s rest) (iI 0) (HS (s.setY K ((s.Y K).enter (ZW s.d))) rest):=by
 obtain⟨q,hq⟩:=qE P16 G16 66;have ej:=qef hK;obtain⟨pa,pb,pc⟩:=qkl (s:=s) (rest:=rest) hK;have te:=qkf (s.Y K) (ZW s.d) (qkk hd) hy hi hn;have pd:=Pz.run qu qa (m:=0) (p:=[1,1,2,2,2]) (A:=A16) (f:=37) (h0:=HS s rest) (by kernel_rfl) ql ((qn3 (s.Y K) s rest K (ZW s.d)).trans (qK (by simp[hi]) rfl));have pe:=Pz.run qu (qv qa (qr hq)) (m:=0) (p:=[1,3,2,1,2,2,2]) (A:=A16) (f:=37) (h0:=HS s rest) (by kernel_rfl) ql ((qn4 q (s.Y K) s rest K (ZW s.d)).trans (qt (qz.2 (qH hq te)) rfl));have qf:=qn5 (s.Y K) s rest K (ZW s.d);rw[ej,show 0+(ofNat K).toNat=K by simp] at qf;have pf:=Pz.post (Pz.run qu qa (m:=0) (p:=[1,2,3,2,1,2,2,2]) (A:=A16) (f:=37) (h0:=HS s rest) (by kernel_rfl) ql (qf.trans (qt (inR hK) (qt (by rw[QX hK];rfl) rfl)))) (v2:=[iI 0]) (h2:=HS (s.setY K ((s.Y K).enter (ZW s.d))) rest) fun nt' =>
  qhO (s:=s) (rest:=rest) (K:=K) (c:=eC (ZW s.d) (s.Y K).ct) (y:=(s.Y K).enter (ZW s.d)) (.cons (.refl _) (.cons (.refl _) (.cons (.refl _) (.cons (.refl _) (.cons (.nilv _ _ (.inl rfl)) .nil)))))
 have pg:=Pz.run qu qa (m:=0) (p:=[2,2,3,2,1,2,2,2]) (A:=A16) (f:=37) (h0:=HS s rest) (by kernel_rfl) ql (qn6 (HS (s.setY K ((s.Y K).enter (ZW s.d))) rest));have br:=Pz.condT (P:=P16) (G:=G16) (A:=A16) (f:=37) (h0:=HS s rest) (p:=[2,1,2,2,2]) 24 (by kernel_rfl) rfl (Pz.seq (by kernel_rfl) pe (Pz.seq (by kernel_rfl) pf pg));exact Pz.toldRef (A:=A16) qX Tryz.func37 (by kernel_rfl) (by kernel_rfl) (l:=[0,1]) rfl (Pz.seq (by kernel_rfl) pa (Pz.seq (by kernel_rfl) pb (Pz.seq (by kernel_rfl) pc (Pz.seqX (by kernel_rfl) (by simp) (Pz.seq (by kernel_rfl) pd br))))) rfl
end
noncomputable def roF(p:List T->qk->T->qk->Prop)(F:List T->Option T)(args:List T)(h:qk):Tree:=match F args with
 |some r=>.ite (qC (p args h r h)) (.ret r) .none
 |none=>.none
theorem qhR{P:Program}{Gl:Nat->Option (List T)}{f:FuncId}{p:List T->qk->T->qk->Prop}{F:List T->Option T}(hp:p=ToldRef P Gl f):∀args h r,(roF p F args h).run some=some r->ToldRef P Gl f args h r h:=by
 intro args h r hr;unfold roF at hr;cases hF:F args with
 |none=>rw[hF] at hr;cases hr
 |some x =>
  rw[hF] at hr;simp only[Tree.run] at hr;obtain⟨hc,hr⟩:=qn hr;obtain rfl:=Option.some.inj hr;rw[←hp];exact qz.1 hc
def qlV:List T->Option T
 |[.own i v o n _]=>some (.own i v o n (some n))
 |_=>none
def tC(ln v:Nat->Nat)(k:Nat):Blk:=⟨0,1,6,fun e=>[.own (3+e) (v e) 0 (ln e) (bif e.blt k then some (ln e) else none)],false,false,none⟩
def HSt(s:Sx)(t:Blk)(rest:qk):qk:=xB s.row s.sl s.d::yB s.Y::t::rB s.ln s.v s.L 0::rB s.ln s.v s.L 1::rB s.ln s.v s.L 2::rB s.ln s.v s.L 3::rB s.ln s.v s.L 4::rB s.ln s.v s.L 5::rest
def Z32:List T:=[.nils,.nils,.nils,.nils,.nils,.nils,uI 0]
def a40(x:T)(F:List T)(e:Nat):List T:=[p0,x,.reg F,.reg Z32,.own 2 0 0 6 (some 6),iI 6,iI (ofNat e)]
def tD(ln v:Nat->Nat)(e:Nat):Blk:=⟨0,1,6,fun j=>[bif j==e then .own (3+e) (v e) 0 (ln e) (some (ln e)) else .own (3+j) (v j) 0 (ln j) (bif j.blt e then some (ln j) else none)],false,false,none⟩
section
variable (p q:List T->qk->T->qk->Prop) (u:List T->T->Prop) (s:Sx) (rest:qk) (x c1 c2 c3 c4:T) (e:Nat) (t:Blk) (d:Int)
theorem qn7:qw P16 G16 A16 qp 0 40 [] (nav [1]) [0,1,2] [p0,.agg [c1,c2,c3,c4],x] (HS s rest) [0,2,4,6]=some (.normal,[p0,x,.reg [c1,c2,c3,c4],.reg Z32],HS s rest):=by kernel_rfl
theorem qn8:qw P16 G16 A16 qp 0 40 [] (nav [1,1,2]) [0,2,4,6] [p0,x,.reg [c1,c2,c3,c4],.reg Z32] (HS s rest) [0,2,4,6,12,13,14]=some (.normal,a40 x [c1,c2,c3,c4] 0,HSt s (tC s.ln s.v 0) rest):=by kernel_rfl
theorem qn9(he:e<6):qw P16 G16 A16 (qp.addRo 74 (roF p qlV)) 0 40 [] (nav [0,0,2,1,2]) [0,2,4,6,12,13,14] (a40 x [c1,c2,c3,c4] e) (HSt s (tC s.ln s.v e) rest) [0,2,4,6,12,13,14] =
 (bif qC (p [.own (3+e) (s.v e) 0 (s.ln e) none] (HSt s (tC s.ln s.v e) rest) (.own (3+e) (s.v e) 0 (s.ln e) (some (s.ln e))) (HSt s (tC s.ln s.v e) rest)) then some (.normal,a40 x [c1,c2,c3,c4] (e+1),HSt s (tD s.ln s.v e) rest) else none):=by
 obtain rfl|rfl|rfl|rfl|rfl|rfl:=Jt he
 all_goals kernel_rfl
theorem qlW(he:e<6):qfM P16 G16 A16 qp 0 74 [] [.own (3+e) (s.v e) 0 (s.ln e) none] (HSt s (tC s.ln s.v e) rest) =
 (bif s.v e==s.v e&&true then bif s.v e==s.v e&&true then bif s.v e==s.v e&&true then bif decide ((0:Int)<=ofNat (s.ln e))&&decide (ofNat (s.ln e)<=ofNat (s.ln e))&&decide (ofNat (s.ln e)<=ofNat (s.ln e)) then
  some (.own (3+e) (s.v e) 0 (s.ln e) (some (s.ln e)),HSt s (tC s.ln s.v e) rest) else none else none else none else none):=by
 obtain rfl|rfl|rfl|rfl|rfl|rfl:=Jt he
 all_goals kernel_rfl
theorem qoa:qw P16 G16 A16 qp 0 40 [] (nav [0,0,2,1,2]) [0,2,4,6,12,13,14] (a40 x [c1,c2,c3,c4] 6) (HSt s (tC s.ln s.v 6) rest) [0,2,4,6]=some (.exit 0,[p0,x,.reg [c1,c2,c3,c4],.reg Z32],HSt s (tC s.ln s.v 6) rest):=by kernel_rfl
theorem qob:qw P16 G16 A16 qp 0 40 [] (nav [1,2,2]) [0,2,4,6] [p0,x,.reg [c1,c2,c3,c4],.reg Z32] (HSt s t rest) [0,2,4,6]=some (.normal,[p0,x,.reg [.own 2 0 0 6 (some 6),c2,c3,c4],.reg Z32],HSt s t rest):=by kernel_rfl
theorem qlX(n n':Nat)(g':Nat->List T)(c c':Option Nat)(i v:Nat):qw P16 G16 A16 (qp.add 46 (qI u (qlU (.view 2 n' g' c')))) 0 40 [] (nav [1,2,2,2]) [0,2,4,6] [p0,.own i v 0 n c,.reg [c1,c2,c3,c4],.reg Z32] (HSt s t rest) [0,2,4,6] =
 (bif qC (u [Qp (HSt s t rest) (.own i v 0 n c)] (.new (.view 2 n' g' c'))) then some (.normal,[p0,.own i v 0 n c,.reg [c1,c2,.view 2 n' g' c',c4],.reg Z32],HSt s t rest) else none):=by kernel_rfl
theorem qlY(i v n:Nat)(c:Option Nat):qw P16 G16 A16 (qp.add 65 (qI u (kU8 d))) 0 40 [] (nav [2,2,2,2]) [0,2,4,6] [p0,.own i v 0 n c,.reg [c1,c2,c3,c4],.reg Z32] (HSt s t rest) [6] =
 (bif qC (u [uI s.d] (uI d)) then some (.ret,[.reg [.own i v 0 n c,.own 1 0 0 6 (some 6),c1,c2,c3,c4,uI d]],HSt s t rest) else none):=by kernel_rfl
end
set_option maxHeartbeats 1000000
set_option maxRecDepth 100000
section
variable {s:Sx} {rest:qk}
theorem qiX(x c1 c2 c3 c4:T):Pz P16 G16 A16 40 (HS s rest) [1] [0,1,2] [p0,.agg [c1,c2,c3,c4],x] (HS s rest) .normal [0,2,4,6] [p0,x,.reg [c1,c2,c3,c4],.reg Z32] (HS s rest) ∧
 Pz P16 G16 A16 40 (HS s rest) [1,2] [0,2,4,6] [p0,x,.reg [c1,c2,c3,c4],.reg Z32] (HS s rest) .normal [0,2,4,6] [p0,x,.reg [c1,c2,c3,c4],.reg Z32] (HSt s (tC s.ln s.v 6) rest) ∧
 Pz P16 G16 A16 40 (HS s rest) [1,2,2] [0,2,4,6] [p0,x,.reg [c1,c2,c3,c4],.reg Z32] (HSt s (tC s.ln s.v 6) rest) .normal [0,2,4,6] [p0,x,.reg [.own 2 0 0 6 (some 6),c2,c3,c4],.reg Z32] (HSt s (tC s.ln s.v 6) rest):=by
 obtain⟨p,hp⟩:=Yi P16 G16 74;refine⟨Pz.run qu qa (m:=0) (by kernel_rfl) ql (qn7 s rest x c1 c2 c3 c4),?_,Pz.run qu qa (m:=0) (by kernel_rfl) ql (qob s rest x c1 c2 c3 c4 (tC s.ln s.v 6))⟩;have pb:=Pz.run qu qa (m:=0) (p:=[1,1,2]) (A:=A16) (f:=40) (h0:=HS s rest) (by kernel_rfl) ql (qn8 s rest x c1 c2 c3 c4);have pl:=Pz.count (P:=P16) (G:=G16) (A:=A16) (f:=40) (h0:=HS s rest) (p:=[0,2,1,2]) (l:=[0,2,4,6,12,13,14]) (e:=.exit 0) (by kernel_rfl) (fun e=>a40 x [c1,c2,c3,c4] e) (fun e=>HSt s (tC s.ln s.v e) rest) (n:=6) (by simp) (fun e he=>by
  have tc:ToldRef P16 G16 74 [.own (3+e) (s.v e) 0 (s.ln e) none] (HSt s (tC s.ln s.v e) rest) (.own (3+e) (s.v e) 0 (s.ln e) (some (s.ln e))) (HSt s (tC s.ln s.v e) rest) :=
   ja qu qX qa (A:=A16) (m:=0) (by kernel_rfl) ql ((qlW s rest e he).trans (qt (by simp) (qt (by simp) (qt (by simp) (qt (by simp) rfl)))))
  refine Pz.post (Pz.run qu (qe5 qa (qhR hp)) (m:=0) (by kernel_rfl) ql ((qn9 p s rest x c1 c2 c3 c4 e he).trans (qt (zi hp tc) rfl))) fun nt=>?_;refine .same (.cons ⟨rfl,rfl,rfl,id,fun _ _=>rfl⟩ (.cons ⟨rfl,rfl,rfl,id,fun _ _=>rfl⟩ (.cons ⟨rfl,rfl,rfl,id,fun j hj=>?_⟩ (.refl _))));show [T.own (3+j) (s.v j) 0 (s.ln j) (bif j.blt (e+1) then some (s.ln j) else none)]=[bif j==e then T.own (3+e) (s.v e) 0 (s.ln e) (some (s.ln e)) else .own (3+j) (s.v j) 0 (s.ln j) (bif j.blt e then some (s.ln j) else none)];by_cases c:j=e
  ·subst c;rw[beq_self_eq_true,cond_true,QX (by omega)];rfl
  ·rw[show(j==e)=false by simpa using c,cond_false];rcases Nat.lt_or_ge j e with d|d
   ·rw[QX (by omega),QX d]
   ·rw[qad (by omega),qad d])
  (Pz.run qu qa (m:=0) (by kernel_rfl) ql (qoa s rest x c1 c2 c3 c4))
 exact Pz.seq (by kernel_rfl) pb (Pz.blk (id:=0) (e:=.exit 0) (by kernel_rfl) rfl pl)
theorem qkm{i v n n':Nat}{c:Option Nat}{z:Nat->Idd}(hh:ToldOk P16 G16 46 [Qp (HSt s (tC s.ln s.v 6) rest) (.own i v 0 n c)] (.new (idV z n' (some n'))))(c1 c2 c3 c4:T) :
 ToldRef P16 G16 40 [p0,.agg [c1,c2,c3,c4],.own i v 0 n c] (HS s rest) (.agg [.own i v 0 n c,.own 1 0 0 6 (some 6),.own 2 0 0 6 (some 6),c2,idV z n' (some n'),c4,uI (ZW s.d)]) (HSt s (tC s.ln s.v 6) rest):=by
 obtain⟨u,hu⟩:=qE P16 G16 46;obtain⟨w,hw⟩:=qE P16 G16 65;obtain⟨pa,pb,pc⟩:=qiX (s:=s) (rest:=rest) (.own i v 0 n c) c1 c2 c3 c4;have pf:=Pz.run qu (qv qa (qr hu)) (m:=0) (p:=[1,2,2,2]) (A:=A16) (f:=40) (h0:=HS s rest) (by kernel_rfl) ql ((qlX u s rest (.own 2 0 0 6 (some 6)) c2 c3 c4 (tC s.ln s.v 6) n n' (fun j=>(z j).c) c (some n') i v).trans (qt (qz.2 (qH hu hh)) rfl));have pg:=Pz.run qu (qv qa (qr hw)) (m:=0) (p:=[2,2,2,2]) (A:=A16) (f:=40) (h0:=HS s rest) (by kernel_rfl) ql ((qlY (u:=w) (s:=s) (rest:=rest) (c1:=.own 2 0 0 6 (some 6)) (c2:=c2) (c3:=idV z n' (some n')) (c4:=c4) (t:=tC s.ln s.v 6) (d:=ZW s.d) (i:=i) (v:=v) (n:=n) (c:=c)).trans (qt (qz.2 (qH hw (qfW s.d))) rfl));exact Pz.toldRef (A:=A16) qX Tryz.func40 (by kernel_rfl) (by kernel_rfl) (l:=[0,1,2]) rfl (Pz.seq (by kernel_rfl) pa (Pz.seq (by kernel_rfl) pb (Pz.seq (by kernel_rfl) pc (Pz.seq (by kernel_rfl) pf pg)))) rfl
end
noncomputable abbrev KG(K:Orc):Orc:=K.addRef 1000002 (fun _ _=>.none)
def F13:List T:=[.own 2 0 0 6 (some 6),.nils,.nils,.nils]
def qoc(_:List T):Option T:=some (.agg [.fresh false 1 6 (fun _=>[.nils]) 6 (some 6),.nils,.nils,.nils])
def qlZ(y i:Int)(H:qk)(_:List T)(_:qk):Option (T×qk):=some (.tup [.agg [uI y,iI i],iI 0],H)
def sB(n:Nat)(g:Nat->List T):Blk:=.mk 0 2 n g false false none
def o9(n:Nat):T:=.own 9 0 0 n (some n)
theorem qod(p:List T->T->Prop):Qz P16 G16 A16 (qp.add 64 (qI p (fun _=>some (.fresh false 1 6 (fun _=>[.nils]) 6 (some 6))))) 0 36 [] =
(
 bif qC (p [] (.fresh false (1:Nat) (6:Nat) (fun x=>[.nils]) (6:Nat) (some 6))) then
 some (.agg [.fresh false (1:Nat) (6:Nat) (fun j=>[.nils]) (6:Nat) (some 6),.nils,.nils,.nils])
 else
 none):=by kernel_rfl
theorem qoe(y n:Int):qw P16 G16 A16 qp 0 13 [] (nav [1,2]) [0,1,4] [uI y,iI n,.reg Z32] [] [0,1,4] =
(
 bif decide (y<1) then
 some ((.ret,[uI y,iI n,.reg [.nils,.nils,.nils,.nils,.nils,.nils,uI 0]],[]))
 else
 bif decide (6<y) then
 some ((.ret,[uI y,iI n,.reg [.nils,.nils,.nils,.nils,.nils,.nils,uI 0]],[]))
 else
 bif decide (n<1) then
 some ((.ret,[uI y,iI n,.reg [.nils,.nils,.nils,.nils,.nils,.nils,uI 0]],[]))
 else
 bif decide (16<n) then
 some ((.ret,[uI y,iI n,.reg [.nils,.nils,.nils,.nils,.nils,.nils,uI 0]],[]))
 else
 some ((.normal,[uI y,iI n,.reg [.nils,.nils,.nils,.nils,.nils,.nils,uI 0]],[]))):=by kernel_rfl
theorem ql0(y n:Int):qw P16 G16 A16 qp 0 13 [] (nav [1,2]) [0,1,4] [uI y,iI n,.reg Z32] [] [4,5] =
(
 bif decide (y<1) then
 some ((.ret,[.reg [.nils,.nils,.nils,.nils,.nils,.nils,uI 0],iI 1],[]))
 else
 bif decide (6<y) then
 some ((.ret,[.reg [.nils,.nils,.nils,.nils,.nils,.nils,uI 0],iI 1],[]))
 else
 bif decide (n<1) then
 some ((.ret,[.reg [.nils,.nils,.nils,.nils,.nils,.nils,uI 0],iI 1],[]))
 else
 bif decide (16<n) then
 some ((.ret,[.reg [.nils,.nils,.nils,.nils,.nils,.nils,uI 0],iI 1],[]))
 else
 some ((.normal,[.reg [.nils,.nils,.nils,.nils,.nils,.nils,uI 0],.undef],[]))):=by kernel_rfl
theorem qof(p:List T->T->Prop)(y n:Int):qw P16 G16 A16 (qp.add 36 (qI p qoc)) 0 13 [] (nav [1,2,2]) [0,1,4] [uI y,iI n,.reg Z32] [] [0,1,4,6] =
(
 bif qC (p [] (.agg [.fresh false (1:Nat) (6:Nat) (fun x=>[.nils]) (6:Nat) (some 6),.nils,.nils,.nils])) then
 some ((.normal,[uI y,iI n,.reg [.nils,.nils,.nils,.nils,.nils,.nils,uI 0],.reg [.own 0 0 0 6 (some 6),.nils,.nils,.nils]],[hB (6:Nat) fun e=>.nils]))
 else
 none):=by kernel_rfl
section
variable (w:List T->qk->T->qk->Prop) (s:Sx) (H h:qk) (y n' a b:Int) (n i:Nat) (g:Nat->List T)
theorem ql1:qw P16 G16 A16 qp 0 13 [] (nav [1]) [0,1] [uI y,iI n'] [] [0,1,4]=some (.normal,[uI y,iI n',.reg Z32],[]):=by kernel_rfl
theorem qog(t:Blk):qw P16 G16 A16 qp 0 13 [] (nav [1,2,2,2]) [0,1,4,6] [uI y,iI n',.reg Z32,.reg [.own 0 0 0 6 (some 6),.nils,.nils,.nils]] [t] [0,1,4,6,7] =
 some (.normal,[uI y,iI n',.reg Z32,.reg [.own 0 0 0 6 (some 6),.nils,.nils,.nils],.ptr 2 0 0 0],[t,.mk 0 5 6 (fun _=>[.bool false,iI 0,iI 0,.bool false,.nils]) false false none,.mk 0 5 1 (fun _=>[.nils,.nils,.own 1 0 0 6 (some 6),.own 0 0 0 6 (some 6),uI 1]) false false none]):=by kernel_rfl
theorem qoh:qw P16 G16 A16 qp 0 13 [] (nav [1,2,2,2,2,2]) [0,1,4,6,7] [uI y,iI (ofNat n),.reg Z32,.reg F13,p0] (HS s []) [0,4,6,7,9] =
 (bif decide ((0:Int)<=ofNat n)&&decide (ofNat n<=ofNat n)&&decide (ofNat n*32<=140737488355328)&&decide (ofNat n<=9223372036854775807) then some (.normal,[uI y,.reg Z32,.reg F13,p0,o9 n],HS s [sB n (fun _=>[uI 0,.nils])]) else none):=by kernel_rfl
theorem qoi:qw P16 G16 A16 (qp.addRef 37 (qag w (kZ H))) 0 13 [] (nav [1,1,2,2,2,2]) [0,1,4,6,7] [uI y,iI n',.reg Z32,.reg F13,p0] h [0,1,4,6,7,8] =
 (bif qC (w [p0,uI y] h (iI 0) H) then some (.normal,[uI y,iI n',.reg Z32,.reg F13,p0,iI 0],H) else none):=by kernel_rfl
theorem qoj:qw P16 G16 A16 qp 0 13 [] (nav [2,1,2,2,2,2]) [0,1,4,6,7,8] [uI y,iI n',.reg Z32,.reg F13,p0,iI 0] h [0,1,4,6,7]=some (.normal,[uI y,iI n',.reg Z32,.reg F13,p0],h):=by kernel_rfl
theorem qok:qw P16 G16 A16 qp 0 13 [] (nav [1,1,2,2,2,2,2,2]) [0,4,6,7,9] [uI y,.reg Z32,.reg F13,p0,o9 n] (HS s [sB n g]) [0,4,6,7,9,45,46]=some (.normal,[uI y,.reg Z32,.reg F13,p0,o9 n,iI (ofNat n),iI (ofNat 0)],HS s [sB n g]):=by kernel_rfl
theorem ql2(s':Sx):qw P16 G16 A16 (KG (qp.addRef 38 (qag w (qlZ y (ofNat i) (HS s' [sB n g]))))) 0 13 [] (nav [0,0,2,1,2,2,2,2,2,2]) [0,4,6,7,9,45,46] [uI y,.reg Z32,.reg F13,p0,o9 n,iI (ofNat n),iI (ofNat i)] (HS s [sB n g]) [0,4,6,7,9,45,46] =
 (bif decide (ofNat i<ofNat n) then bif qC (w [p0,uI y,uI 0,.nils] (HS s [sB n g]) (.tup [.agg [uI y,iI (ofNat i)],iI 0]) (HS s' [sB n g])) then bif decide ((0:Int)<=ofNat i)&&decide (ofNat i<ofNat n) then bif (0+i).blt n&&true&&true&&true then
  some (.normal,[uI y,.reg Z32,.reg F13,p0,o9 n,iI (ofNat n),iI (i64.wrap (ofNat i+1))],HS s' [sB n (fun e=>Zd (e==0+i) [uI 0,.view 2 1 (fun j=>[[uI y,iI (ofNat i)]].getD j []) (some 1)] (g e))]) else none else none else none
  else some (.exit 0,[uI y,.reg Z32,.reg F13,p0,o9 n,iI (ofNat n),iI (ofNat i)],HS s [sB n g])):=by kernel_rfl
theorem qol(m:Nat)(z:Nat->Idd)(d:Int):qw P16 G16 A16 (qp.addRef 40 (qag w (fun _ _=>some (.agg [o9 n,.own 1 0 0 6 (some 6),.own 2 0 0 6 (some 6),.nils,idV z m (some m),.nils,uI d],H)))) 0 13 [] (nav [2,2,2,2,2,2,2,2]) [4,6,7,9] [.reg Z32,.reg F13,p0,o9 n] h [4,5] =
 (bif qC (w [p0,.agg F13,o9 n] h (.agg [o9 n,.own 1 0 0 6 (some 6),.own 2 0 0 6 (some 6),.nils,idV z m (some m),.nils,uI d]) H) then some (.ret,[.reg [o9 n,.own 1 0 0 6 (some 6),.own 2 0 0 6 (some 6),.nils,idV z m (some m),.nils,uI d],iI 0],H) else none):=by kernel_rfl
theorem qom:qw P16 G16 A16 (qp.addRef 39 (qag w (kZ H))) 0 13 [] (nav [1,1,2,2,2,2,2,2,2]) [0,4,6,7,9] [uI y,.reg Z32,.reg F13,p0,o9 n] h [4,6,7,9,13] =
 (bif qC (w [p0,uI y,iI 179,.nils] h (iI 0) H) then some (.normal,[.reg Z32,.reg F13,p0,o9 n,iI 0],H) else none):=by kernel_rfl
theorem qon:qw P16 G16 A16 qp 0 13 [] (nav [2,1,2,2,2,2,2,2,2]) [4,6,7,9,13] [.reg Z32,.reg F13,p0,o9 n,iI 0] h [4,6,7,9]=some (.normal,[.reg Z32,.reg F13,p0,o9 n],h):=by kernel_rfl
end
structure Lp where
 (b:Int) (w:Bool) (th:List Idd) (ps:List Pss)
def lpz:Lp:=⟨0,false,[],[]⟩
def Lp.l(x:Lp):Lpp:=⟨x.b,x.w,fun j=>x.th.getD j id0,x.th.length,fun j=>x.ps.getD j ps0,x.ps.length⟩
structure Yn where
 (i:Bool) (pl ct:Int) (w:Bool) (pe:List Pss)
def Yn.y(x:Yn):Yrn:=⟨x.i,x.pl,x.ct,x.w,fun j=>x.pe.getD j ps0,x.pe.length⟩
def yz:Yn:=⟨false,0,0,false,[]⟩
structure Ys where
 (Y:Nat->Yn) (tb:Nat->List Lp)
def Ys.sx(q:Ys)(row sl:T)(d:Int)(v:Nat->Nat):Sx:=⟨row,sl,d,fun e=>(q.Y e).y,fun e=>(q.tb e).length,v,fun e j=>((q.tb e).getD j lpz).l⟩
def Ys.setY(q:Ys)(K:Nat)(y:Yn):Ys:={ q with Y:=upF q.Y K y }
def Yn.next(y:Yn):Yn:=⟨true,y.pl,y.ct+1,false,[]⟩
def Yn.lp(y:Yn)(b:Int)(th:List Idd):Lp:=⟨b,y.w,th,y.pe⟩
def Ys.loop(q:Ys)(K:Nat)(b:Int)(th:List Idd):Ys:=⟨upF q.Y K (q.Y K).next,upF q.tb K (q.tb K++[(q.Y K).lp b th])⟩
def psh(st:List Pss)(p:Pss):List Pss:=if (decide (0<st.length)&&cnc (st.getD (st.length-1) ps0) p)=true then st.dropLast else st++[p]
def Zr(st l:List Pss):List Pss:=l.foldl psh st
def Yn.go(y:Yn)(place:Int)(l:List Pss):Yn:=⟨true,place,y.ct,y.w,Zr y.pe l⟩
def Yn.enter(y:Yn)(d:Int):Yn:=⟨true,qiW d,y.ct,true,[]⟩
theorem Sx.eqs{a b:Sx}(h1:a.row=b.row)(h2:a.sl=b.sl)(h3:a.d=b.d)(h4:a.Y=b.Y)(h5:a.ln=b.ln)(h6:a.v=b.v)(h7:a.L=b.L):a=b:=by
 cases a;cases b;simp_all
theorem qcn{α:Type}(l:List α)(x d:α)(j:Nat):(l++[x]).getD j d=if j=l.length then x else l.getD j d:=by
 rw[List.getD_eq_getElem?_getD,List.getD_eq_getElem?_getD];by_cases h:j=l.length
 ·subst h;simp
 ·rw[if_neg h];rcases Nat.lt_or_ge j l.length with q|q
  ·rw[List.getElem?_append_left q]
  ·rw[List.getElem?_eq_none (by simp;omega),List.getElem?_eq_none (by omega)]
theorem qfY(q:Ys)(row sl:T)(d:Int)(v:Nat->Nat)(K:Nat)(b:Int)(th:List Idd):(q.sx row sl d v).loop K b (fun j=>th.getD j id0) th.length=(q.loop K b th).sx row sl d (upF v K (v K+1)):=by
 refine Sx.eqs rfl rfl rfl (funext fun e=>?_) (funext fun e=>?_) rfl (funext fun e=>funext fun j=>?_)
 ·show upF (fun e=>(q.Y e).y) K (q.Y K).y.next e=(upF q.Y K (q.Y K).next e).y
  unfold upF;by_cases c:e=K
  ·rw[if_pos c,if_pos c];rfl
  ·rw[if_neg c,if_neg c]
 ·show upF (fun e=>(q.tb e).length) K ((q.tb K).length+1) e=(upF q.tb K (q.tb K++[(q.Y K).lp b th]) e).length;unfold upF;by_cases c:e=K
  ·rw[if_pos c,if_pos c];simp
  ·rw[if_neg c,if_neg c]
 ·show upL (fun e j=>((q.tb e).getD j lpz).l) K (q.tb K).length ((q.Y K).y.lp b (fun j=>th.getD j id0) th.length) e j=((upF q.tb K (q.tb K++[(q.Y K).lp b th]) e).getD j lpz).l;unfold upL upF;by_cases c:e=K
  ·rw[if_pos c,qcn,c];by_cases z:j=(q.tb K).length
   ·rw[if_pos ⟨rfl,z⟩,if_pos z];rfl
   ·rw[if_neg (fun h=>z h.2),if_neg z]
  ·rw[if_neg (fun h=>c h.1),if_neg c]
theorem qfZ(q:Ys)(row sl:T)(d:Int)(v:Nat->Nat)(K:Nat)(y:Yn):(q.sx row sl d v).setY K y.y=(q.setY K y).sx row sl d v:=by
 refine Sx.eqs rfl rfl rfl (funext fun e=>?_) rfl rfl rfl;show upF (fun e=>(q.Y e).y) K y.y e=(upF q.Y K y e).y;unfold upF;by_cases c:e=K
 ·rw[if_pos c,if_pos c]
 ·rw[if_neg c,if_neg c]
theorem qbR{α:Type}(l:List α)(d:α){j:Nat}(h:j<l.length-1):l.dropLast.getD j d=l.getD j d:=by
 rw[List.getD_eq_getElem?_getD,List.getD_eq_getElem?_getD,List.getElem?_dropLast,if_pos h]
theorem Ju(st:List Pss)(l:Nat->Pss)(f:Nat->Pss)(hf:∀j,j<st.length->f j=st.getD j ps0):∀k,(QQ (st.length,f) l k).1=(Zr st ((List.range k).map l)).length/\∀j,j<(QQ (st.length,f) l k).1->(QQ (st.length,f) l k).2 j=(Zr st ((List.range k).map l)).getD j ps0
 |0=>⟨rfl,hf⟩
 |k+1=>by
  obtain⟨h1,h2⟩:=Ju st l f hf k;have e:Zr st ((List.range (k+1)).map l)=psh (Zr st ((List.range k).map l)) (l k):=by
   unfold Zr;rw[List.range_succ,List.map_append,List.foldl_append];rfl
  rw[e];generalize Zr st ((List.range k).map l)=z at *
  simp only[QQ,psh];have ec:(decide (0<(QQ (st.length,f) l k).1)&&cnc ((QQ (st.length,f) l k).2 ((QQ (st.length,f) l k).1-1)) (l k))=(decide (0<z.length)&&cnc (z.getD (z.length-1) ps0) (l k)):=by
   by_cases c:0<z.length
   ·rw[h2 _ (by omega),h1]
   ·rw[dF c,dF (by omega)];rfl
  rw[ec];split
  ·refine⟨by simp[h1],fun j hj=>?_⟩;have hj:j<(QQ (st.length,f) l k).1-1:=hj;rw[qbR _ _ (by omega)];exact h2 j (by omega)
  ·refine⟨by simp[h1],fun j hj=>?_⟩;have hj:j<(QQ (st.length,f) l k).1+1:=hj;rw[qcn];show(if j=(QQ (st.length,f) l k).1 then l k else(QQ (st.length,f) l k).2 j)=_;rw[h1];by_cases c:j=z.length
   ·rw[if_pos c,if_pos c]
   ·rw[if_neg c,if_neg c];exact h2 j (by omega)
theorem qbl{α:Type}(l:List α)(d:α):(List.range l.length).map (fun j=>l.getD j d)=l:=by
 refine List.ext_getElem (by simp) fun i h1 h2=>?_;simp[List.getD_eq_getElem?_getD,h2]
theorem qbm(y:Yn)(l:List Pss):(z9 y.y (fun j=>l.getD j ps0) l.length).1=(Zr y.pe l).length/\∀j,j<(Zr y.pe l).length->(z9 y.y (fun j=>l.getD j ps0) l.length).2 j=(Zr y.pe l).getD j ps0:=by
 have h:=Ju y.pe (fun j=>l.getD j ps0) (fun j=>if j<y.pe.length then y.pe.getD j ps0 else ⟨0,0,false,0⟩) (fun j hj=>if_pos hj) l.length;rw[qbl] at h;exact⟨h.1,fun j hj=>h.2 j (by rw[h.1];exact hj)⟩
structure Lp.Ok(x:Lp):Prop where
 b:0<=x.b/\x.b<256
 th:∀a∈x.th,a.Ok
 ps:∀a∈x.ps,a.Ok
 nt:x.th.length<=1000
 np:x.ps.length<=10000
theorem Kj{α:Type}{P:α->Prop}{l:List α}{d:α}(hd:P d)(h:∀a∈l,P a)(j:Nat):P (l.getD j d):=by
 rw[List.getD_eq_getElem?_getD];rcases Nat.lt_or_ge j l.length with q|q
 ·rw[List.getElem?_eq_getElem q];exact h _ (List.getElem_mem q)
 ·rw[List.getElem?_eq_none q];exact hd
theorem qfr:id0.Ok:=⟨by decide,by decide⟩
theorem qkn:ps0.Ok:=⟨⟨by decide,by decide⟩,by decide⟩
theorem Lp.Ok.l{x:Lp}(h:x.Ok):x.l.Ok:=⟨h.b,fun j=>Kj qfr h.th j,fun j=>Kj qkn h.ps j,by have:=h.nt;show x.th.length<=_;omega,by have:=h.np;show x.ps.length<=_;omega⟩
theorem qko:lpz.Ok:=⟨by decide,(fun a h=>(by cases h)),(fun a h=>(by cases h)),by decide,by decide⟩
structure Ys.Ok(q:Ys):Prop where
 n:∀e,(q.tb e).length<=3000
 t:∀e,∀x∈q.tb e,x.Ok
def Ys.tt(q:Ys):Tbl:=t6 (fun e=>(q.tb e).length) (fun e j=>((q.tb e).getD j lpz).l)
theorem Ys.Ok.tt{q:Ys}(h:q.Ok):q.tt.Ok:=⟨by show 6<=_;decide,fun e=>by have:=h.n e;show(q.tb e).length<=_;omega,fun e j=>(Kj qko (h.t e) j).l⟩
def Ys.cnt(q:Ys):Nat:=(q.tb 0).length+(q.tb 1).length+(q.tb 2).length+(q.tb 3).length+(q.tb 4).length+(q.tb 5).length
theorem Ys.sum(q:Ys):q.tt.sum 6=q.cnt:=by
 unfold Ys.cnt;show 0+(q.tb 0).length+(q.tb 1).length+(q.tb 2).length+(q.tb 3).length+(q.tb 4).length+(q.tb 5).length=_;omega
section
variable (q:Ys) (row sl:T) (d:Int) (v:Nat->Nat) (rest:qk) (K:Nat)
theorem qkp(b:Int)(th:List Idd)(x:T)(hx:SimS x (idV (fun j=>th.getD j id0) th.length none))(hK:K<6)(hq:q.Ok)(hc:q.cnt<2048)
 (hy:yrE (q.Y K).y=0) (hi:(q.Y K).i=true) (h0:0<=(q.Y K).ct) (h1:(q.Y K).ct<2048) (hp:(q.Y K).pe.length<=1000000) (hnt:th.length<=1000000) :
 ToldRef P16 G16 38 [p0,yI K,uI b,x] (HS (q.sx row sl d v) rest) (.tup [.agg [uI (ofNat K+1),iI (q.Y K).ct],iI 0]) (HS ((q.loop K b th).sx row sl d (upF v K (v K+1))) rest):=by
 have t:=qlP (q.sx row sl d v) rest K b (fun j=>th.getD j id0) th.length x hx hK hq.tt (by rw[show(t6 (q.sx row sl d v).ln (q.sx row sl d v).L).sum 6=q.tt.sum 6 from rfl,q.sum];omega) hy hi h0 h1 hp hnt;rw[qfY] at t;exact t
theorem qiY(y:Yn)(place:Int)(l:List Pss):y.y.go place (fun j=>l.getD j ps0) l.length=(y.go place l).y:=by
 obtain⟨h1,h2⟩:=qbm y l;show Yrn.mk true place y.ct y.w (fun j=>if j<(z9 y.y (fun j=>l.getD j ps0) l.length).1 then(z9 y.y (fun j=>l.getD j ps0) l.length).2 j else ⟨0,0,false,0⟩) (z9 y.y (fun j=>l.getD j ps0) l.length).1=Yrn.mk true place y.ct y.w (fun j=>(Zr y.pe l).getD j ps0) (Zr y.pe l).length;rw[h1];refine congrArg (fun f=>Yrn.mk true place y.ct y.w f (Zr y.pe l).length) (funext fun j=>?_);by_cases c:j<(Zr y.pe l).length
 ·rw[if_pos c];exact h2 j c
 ·rw[if_neg c,List.getD_eq_getElem?_getD,List.getElem?_eq_none (by omega)];rfl
theorem qkq(place:Int)(l:List Pss)(x:T)(hx:SimS x (psV (fun j=>l.getD j ps0) l.length none))(hK:K<6)(hy:yrE (q.Y K).y=0)(hi:(q.Y K).i=true)(hp:qdi place=true)(hn:(q.Y K).pe.length<=100000)(hm:l.length<=100000)
 (hl:∀p∈l,Y9 p.y p.n p.d=true) (hk:(Zr (q.Y K).pe l).length<=4096) :
 ToldRef P16 G16 39 [p0,yI K,iI place,x] (HS (q.sx row sl d v) rest) (iI 0) (HS ((q.setY K ((q.Y K).go place l)).sx row sl d v) rest):=by
 have t:=qlQ (q.sx row sl d v) rest K place (fun j=>l.getD j ps0) l.length x hx hK hy hi hp hn hm (fun j hj=>hl _ (by rw[List.getD_eq_getElem?_getD,List.getElem?_eq_getElem hj];exact List.getElem_mem hj)) (by rw[show(q.sx row sl d v).Y K=(q.Y K).y from rfl,(qbm (q.Y K) l).1];exact hk);rw[show(q.sx row sl d v).Y K=(q.Y K).y from rfl,qiY,qfZ] at t;exact t
theorem qdl(hK:K<6)(hd:d=0∨d=1)(hy:yrE (q.Y K).y=0)(hi:(q.Y K).i=false)(hn:(q.Y K).pe.length<=1000000) :
 ToldRef P16 G16 37 [p0,yI K] (HS (q.sx row sl d v) rest) (iI 0) (HS ((q.setY K ((q.Y K).enter (ZW d))).sx row sl d v) rest):=by
 have t:=qeh (s:=q.sx row sl d v) (rest:=rest) hK hd hy hi hn;have e:((q.Y K).y.enter (ZW d))=((q.Y K).enter (ZW d)).y:=rfl;rw[show(q.sx row sl d v).Y K=(q.Y K).y from rfl,show(q.sx row sl d v).d=d from rfl,e,qfZ] at t;exact t
end
structure Wok where
 (sl:List Slo) (q:Ys) (cr:List Crs) (he fa:List Idd) (d:Int)
def crz:Crs:=⟨0,0,0,0,0⟩
def crL(l:List Crs):T:=crV (fun j=>l.getD j crz) l.length none
def Ys.yv(q:Ys):T:=yrV (fun e=>(q.Y e).y) 6
def Wok.cc(w:Wok)(c:Option Nat):List T:=[slV w.sl c,w.q.yv,w.q.tt.v,crL w.cr,idL w.he,idL w.fa,uI w.d]
def nm(K i:Nat):Idd:=⟨ofNat K+1,ofNat i⟩
def Za(K n:Nat):List Slo:=(List.range n).map fun i=>⟨0,[nm K i]⟩
def QM(K n:Nat):List Idd:=(List.range n).map (nm K)
def Qt(K:Nat):Nat->Ys
 |0=>(⟨fun _=>yz,fun _=>[]⟩:Ys).setY K (yz.enter 0)
 |i+1=>(Qt K i).loop K 0 []
def Zn(K n:Nat):Wok:=⟨Za K n,(Qt K n).setY K (((Qt K n).Y K).go 179 []),[],QM K n,[],0⟩
theorem Z3(K e:Nat):∀i,(Qt K i).Y e=if e=K then ⟨true,-13,(i:Int),decide (i=0),[]⟩ else yz
 |0=>by
  show upF (fun _=>yz) K (yz.enter 0) e=_;unfold upF;by_cases c:e=K
  ·rw[if_pos c,if_pos c];rfl
  ·rw[if_neg c,if_neg c]
 |i+1=>by
  show upF (Qt K i).Y K ((Qt K i).Y K).next e=_
  unfold upF;rw[Z3 K e i,Z3 K K i];by_cases c:e=K
  ·rw[if_pos c,if_pos c,if_pos rfl,Yn.next];simp
  ·rw[if_neg c,if_neg c,if_neg c]
theorem yQ(K e:Nat):∀i,(Qt K i).tb e=if e=K then(List.range i).map (fun j=>⟨0,decide (j=0),[],[]⟩) else []
 |0=>by
  show([]:List Lp)=_;split<;>rfl
 |i+1=>by
  show upF (Qt K i).tb K ((Qt K i).tb K++[((Qt K i).Y K).lp 0 []]) e=_;unfold upF;rw[yQ K e i,yQ K K i,Z3 K K i];by_cases c:e=K
  ·rw[if_pos c,if_pos c,if_pos rfl,if_pos rfl,List.range_succ,List.map_append];rfl
  ·rw[if_neg c,if_neg c,if_neg c]
theorem qhS(K i:Nat)(hi:i<=100):(Qt K i).Ok:=by
 refine⟨fun e=>?_,fun e x hx=>?_⟩
 ·rw[yQ];split
  ·simp;omega
  ·simp
 ·rw[yQ] at hx;split at hx
  ·obtain⟨j,_,rfl⟩:=List.mem_map.1 hx;exact⟨⟨Int.le_refl 0,by show(0:Int)<256;decide⟩,(fun a h=>(by cases h)),(fun a h=>(by cases h)),Nat.zero_le _,Nat.zero_le _⟩
  ·cases hx
theorem qgU{K:Nat}(hK:K<6)(i:Nat):(Qt K i).cnt=i:=by
 unfold Ys.cnt;simp only[yQ];obtain rfl|rfl|rfl|rfl|rfl|rfl:=Jt hK
 all_goals simp
theorem qei{K i:Nat}(hi:i<=100):yrE ((Qt K i).Y K).y=0:=by
 rw[Z3,if_pos rfl];unfold yrE;show(bif decide ((i:Int)<0) || decide (2048<(i:Int)) then(1:Int) else _)=0;rw[decide_eq_false (by omega),decide_eq_false (by omega)];rfl
def sC(K n i:Nat):Blk:=sB n fun e=>[uI 0,bif e.blt i then idL [nm K e] else .nils]
set_option maxHeartbeats 1000000
set_option maxRecDepth 100000
theorem qgV:ToldOk P16 G16 36 [] (.agg [.fresh false 1 6 (fun _=>[.nils]) 6 (some 6),.nils,.nils,.nils]):=by
 obtain⟨p,hp⟩:=qE P16 G16 64;exact qD qu qX (qv qa (qr hp)) (A:=A16) (m:=0) ((qod p).trans (qt (qz.2 (qH hp qee)) rfl))
theorem qhT(y n:Int)(h:y<1∨6<y∨n<1∨16<n):ToldOk P16 G16 13 [uI y,iI n] (.tup [.agg Z32,iI 1]):=by
 have pa:=Pz.run qu qa (m:=0) (p:=[1]) (A:=A16) (f:=13) (h0:=[]) (by kernel_rfl) ql (ql1 y n);refine Pz.told (A:=A16) qX Tryz.func13 (by kernel_rfl) (by kernel_rfl) (l:=[0,1]) rfl (Pz.seq (by kernel_rfl) pa (Pz.seqX (by kernel_rfl) (by simp) (Pz.run qu qa (m:=0) (by kernel_rfl) ql (l1:=[4,5]) (v1:=[.reg Z32,iI 1]) (h1:=[]) (e:=.ret) ((ql0 y n).trans ?_)))) rfl;by_cases c1:y<1
 ·exact qt (by simpa using c1) rfl
 refine qK (by simpa using c1) ?_;by_cases c2:6<y
 ·exact qt (by simpa using c2) rfl
 refine qK (by simpa using c2) ?_;by_cases c3:n<1
 ·exact qt (by simpa using c3) rfl
 exact qK (by simpa using c3) (qt (by simp;omega) rfl)
def Q0:Ys:=⟨fun _=>yz,fun _=>[]⟩
theorem qoo(y n:Int):Pz P16 G16 A16 13 [] [1,2,2,2] [0,1,4,6] [uI y,iI n,.reg Z32,.reg [.own 0 0 0 6 (some 6),.nils,.nils,.nils]] [.mk 0 1 6 (fun _=>[.nils]) false false none] .normal [0,1,4,6,7] [uI y,iI n,.reg Z32,.reg F13,p0] (HS (Q0.sx .nils .nils 1 (fun _=>0)) []):=by
 refine Pz.post (Pz.run qu qa (m:=0) (by kernel_rfl) ql (qog y n (.mk 0 1 6 (fun _=>[.nils]) false false none))) fun nt=>?_;refine .trans (WeakTo.canonS (vs':=[uI y,iI n,.reg Z32,.reg F13,p0]) (h':=[xB .nils .nils 1,.mk 0 5 6 (fun _=>[.bool false,iI 0,iI 0,.bool false,.nils]) false false none,.mk 0 1 6 (fun _=>[.nils]) false false none]) [2,1,0] rfl rfl rfl (.cons ⟨rfl,rfl,rfl,id,fun _ _=>rfl⟩ (.cons ⟨rfl,rfl,rfl,id,fun _ _=>rfl⟩ (.cons ⟨rfl,rfl,rfl,id,fun _ _=>rfl⟩ .nil)))) ?_
 refine .trans (WeakTo.gh (vs2:=[uI y,iI n,.reg Z32,.reg F13,p0]) (h2:=xB .nils .nils 1::.mk 0 5 6 (fun _=>[.bool false,iI 0,iI 0,.bool false,.nils]) false false none::tB (fun _=>0) (fun _=>0)::(List.range 6).map (rB (fun _=>0) (fun _=>0) (fun _ _=>lpz.l))) ((List.range 6).map (rB (fun _=>0) (fun _=>0) (fun _ _=>lpz.l))) (fun b hb=>by
  obtain⟨j,_,rfl⟩:=List.mem_map.1 hb;exact⟨rfl,rfl⟩) (.cons (.refl _) (.cons (.refl _) (.cons (.refl _) (.cons (.refl _) (.cons (.refl _) .nil)))))
  (.same _ (.same _ (.chg ⟨rfl,rfl,rfl,rfl⟩ rfl (fun j hj=>?_) (.refl _))))) ?_
 ·have hj:j<6:=hj;refine .cons (.own (k:=3+j) (b:=rB (fun _=>0) (fun _=>0) (fun _ _=>lpz.l) j) (by show 3<=_;omega) ?_ rfl) (.refl _);obtain rfl|rfl|rfl|rfl|rfl|rfl:=Jt hj
  all_goals rfl
 ·exact .simAll rfl (fun i a b h1 h2=>by obtain rfl:=Option.some.inj (h1.symm.trans h2);exact .refl _) (.cons ⟨rfl,rfl,rfl⟩ (fun h=>(by cases h)) (fun _ _=>.refl _) (.cons ⟨rfl,rfl,rfl⟩ (fun h=>(by cases h)) (fun e he=>.cons (.refl _) (.cons (.refl _) (.cons (.refl _) (.cons (.refl _) (.cons (.nilv _ _ (.inl rfl)) .nil))))) (.refl _)))
theorem ToldOk.tupAgg{P:Program}{Gl:Nat->Option (List T)}{f:FuncId}{args l m r:List T}(t:ToldOk P Gl f args (.tup (.agg l::r)))(h:ResToL l m):ToldOk P Gl f args (.tup (.agg m::r)) :=
 ⟨t.enters,fun w U cargs hU hgl ha=>(t.calls w U cargs hU hgl ha).mono fun e w' ⟨v,q1,q2⟩=>⟨v,q1,by
  obtain⟨h0,U',X,h1,h2,h3,h4,cs,rfl,h5⟩:=q2;refine⟨h0,U',X,h1,h2,h3,h4,cs,rfl,?_⟩;generalize cs.toList=vs at h5;cases h5 with
  |cons _ v X1 _ vs Y hx hl =>
   obtain⟨c2,rfl,e1,e2⟩:=hx;exact .cons _ _ _ _ _ _ ⟨c2,rfl,e1,h.rtl0 e2⟩ hl⟩⟩
theorem ZC(K n:Nat):(Za K n).length=n:=by simp[Za]
theorem Kk(K:Nat){n j:Nat}(h:j<n):(Za K n).getD j sl0=⟨0,[nm K j]⟩:=by
 simp[Za,List.getD_eq_getElem?_getD,h]
theorem qbn(K n:Nat):hel (Za K n)=QM K n:=by
 unfold hel Za QM;rw[List.map_map]
 induction n with
 |zero=>rfl
 |succ n ih=>rw[List.range_succ,List.map_append,List.flatten_append,ih,List.map_append];rfl
theorem qhU(K n:Nat)(H:qk)(hH:H[9]?=some (sC K n n)):Sims [Qp H (o9 n)] [slV (Za K n) (some n)]:=by
 have e:Qp H (o9 n)=(bif (sC K n n).mp.isNone&&((sC K n n).ver==0&&Nat.ble (0+n) n) then T.view 2 n (fun j=>([uI 0,bif (0+j).blt n then idL [nm K (0+j)] else .nils]:List T).map (resolve 3 [] H)) (some n) else .undef):=by
  show resolve 4 [] H (.own 9 0 0 n (some n))=_;simp only[resolve,hH];rfl
 rw[e,QC (show 0+n<=n by omega)];show Sims [T.view 2 n _ (some n)] [slV (Za K n) (some n)];unfold slV;rw[ZC];refine .cons (.view (.inl rfl) fun j hj=>?_) .nil;show Sims (([uI 0,bif (0+j).blt n then idL [nm K (0+j)] else .nils]:List T).map (resolve 3 [] H)) ((Za K n).getD j sl0).c;rw[Kk K hj,Nat.zero_add,QX hj];exact .refl _
def qbo(K n:Nat)(vv:Nat->Nat->Nat):qk:=HSt (((Qt K n).setY K (((Qt K n).Y K).go 179 [])).sx .nils .nils 1 (vv n)) (tC (((Qt K n).setY K (((Qt K n).Y K).go 179 [])).sx .nils .nils 1 (vv n)).ln (((Qt K n).setY K (((Qt K n).Y K).go 179 [])).sx .nils .nils 1 (vv n)).v 6) [sC K n n]
theorem ql3{K n:Nat}(hK:K<6)(h1:1<=n)(h16:n<=16):ToldOk P16 G16 13 [yI K,iI (ofNat n)] (.tup [.agg ((Zn K n).cc (some n)),iI 0]):=by
 obtain⟨p,hp⟩:=qE P16 G16 36;obtain⟨u,hu⟩:=Yi P16 G16 37;obtain⟨r,hr⟩:=Yi P16 G16 38;obtain⟨m,hm⟩:=Yi P16 G16 39;obtain⟨w,hw⟩:=Yi P16 G16 40
 let y:Int:=ofNat K+1
 let Qf:=(Qt K n).setY K (((Qt K n).Y K).go 179 [])
 let vv:Nat->Nat->Nat:=fun i e=>if e=K then i else 0
 have vv1:∀i,upF (vv i) K (vv i K+1)=vv (i+1):=fun i=>funext fun e=>by
  show(if e=K then(if K=K then i else 0)+1 else if e=K then i else 0)=if e=K then i+1 else 0;by_cases c:e=K
  ·rw[if_pos c,if_pos c,if_pos rfl]
  ·rw[if_neg c,if_neg c,if_neg c]
 have v0:(fun _=>0:Nat->Nat)=vv 0:=funext fun e=>by show 0=if e=K then 0 else 0;split<;>rfl
 have pa:=Pz.run qu qa (m:=0) (p:=[1]) (A:=A16) (f:=13) (h0:=[]) (by kernel_rfl) ql (ql1 y (ofNat n));have pb:=Pz.run qu qa (m:=0) (p:=[1,2]) (A:=A16) (f:=13) (h0:=[]) (by kernel_rfl) ql ((qoe y (ofNat n)).trans (qK (by simp[y];omega) (qK (by simp[y];omega) (qK (by simp;omega) (qK (by simp;omega) rfl)))));have pc:=Pz.run qu (qv qa (qr hp)) (m:=0) (p:=[1,2,2]) (A:=A16) (f:=13) (h0:=[]) (by kernel_rfl) ql ((qof p y (ofNat n)).trans (qt (qz.2 (qH hp qgV)) rfl));have pd:=qoo y (ofNat n);have tb:=qdl Q0 .nils .nils 1 (fun _=>0) [] K hK (.inr rfl) (by rfl) rfl (Nat.zero_le _);rw[show(Q0.setY K ((Q0.Y K).enter (ZW 1)))=Qt K 0 from rfl,v0] at tb;rw[v0] at pd;have pe:=Pz.run qu (Qg qa (QZ hu)) (m:=0) (p:=[1,1,2,2,2,2]) (A:=A16) (f:=13) (h0:=[]) (by kernel_rfl) ql ((qoi u (HS ((Qt K 0).sx .nils .nils 1 (vv 0)) []) (HS (Q0.sx .nils .nils 1 (vv 0)) []) y (ofNat n)).trans (qt (zi hu tb) rfl));have pf:=Pz.run qu qa (m:=0) (p:=[2,1,2,2,2,2]) (A:=A16) (f:=13) (h0:=[]) (by kernel_rfl) ql (qoj (HS ((Qt K 0).sx .nils .nils 1 (vv 0)) []) y (ofNat n));have pg:=Pz.post (Pz.run qu qa (m:=0) (p:=[1,2,2,2,2,2]) (A:=A16) (f:=13) (h0:=[]) (by kernel_rfl) ql ((qoh ((Qt K 0).sx .nils .nils 1 (vv 0)) y n).trans (qt (by simp;omega) rfl))) (v2:=[uI y,.reg Z32,.reg F13,p0,o9 n]) (h2:=HS ((Qt K 0).sx .nils .nils 1 (vv 0)) [sC K n 0]) fun nt =>
  .same (.cons ⟨rfl,rfl,rfl,id,fun _ _=>rfl⟩ (.cons ⟨rfl,rfl,rfl,id,fun _ _=>rfl⟩ (.cons ⟨rfl,rfl,rfl,id,fun _ _=>rfl⟩ (.cons ⟨rfl,rfl,rfl,id,fun _ _=>rfl⟩ (.cons ⟨rfl,rfl,rfl,id,fun _ _=>rfl⟩ (.cons ⟨rfl,rfl,rfl,id,fun _ _=>rfl⟩ (.cons ⟨rfl,rfl,rfl,id,fun _ _=>rfl⟩ (.cons ⟨rfl,rfl,rfl,id,fun _ _=>rfl⟩ (.cons ⟨rfl,rfl,rfl,id,fun _ _=>rfl⟩ (.cons ⟨rfl,rfl,rfl,id,fun e _=>by
   show [uI 0,bif e.blt 0 then idL [nm K e] else .nils]=[uI 0,.nils];rw[qad (Nat.zero_le _)];rfl⟩ .nil))))))))))
 have ph:=Pz.run qu qa (m:=0) (p:=[1,1,2,2,2,2,2,2]) (A:=A16) (f:=13) (h0:=[]) (by kernel_rfl) ql (qok ((Qt K 0).sx .nils .nils 1 (vv 0)) y n (fun e=>[uI 0,bif e.blt 0 then idL [nm K e] else .nils]));have pl:=Pz.count (P:=P16) (G:=G16) (A:=A16) (f:=13) (h0:=[]) (p:=[0,2,1,2,2,2,2,2,2]) (l:=[0,4,6,7,9,45,46]) (e:=.exit 0) (by kernel_rfl) (fun i=>[uI y,.reg Z32,.reg F13,p0,o9 n,iI (ofNat n),iI (ofNat i)]) (fun i=>HS ((Qt K i).sx .nils .nils 1 (vv i)) [sC K n i]) (n:=n) (by simp) (fun i hi=>by
  have eY:=Z3 K K i;rw[if_pos rfl] at eY;have t:=qkp (Qt K i) .nils .nils 1 (vv i) [sC K n i] K 0 [] .nils (.nilv _ _ (.inl rfl)) hK (qhS K i (by omega)) (by rw[qgU hK];omega) (qei (by omega)) (by rw[eY]) (by rw[eY];show(0:Int)<=i;omega) (by rw[eY];show(i:Int)<2048;omega) (by rw[eY];exact Nat.zero_le _) (Nat.zero_le _);rw[vv1,eY] at t;have qi:=ql2 r ((Qt K i).sx .nils .nils 1 (vv i)) y n i (fun e=>[uI 0,bif e.blt i then idL [nm K e] else .nils]) ((Qt K (i+1)).sx .nils .nils 1 (vv (i+1)));rw[up1 (by omega)] at qi;refine Pz.post (Pz.run qu (Qg (Qg qa (QZ hr)) (fun _ _ _ _ h=>(by cases h))) (m:=0) (by kernel_rfl) ql (qi.trans (qt (by simpa using hi) (qt (zi hr t) (qt (inR hi) (qt (by rw[QX (by omega)];rfl) rfl)))))) fun nt=>?_;refine .simAll rfl (fun i a b h1 h2=>by obtain rfl:=Option.some.inj (h1.symm.trans h2);exact .refl _) (.cons ⟨rfl,rfl,rfl⟩ (fun h=>(by cases h)) (fun _ _=>.refl _) (.cons ⟨rfl,rfl,rfl⟩ (fun h=>(by cases h)) (fun _ _=>.refl _) (.cons ⟨rfl,rfl,rfl⟩ (fun h=>(by cases h)) (fun _ _=>.refl _) (.cons ⟨rfl,rfl,rfl⟩ (fun h=>(by cases h)) (fun _ _=>.refl _) (.cons ⟨rfl,rfl,rfl⟩ (fun h=>(by cases h)) (fun _ _=>.refl _) (.cons ⟨rfl,rfl,rfl⟩ (fun h=>(by cases h)) (fun _ _=>.refl _) (.cons ⟨rfl,rfl,rfl⟩ (fun h=>(by cases h)) (fun _ _=>.refl _) (.cons ⟨rfl,rfl,rfl⟩ (fun h=>(by cases h)) (fun _ _=>.refl _) (.cons ⟨rfl,rfl,rfl⟩ (fun h=>(by cases h)) (fun _ _=>.refl _) (.cons ⟨rfl,rfl,rfl⟩ (fun h=>(by cases h)) (fun e he=>?_) .nil))))))))));show SimL (Zd (e==0+i) [uI 0,.view 2 1 (fun j=>[[uI y,iI (ofNat i)]].getD j []) (some 1)] [uI 0,bif e.blt i then idL [nm K e] else .nils]) [uI 0,bif e.blt (i+1) then idL [nm K e] else .nils];rw[z2,Nat.zero_add];by_cases c:e=i
  ·subst c;rw[beq_self_eq_true,cond_true,QX (by omega),cond_true];refine .cons (.refl _) (.cons (.view (.inr rfl) fun j hj=>?_) .nil);have hj:j<1:=hj;obtain rfl:j=0:=by omega
   exact .refl _
  ·rw[show(e==i)=false by simpa using c,cond_false];rcases Nat.lt_or_ge e i with z|z
   ·rw[QX z,QX (by omega)];exact .refl _
   ·rw[qad z,qad (by omega)];exact .refl _)
  (Pz.only (Pz.run qu (Qg (Qg qa (QZ hr)) (fun _ _ _ _ h=>(by cases h))) (m:=0) (by kernel_rfl) ql ((ql2 r ((Qt K n).sx .nils .nils 1 (vv n)) y n n (fun e=>[uI 0,bif e.blt n then idL [nm K e] else .nils]) ((Qt K n).sx .nils .nils 1 (vv n))).trans (qK (by simp) rfl))) (l2:=[0,4,6,7,9]) rfl)
 have eY:=Z3 K K n;rw[if_pos rfl] at eY;have tm:=qkq (Qt K n) .nils .nils 1 (vv n) [sC K n n] K 179 [] .nils (.nilv _ _ (.inl rfl)) hK (qei (by omega)) (by rw[eY]) (by decide) (by rw[eY];exact Nat.zero_le _) (Nat.zero_le _) (fun _ h=>(by cases h)) (by rw[eY];exact Nat.zero_le _);have pj:=Pz.run qu (Qg qa (QZ hm)) (m:=0) (p:=[1,1,2,2,2,2,2,2,2]) (A:=A16) (f:=13) (h0:=[]) (by kernel_rfl) ql ((qom m (HS (Qf.sx .nils .nils 1 (vv n)) [sC K n n]) (HS ((Qt K n).sx .nils .nils 1 (vv n)) [sC K n n]) y n).trans (qt (zi hm tm) rfl));have pk:=Pz.run qu qa (m:=0) (p:=[2,1,2,2,2,2,2,2,2]) (A:=A16) (f:=13) (h0:=[]) (by kernel_rfl) ql (qon (HS (Qf.sx .nils .nils 1 (vv n)) [sC K n n]) n);have hhel:=qbn K n;have hlen:(QM K n).length=n:=by simp[QM]
 have th:=(qkj (Za K n) (some n) (by rw[ZC];omega) (by rw[hhel,hlen];omega)).frz;rw[hhel,hlen] at th;have th2:=th.sim (qhU K n (HSt (Qf.sx .nils .nils 1 (vv n)) (tC (Qf.sx .nils .nils 1 (vv n)).ln (Qf.sx .nils .nils 1 (vv n)).v 6) [sC K n n]) rfl);have tw:=qkm (s:=Qf.sx .nils .nils 1 (vv n)) (rest:=[sC K n n]) (i:=9) (v:=0) (n:=n) (c:=some n) (z:=fun j=>(QM K n).getD j id0) (n':=n) th2 (.own 2 0 0 6 (some 6)) .nils .nils .nils;have pl2:=Pz.run qu (Qg qa (QZ hw)) (m:=0) (p:=[2,2,2,2,2,2,2,2]) (A:=A16) (f:=13) (h0:=[]) (by kernel_rfl) ql ((qol w (HSt (Qf.sx .nils .nils 1 (vv n)) (tC (Qf.sx .nils .nils 1 (vv n)).ln (Qf.sx .nils .nils 1 (vv n)).v 6) [sC K n n]) (HS (Qf.sx .nils .nils 1 (vv n)) [sC K n n]) n n (fun j=>(QM K n).getD j id0) (ZW 1)).trans (qt (zi hw tw) rfl));have all:=Pz.seq (by kernel_rfl) pa (Pz.seq (by kernel_rfl) pb (Pz.seq (by kernel_rfl) pc (Pz.seq (by kernel_rfl) pd (Pz.seq (by kernel_rfl) (Pz.seq (by kernel_rfl) pe pf) (Pz.seq (by kernel_rfl) pg (Pz.seq (by kernel_rfl) (Pz.seq (by kernel_rfl) ph (Pz.blk (id:=0) (e:=.exit 0) (p:=[2,1,2,2,2,2,2,2]) (by kernel_rfl) rfl pl)) (Pz.seq (by kernel_rfl) (Pz.seq (by kernel_rfl) pj pk) pl2)))))))
 have t:=Pz.told (A:=A16) qX Tryz.func13 (by kernel_rfl) (by kernel_rfl) (l:=[0,1]) rfl all (r:=.tup [.agg [bif (true&&(true&&Nat.ble (0+n) n)) then .fresh false 2 (n-0) (fun j=>([uI 0,bif (0+j).blt n then idL [nm K (0+j)] else .nils]:List T).map (resolve 3 [9,1,2] (qbo K n vv))) n (some n) else .undef,
  .fresh false 5 6 (fun j=>((Qf.Y (0+j)).y.c).map (resolve 3 [9,1,2] (qbo K n vv))) 6 (some 6),.fresh false 1 6 (fun j=>[resolve 3 [9,1,2] (qbo K n vv) (.own (3+(0+j)) (vv n (0+j)) 0 (Qf.tb (0+j)).length (bif (0+j).blt 6 then some (Qf.tb (0+j)).length else none))]) 6 (some 6),
  .nils,idV (fun j=>(QM K n).getD j id0) n (some n),.nils,uI 0],iI 0]) rfl
 rw[QC (show 0+n<=n by omega)] at t;have t2:=t.frz;refine t2.tupAgg (.cons (.view ?_) (.cons (.view ?_) (.cons (.view ?_) (.cons (.nilv _ _ _ (.inl rfl)) (.cons (.view ?_) (.cons (.nilv _ _ _ (.inl rfl)) (.cons (.refl _) .nil)))))))
 ·show Sim (.view 2 n _ (some n)) (slV (Za K n) (some n));unfold slV;rw[ZC];refine .view (.inl rfl) fun j hj=>?_;rw[Kk K hj,Nat.zero_add,QX hj];exact .refl _
 ·refine .view (.inr rfl) fun j hj=>?_;rw[Nat.zero_add];exact .refl _
 ·refine .view (.inr rfl) fun j hj=>?_;rw[Nat.zero_add,QX hj];show Sims [resolve 3 [9,1,2] (qbo K n vv) (.own (3+j) (vv n j) 0 (Qf.tb j).length (some (Qf.tb j).length))] [lpV (fun i=>((Qf.tb j).getD i lpz).l) (Qf.tb j).length none];have hb:(qbo K n vv)[3+j]?=some (rB (fun e=>(Qf.tb e).length) (vv n) (fun e j=>((Qf.tb e).getD j lpz).l) j)/\([9,1,2]:List Nat).contains (3+j)=false:=by
   obtain rfl|rfl|rfl|rfl|rfl|rfl:=Jt hj
   all_goals exact⟨rfl,rfl⟩
  have e1:resolve 3 [9,1,2] (qbo K n vv) (.own (3+j) (vv n j) 0 (Qf.tb j).length (some (Qf.tb j).length))=(bif (true&&(vv n j==vv n j&&Nat.ble (0+(Qf.tb j).length) (Qf.tb j).length)) then T.view 4 (Qf.tb j).length (fun i=>(((Qf.tb j).getD (0+i) lpz).l.c).map (resolve 2 [9,1,2] (qbo K n vv))) (some (Qf.tb j).length) else .undef):=by
   simp only[resolve,hb.1,hb.2];rfl
  rw[e1,beq_self_eq_true,QC (show 0+(Qf.tb j).length<=(Qf.tb j).length by omega)];refine .cons (.view (.inr rfl) fun i hi=>?_) .nil;rw[Nat.zero_add];exact .refl _
 ·show Sim (idV (fun j=>(QM K n).getD j id0) n (some n)) (idL (QM K n));unfold idL;rw[hlen];exact .view (.inr rfl) fun _ _=>.refl _
structure Wx where
 (sl cr he fa:T) (d:Int)
def wB(x:Wx):Blk:=⟨0,7,1,fun _=>[x.sl,.own 1 0 0 6 (some 6),.own 2 0 0 6 (some 6),x.cr,x.he,x.fa,uI x.d],false,false,none⟩
def HWx(x:Wx)(Y:Blk)(t:Blk)(ln v:Nat->Nat)(L:Nat->Nat->Lpp)(rest:qk):qk:=wB x::Y::t::rB ln v L 0::rB ln v L 1::rB ln v L 2::rB ln v L 3::rB ln v L 4::rB ln v L 5::rest
def HW(x:Wx)(Y:Nat->Yrn)(ln v:Nat->Nat)(L:Nat->Nat->Lpp)(rest:qk):qk:=HWx x (yB Y) (tB ln v) ln v L rest
def HWg(x:Wx)(Y:Nat->Yrn)(ln v:Nat->Nat)(L:Nat->Nat->Lpp)(t:Blk)(K:Nat)(b:Blk)(rest:qk):qk:=wB x::yB Y::t::rM6 ln v L K b 0::rM6 ln v L K b 1::rM6 ln v L K b 2::rM6 ln v L K b 3::rM6 ln v L K b 4::rM6 ln v L K b 5::rest
def yK(K:Nat):T:=iI (ofNat K+1)
def yD(K:Nat):Int:=i64.wrap (ofNat K+1-1)
def yP(K:Nat):T:=.ptr 1 0 K 0
def rid(K:Nat)(ct:Int):T:=.reg [uI (u8.wrap (ofNat K+1)),iI ct]
def lc0(b:Int)(w:Bool):List T:=[uI b,.bool w,.view 2 0 (fun j=>([]:List (List T)).getD j []) (some 0),.view 4 0 (fun j=>([]:List (List T)).getD j []) (some 0)]
section
variable (x:Wx) (Y:Nat->Yrn) (ln v:Nat->Nat) (L:Nat->Nat->Lpp) (rest H:qk) (K:Nat) (b:Int) (th:T) (ct:Int)
theorem qop:qw P16 G16 A16 qp 0 48 [] (nav [1]) [0,1,2,3] [p0,yK K,uI b,th] (HW x Y ln v L rest) [0,1,2,3,8]=some (.normal,[p0,yK K,uI b,th,rz],HW x Y ln v L rest):=by kernel_rfl
theorem qoq:qw P16 G16 A16 qp 0 48 [] (nav [1,2]) [0,1,2,3,8] [p0,yK K,uI b,th,rz] (HW x Y ln v L rest) [0,1,2,3,8,9] =
 (bif decide (0<=yD K)&&decide (yD K<6) then some (.normal,[p0,yK K,uI b,th,rz,.ptr 1 0 (0+(yD K).toNat) 0],HW x Y ln v L rest) else none):=by kernel_rfl
theorem qor:qw P16 G16 A16 qp 0 48 [] (nav [1,2,2]) [0,1,2,3,8,9] [p0,yK K,uI b,th,rz,yP K] (HW x Y ln v L rest) [0,1,2,3,8,9,10] =
 (bif K.blt 6 then some (.normal,[p0,yK K,uI b,th,rz,yP K,rid K (Y K).ct],HW x Y ln v L rest) else none):=by kernel_rfl
theorem qos(hK:K<6)(pe:Nat->Pss)(i:Bool)(pl:Int)(w:Bool)(Y0:Nat->Yrn):qw P16 G16 A16 (KG qp) 0 48 [] (nav [1,2,2,2]) [0,1,2,3,8,9,10] [p0,yK K,uI b,.nils,rz,yP K,rid K ct] (HW x (upF Y0 K ⟨i,pl,ct,w,pe,0⟩) ln v L rest) [8,9,10] =
 (bif w then(bif v K==v K&&true then bif (0+ln K).ble (ln K) then bif ((ln K+1)*57).ble 70368744177664 then bif (0+ln K+1).ble (ln K) then some (.normal,[rz,yP K,rid K ct],HWg x (upF Y0 K ⟨i,pl,ct,w,pe,0⟩) ln v L (tK6 ln v K (v K)) K (rN6 ln v L K (lc0 b true)) rest) else
  some (.normal,[rz,yP K,rid K ct],HWg x (upF Y0 K ⟨i,pl,ct,w,pe,0⟩) ln v L (tK6 ln v K (v K+1)) K (rK6 ln v L K (lc0 b true)) rest) else none else none else none)
  else(bif v K==v K&&true then bif (0+ln K).ble (ln K) then bif ((ln K+1)*57).ble 70368744177664 then bif (0+ln K+1).ble (ln K) then some (.normal,[rz,yP K,rid K ct],HWg x (upF Y0 K ⟨i,pl,ct,w,pe,0⟩) ln v L (tK6 ln v K (v K)) K (rN6 ln v L K (lc0 b false)) rest) else
   some (.normal,[rz,yP K,rid K ct],HWg x (upF Y0 K ⟨i,pl,ct,w,pe,0⟩) ln v L (tK6 ln v K (v K+1)) K (rK6 ln v L K (lc0 b false)) rest) else none else none else none)):=by
 obtain rfl|rfl|rfl|rfl|rfl|rfl:=Jt hK
 all_goals kernel_rfl
theorem qot:qw P16 G16 A16 qp 0 48 [] (nav [1,2,2,2,2]) [8,9,10] [rz,yP K,rid K ct] (HW x Y ln v L rest) [8,9,10] =
 (bif K.blt 6 then bif K.blt 6&&true&&true&&true then some (.normal,[rz,yP K,rid K ct],HWx x (yG Y K [.bool (Y K).i,iI (Y K).pl,iI (i64.wrap ((Y K).ct+1)),.bool (Y K).w,psV (Y K).pe (Y K).np none]) (tB ln v) ln v L rest) else none else none):=by kernel_rfl
theorem qou:qw P16 G16 A16 qp 0 48 [] (nav [1,2,2,2,2,2]) [8,9,10] [rz,yP K,rid K ct] (HW x Y ln v L rest) [8,9,10] =
 (bif K.blt 6&&true&&true&&true then some (.normal,[rz,yP K,rid K ct],HWx x (yG Y K [.bool (Y K).i,iI (Y K).pl,iI (Y K).ct,.bool false,psV (Y K).pe (Y K).np none]) (tB ln v) ln v L rest) else none):=by kernel_rfl
theorem qov:qw P16 G16 A16 qp 0 48 [] (nav [1,2,2,2,2,2,2]) [8,9,10] [rz,yP K,rid K ct] (HW x Y ln v L rest) [8,10] =
 (bif K.blt 6&&true&&true&&true then some (.normal,[rz,rid K ct],HWx x (yG Y K [.bool (Y K).i,iI (Y K).pl,iI (Y K).ct,.bool (Y K).w,.nils]) (tB ln v) ln v L rest) else none):=by kernel_rfl
theorem qow:qw P16 G16 A16 qp 0 48 [] (nav [2,2,2,2,2,2,2]) [8,10] [rz,rid K ct] H [8]=some (.ret,[rid K ct],H):=by kernel_rfl
end
def Ys.hw(q:Ys)(x:Wx)(v:Nat->Nat)(rest:qk):qk:=HW x (fun e=>(q.Y e).y) (fun e=>(q.tb e).length) v (fun e j=>((q.tb e).getD j lpz).l) rest
theorem qap{x:Wx}{Y:Nat->Yrn}{ln v:Nat->Nat}{L:Nat->Nat->Lpp}{rest:qk}{K:Nat}{c:List T}{y:Yrn}(hc:SimL c y.c){prom:List Nat}{nt k:Nat}{l:List Nat}{vs:List T}:WeakTo G16 prom nt l k vs (HWx x (yG Y K c) (tB ln v) ln v L rest) vs (HW x (upF Y K y) ln v L rest):=by
 refine .simAll rfl (fun i a b h1 h2=>by obtain rfl:=Option.some.inj (h1.symm.trans h2);exact .refl _) (.cons ⟨rfl,rfl,rfl⟩ (fun h=>(by cases h)) (fun _ _=>.refl _) (.cons ⟨rfl,rfl,rfl⟩ (fun h=>(by cases h)) (fun e he=>?_) (.refl _)));show SimL (Zd (e==K) c (Y e).c) (upF Y K y e).c;rw[z2];unfold upF;by_cases q:e=K
 ·rw[if_pos q,show(e==K)=true by simpa using q];exact hc
 ·rw[if_neg q,show(e==K)=false by simpa using q];exact .refl _
theorem qgW{x:Wx}{Y:Nat->Yrn}{ln v:Nat->Nat}{L:Nat->Nat->Lpp}{rest:qk}{K:Nat}{c:List T}{z:Lpp}(hc:SimL c z.c){prom:List Nat}{nt k:Nat}{l:List Nat}{vs:List T} :
 WeakTo G16 prom nt l k vs (HWg x Y ln v L (tK6 ln v K (v K+1)) K (rK6 ln v L K c) rest) vs (HW x Y (upF ln K (ln K+1)) (upF v K (v K+1)) (upL L K (ln K) z) rest):=by
 have key:∀e,(rB (upF ln K (ln K+1)) (upF v K (v K+1)) (upL L K (ln K) z) e).mp=(rM6 ln v L K (rK6 ln v L K c) e).mp ∧
  (rB (upF ln K (ln K+1)) (upF v K (v K+1)) (upL L K (ln K) z) e).ver=(rM6 ln v L K (rK6 ln v L K c) e).ver ∧
  (rB (upF ln K (ln K+1)) (upF v K (v K+1)) (upL L K (ln K) z) e).sz=(rM6 ln v L K (rK6 ln v L K c) e).sz ∧
  (rB (upF ln K (ln K+1)) (upF v K (v K+1)) (upL L K (ln K) z) e).n=(rM6 ln v L K (rK6 ln v L K c) e).n ∧
  ∀j,j<(rM6 ln v L K (rK6 ln v L K c) e).n->SimL ((rM6 ln v L K (rK6 ln v L K c) e).get j) ((rB (upF ln K (ln K+1)) (upF v K (v K+1)) (upL L K (ln K) z) e).get j):=by
  intro e;unfold rM6;by_cases d:e=K
  ·subst d;rw[beq_self_eq_true,cond_true];refine⟨rfl,if_pos rfl,rfl,if_pos rfl,fun j hj=>?_⟩;have hj:j<ln e+1:=hj;show SimL (bif j.blt (ln e) then(L e (0+j)).c else [c].getD (j-ln e) []) (upL L e (ln e) z e j).c;unfold upL;by_cases q:j=ln e
   ·subst q;rw[if_pos ⟨rfl,rfl⟩,qad (Nat.le_refl _),Nat.sub_self];exact hc
   ·rw[if_neg (fun h=>q h.2),QX (by omega),Nat.zero_add];exact .refl _
  ·rw[show(e==K)=false by simpa using d,cond_false];refine⟨rfl,if_neg d,rfl,if_neg d,fun j hj=>?_⟩;show SimL (L e j).c (upL L K (ln K) z e j).c;unfold upL;rw[if_neg (fun h=>d h.1)];exact .refl _
 have step:∀e,∀{h h2:qk},SimBlks h h2->SimBlks (rM6 ln v L K (rK6 ln v L K c) e::h) (rB (upF ln K (ln K+1)) (upF v K (v K+1)) (upL L K (ln K) z) e::h2):=fun e _ _ hs=>by
  obtain⟨k1,k2,k3,k4,k5⟩:=key e;exact .cons ⟨k2,k3,k4⟩ (fun h=>(by cases h)) k5 hs k1
 refine .simAll rfl (fun i a b h1 h2=>by obtain rfl:=Option.some.inj (h1.symm.trans h2);exact .refl _) (.cons ⟨rfl,rfl,rfl⟩ (fun h=>(by cases h)) (fun _ _=>.refl _) (.cons ⟨rfl,rfl,rfl⟩ (fun h=>(by cases h)) (fun _ _=>.refl _) (.cons ⟨rfl,rfl,rfl⟩ (fun h=>(by cases h)) (fun e he=>?_)
  (step 0 (step 1 (step 2 (step 3 (step 4 (step 5 (.refl _))))))))))
 show SimL [bif e==K then T.own (3+K) (v K+1) 0 (ln K+1) none else .own (3+e) (v e) 0 (ln e) none] [T.own (3+e) (upF v K (v K+1) e) 0 (upF ln K (ln K+1) e) none];unfold upF;by_cases d:e=K
 ·rw[if_pos d,if_pos d,show(e==K)=true by simpa using d,d];exact .refl _
 ·rw[if_neg d,if_neg d,show(e==K)=false by simpa using d];exact .refl _
theorem qiZ(q:Ys)(x:Wx)(v:Nat->Nat)(rest:qk)(K:Nat)(b:Int)(th:List Idd) :
 HW x (upF (fun e=>(q.Y e).y) K (q.Y K).next.y) (upF (fun e=>(q.tb e).length) K ((q.tb K).length+1)) (upF v K (v K+1)) (upL (fun e j=>((q.tb e).getD j lpz).l) K (q.tb K).length ((q.Y K).lp b th).l) rest=(q.loop K b th).hw x (upF v K (v K+1)) rest:=by
 have h:=qfY q .nils .nils 0 v K b th;have h1:=congrArg Sx.Y h;have h2:=congrArg Sx.ln h;have h3:=congrArg Sx.L h;show HW x (((q.sx .nils .nils 0 v).loop K b (fun j=>th.getD j id0) th.length).Y) (((q.sx .nils .nils 0 v).loop K b (fun j=>th.getD j id0) th.length).ln) (upF v K (v K+1)) (((q.sx .nils .nils 0 v).loop K b (fun j=>th.getD j id0) th.length).L) rest=_;rw[h1,h2,h3];rfl
set_option maxHeartbeats 1000000
set_option maxRecDepth 100000
theorem qkr(q:Ys)(x:Wx)(v:Nat->Nat)(rest:qk)(K:Nat)(b:Int)(hK:K<6)(hp:(q.Y K).pe=[])(hi:(q.Y K).i=true)(h0:0<=(q.Y K).ct)(h1:(q.Y K).ct<1000000)(hn:(q.tb K).length<=1000000) :
 ToldRef P16 G16 48 [p0,yK K,uI b,.nils] (q.hw x v rest) (.agg [uI (ofNat K+1),iI (q.Y K).ct]) ((q.loop K b []).hw x (upF v K (v K+1)) rest):=by
 have hD:yD K=ofNat K:=by
  unfold yD;rw[show ofNat K+1-1=ofNat K by omega,Y8 (by simp only[Int.ofNat_eq_natCast];omega) (by simp only[Int.ofNat_eq_natCast];omega)]
 have h8:u8.wrap (ofNat K+1)=ofNat K+1:=wr8 (by simp only[Int.ofNat_eq_natCast];omega) (by simp only[Int.ofNat_eq_natCast];omega)
 let Y:Nat->Yrn:=fun e=>(q.Y e).y
 let ln:Nat->Nat:=fun e=>(q.tb e).length
 let L:Nat->Nat->Lpp:=fun e j=>((q.tb e).getD j lpz).l
 have eY:upF Y K ⟨(q.Y K).i,(q.Y K).pl,(q.Y K).ct,(q.Y K).w,fun j=>([]:List Pss).getD j ps0,0⟩ = Y:=funext fun e=>by
  show(if e=K then _ else Y e)=Y e;by_cases c:e=K
  ·subst c;rw[if_pos rfl];show _=(q.Y e).y;unfold Yn.y;rw[hp];rfl
  ·rw[if_neg c]
 have pa:=Pz.run qu qa (m:=0) (p:=[1]) (A:=A16) (f:=48) (h0:=q.hw x v rest) (by kernel_rfl) ql (qop x Y ln v L rest K b .nils);have qb:=qoq x Y ln v L rest K b .nils;rw[hD,show 0+(ofNat K).toNat=K by simp] at qb;have pb:=Pz.run qu qa (m:=0) (p:=[1,2]) (A:=A16) (f:=48) (h0:=q.hw x v rest) (by kernel_rfl) ql (qb.trans (qt (inR hK) rfl));have pc:=Pz.run qu qa (m:=0) (p:=[1,2,2]) (A:=A16) (f:=48) (h0:=q.hw x v rest) (by kernel_rfl) ql ((qor x Y ln v L rest K b .nils).trans (qt (QX hK) rfl));have qd:qw P16 G16 A16 (KG qp) 0 48 [] (nav [1,2,2,2]) [0,1,2,3,8,9,10] [p0,yK K,uI b,.nils,rz,yP K,rid K (q.Y K).ct] (HW x Y ln v L rest) [8,9,10]=some (.normal,[rz,yP K,rid K (q.Y K).ct],HWg x Y ln v L (tK6 ln v K (v K+1)) K (rK6 ln v L K (lc0 b (q.Y K).w)) rest):=by
  have z:=qos x ln v L rest K b (q.Y K).ct hK (fun j=>([]:List Pss).getD j ps0) (q.Y K).i (q.Y K).pl (q.Y K).w Y;rw[eY] at z;have hl:ln K<=1000000:=hn;refine z.trans ?_;have fin:∀w,(bif v K==v K&&true then bif (0+ln K).ble (ln K) then bif ((ln K+1)*57).ble 70368744177664 then bif (0+ln K+1).ble (ln K) then some (Ex.normal,[rz,yP K,rid K (q.Y K).ct],HWg x Y ln v L (tK6 ln v K (v K)) K (rN6 ln v L K (lc0 b w)) rest) else
   some (.normal,[rz,yP K,rid K (q.Y K).ct],HWg x Y ln v L (tK6 ln v K (v K+1)) K (rK6 ln v L K (lc0 b w)) rest) else none else none else none)=some (Ex.normal,[rz,yP K,rid K (q.Y K).ct],HWg x Y ln v L (tK6 ln v K (v K+1)) K (rK6 ln v L K (lc0 b w)) rest):=fun w =>
   qt (by simp) (qt (QC (by omega)) (qt (QC (by omega)) (qK (by rw[qd3 (by omega)];simp) rfl)))
  cases hw:(q.Y K).w with
  |true=>exact qt rfl (fin true)
  |false=>exact qK (by simp) (fin false)
 have pd:=Pz.post (Pz.run qu (Qg qa (fun _ _ _ _ h=>(by cases h))) (m:=0) (p:=[1,2,2,2]) (A:=A16) (f:=48) (h0:=q.hw x v rest) (by kernel_rfl) ql qd) (v2:=[rz,yP K,rid K (q.Y K).ct]) (h2:=HW x Y (upF ln K (ln K+1)) (upF v K (v K+1)) (upL L K (ln K) ((q.Y K).lp b []).l) rest) fun nt =>
  qgW (c:=lc0 b (q.Y K).w) (z:=((q.Y K).lp b []).l) (.cons (.refl _) (.cons (.refl _) (.cons (.view (.inr rfl) fun j hj=>absurd hj (Nat.not_lt_zero j)) (.cons (by
   show SimI (.view 4 0 _ (some 0)) (psV (fun j=>(q.Y K).pe.getD j ps0) (q.Y K).pe.length none);rw[hp];exact .view (.inr rfl) fun j hj=>absurd hj (Nat.not_lt_zero j)) .nil))))
 have key:∀(Y1:Nat->Yrn) (ln2:Nat->Nat) (L2:Nat->Nat->Lpp) (v2:Nat->Nat),(Y1 K).i=true->(Y1 K).ct=(q.Y K).ct->(Y1 K).pl=(q.Y K).pl →
  Pz P16 G16 A16 48 (q.hw x v rest) [2,2,2,2] [8,9,10] [rz,yP K,rid K (q.Y K).ct] (HW x Y1 ln2 v2 L2 rest) .ret [8] [rid K (q.Y K).ct] (HW x (upF Y1 K (q.Y K).next.y) ln2 v2 L2 rest):=by
  intro Y1 ln2 L2 v2 y1 y2 y3;have e1:i64.wrap ((Y1 K).ct+1)=(q.Y K).ct+1:=by rw[y2];exact Y8 (by omega) (by omega)
  have qe:=qot x Y1 ln2 v2 L2 rest K (q.Y K).ct;rw[e1] at qe;have pe:=Pz.post (Pz.run qu qa (m:=0) (p:=[1,2,2,2,2]) (A:=A16) (f:=48) (h0:=q.hw x v rest) (by kernel_rfl) ql (qe.trans (qt (QX hK) (qt (by rw[QX hK];rfl) rfl)))) (v2:=[rz,yP K,rid K (q.Y K).ct]) (h2:=HW x (upF Y1 K ⟨true,(q.Y K).pl,(q.Y K).ct+1,(Y1 K).w,(Y1 K).pe,(Y1 K).np⟩) ln2 v2 L2 rest) fun nt=>qap (by rw[y1,y3];exact .refl _);have qf:=qou x (upF Y1 K ⟨true,(q.Y K).pl,(q.Y K).ct+1,(Y1 K).w,(Y1 K).pe,(Y1 K).np⟩) ln2 v2 L2 rest K (q.Y K).ct;have u1:∀(f:Nat->Yrn) (z:Yrn),upF f K z K=z:=fun f z=>if_pos rfl;have u2:∀(f:Nat->Yrn) (z z':Yrn),upF (upF f K z) K z'=upF f K z':=fun f z z'=>funext fun e=>by
   show(if e=K then z' else if e=K then z else f e)=if e=K then z' else f e;by_cases c:e=K
   ·rw[if_pos c,if_pos c]
   ·rw[if_neg c,if_neg c,if_neg c]
  rw[u1] at qf;have pf:=Pz.post (Pz.run qu qa (m:=0) (p:=[1,2,2,2,2,2]) (A:=A16) (f:=48) (h0:=q.hw x v rest) (by kernel_rfl) ql (qf.trans (qt (by rw[QX hK];rfl) rfl))) (v2:=[rz,yP K,rid K (q.Y K).ct]) (h2:=HW x (upF Y1 K ⟨true,(q.Y K).pl,(q.Y K).ct+1,false,(Y1 K).pe,(Y1 K).np⟩) ln2 v2 L2 rest) fun nt=>by
   rw[←u2 Y1 ⟨true,(q.Y K).pl,(q.Y K).ct+1,(Y1 K).w,(Y1 K).pe,(Y1 K).np⟩ ⟨true,(q.Y K).pl,(q.Y K).ct+1,false,(Y1 K).pe,(Y1 K).np⟩];exact qap (c:=(Yrn.mk true (q.Y K).pl ((q.Y K).ct+1) false (Y1 K).pe (Y1 K).np).c) (y:=⟨true,(q.Y K).pl,(q.Y K).ct+1,false,(Y1 K).pe,(Y1 K).np⟩) (.refl _)
  have qg:=qov x (upF Y1 K ⟨true,(q.Y K).pl,(q.Y K).ct+1,false,(Y1 K).pe,(Y1 K).np⟩) ln2 v2 L2 rest K (q.Y K).ct;rw[u1] at qg;have pg:=Pz.post (Pz.run qu qa (m:=0) (p:=[1,2,2,2,2,2,2]) (A:=A16) (f:=48) (h0:=q.hw x v rest) (by kernel_rfl) ql (qg.trans (qt (by rw[QX hK];rfl) rfl))) (v2:=[rz,rid K (q.Y K).ct]) (h2:=HW x (upF Y1 K (q.Y K).next.y) ln2 v2 L2 rest) fun nt=>by
   rw[←u2 Y1 ⟨true,(q.Y K).pl,(q.Y K).ct+1,false,(Y1 K).pe,(Y1 K).np⟩ (q.Y K).next.y];exact qap (c:=[.bool true,iI (q.Y K).pl,iI ((q.Y K).ct+1),.bool false,.nils]) (y:=(q.Y K).next.y) (.cons (.refl _) (.cons (.refl _) (.cons (.refl _) (.cons (.refl _) (.cons (.nilv _ _ (.inl rfl)) .nil)))))
  have ph:=Pz.run qu qa (m:=0) (p:=[2,2,2,2,2,2,2]) (A:=A16) (f:=48) (h0:=q.hw x v rest) (by kernel_rfl) ql (qow (HW x (upF Y1 K (q.Y K).next.y) ln2 v2 L2 rest) K (q.Y K).ct);exact Pz.seq (by kernel_rfl) pe (Pz.seq (by kernel_rfl) pf (Pz.seq (by kernel_rfl) pg ph))
 have pk:=key Y (upF ln K (ln K+1)) (upL L K (ln K) ((q.Y K).lp b []).l) (upF v K (v K+1)) hi rfl rfl;have e2:HW x (upF Y K (q.Y K).next.y) (upF ln K (ln K+1)) (upF v K (v K+1)) (upL L K (ln K) ((q.Y K).lp b []).l) rest=(q.loop K b []).hw x (upF v K (v K+1)) rest:=qiZ q x v rest K b [];rw[e2] at pk;have t:=Pz.toldRef (A:=A16) qX Tryz.func48 (by kernel_rfl) (by kernel_rfl) (l:=[0,1,2,3]) rfl (Pz.seq (by kernel_rfl) pa (Pz.seq (by kernel_rfl) pb (Pz.seq (by kernel_rfl) pc (Pz.seq (by kernel_rfl) pd pk)))) (r:=.agg [uI (u8.wrap (ofNat K+1)),iI (q.Y K).ct]) rfl;rw[h8] at t;exact t
def ghB(v n:Nat)(g:Nat->Idd):Blk:=.mk v 2 n (fun j=>(g j).c) true false none
def qhV(l:List Slo)(c:Option Nat)(v n i:Nat):List T:=[slV l c,.own 0 v 0 n none,iI (ofNat i)]
theorem ql4(l:List Slo)(c:Option Nat)(v n i:Nat)(g:Nat->Idd):qw P16 G16 A16 qp 0 29 [] (nav [0,0,2,1,2,2]) [0,3,4] (qhV l c v n i) [ghB v n g] [0,3,4] =
(
 bif decide (ofNat i<ofNat l.length) then
 bif decide (0<=ofNat i)&&decide (ofNat i<ofNat l.length) then
 bif v==v&&true then
 bif ((0:Nat)+n).ble n then
 bif (l.getD i (Slo.mk (0:Int) [])).l.length==(0:Nat) then
 some ((.normal,[slV l c,.own 0 v 0 n
 none,iI (i64.wrap (ofNat i+1))],[ghB v n g]))
 else
 bif ((n+(l.getD i (Slo.mk (0:Int) [])).l.length)*(17:Nat)).ble 70368744177664 then
 bif ((0:Nat)+n+(l.getD i (Slo.mk (0:Int) [])).l.length).ble n then
 some ((.normal,[slV l c,.own 0 v 0 (n+(l.getD i (Slo.mk (0:Int) [])).l.length)
 none,iI (i64.wrap (ofNat i+1))],[.mk v 2 n (fun j =>
 bif ((0:Nat)+n).ble j&&j.blt (0+n+(l.getD i (Slo.mk (0:Int) [])).l.length) then((l.getD i (Slo.mk (0:Int) [])).l.getD (j-((0:Nat)+n)) (Idd.mk (0:Int) (0:Int))).c
 else(g j).c) true false
 none]))
 else
 some ((.normal,[slV l c,.own 0 (v+1) (0:Nat) (n+(l.getD i (Slo.mk (0:Int) [])).l.length)
 none,iI (i64.wrap (ofNat i+1))],[.mk (v+1) (2:Nat) (n+(l.getD i (Slo.mk (0:Int) [])).l.length) (fun j =>
 bif j.blt n then(g ((0:Nat)+j)).c
 else((l.getD i (Slo.mk (0:Int) [])).l.getD (j-n) (Idd.mk (0:Int) (0:Int))).c) true false
 none]))
 else none else none else none else none else
 some ((.exit 0,qhV l c v n i,[ghB v n g]))):=by kernel_rfl
theorem qox(l:List Slo)(c:Option Nat):qw P16 G16 A16 qp 0 29 [] (nav [1]) [0] [slV l c] [] [0]=some (.normal,[slV l c],[]):=by kernel_rfl
theorem qoy(l:List Slo)(c:Option Nat):qw P16 G16 A16 qp 0 29 [] (nav [1,2]) [0] [slV l c] [] [0,3]=some (.normal,[slV l c,.nils],[]):=by kernel_rfl
theorem qoz(l:List Slo)(c:Option Nat)(v n:Nat)(h:qk):qw P16 G16 A16 qp 0 29 [] (nav [1,1,2,2]) [0,3] [slV l c,.own 0 v 0 n none] h [0,3,4]=some (.normal,qhV l c v n 0,h):=by kernel_rfl
theorem qoA(v n:Nat)(h:qk):qw P16 G16 A16 qp 0 29 [] (nav [2,2,2]) [3] [.own 0 v 0 n none] h [2]=some (.ret,[.own 0 v 0 n none],h):=by kernel_rfl
def heV(l:List Slo):Nat->Nat
 |0=>0
 |i+1=>if (l.getD i sl0).l.length=0 then heV l i else heV l i+1
def heL(l:List Slo)(i:Nat):List Idd:=hel (l.take i)
theorem qhW(l:List Slo){i:Nat}(h:i<l.length):heL l (i+1)=heL l i++(l.getD i sl0).l:=by
 unfold heL hel;rw[List.take_succ,List.getElem?_eq_getElem h,List.map_append,List.flatten_append,List.getD_eq_getElem?_getD,List.getElem?_eq_getElem h];simp
theorem j0{α:Type}(a b:List α)(d:α)(j:Nat):(a++b).getD j d=if j<a.length then a.getD j d else b.getD (j-a.length) d:=by
 rw[List.getD_eq_getElem?_getD,List.getD_eq_getElem?_getD,List.getD_eq_getElem?_getD];by_cases h:j<a.length
 ·rw[if_pos h,List.getElem?_append_left h]
 ·rw[if_neg h,List.getElem?_append_right (by omega)]
set_option maxHeartbeats 1000000
set_option maxRecDepth 100000
theorem qks(l:List Slo)(c:Option Nat)(h1:l.length<=1000000)(h2:(hel l).length<=1000000):ToldOk P16 G16 29 [slV l c] (.new (idL (hel l))):=by
 have hle:∀i,(heL l i).length<=(hel l).length:=fun i=>by
  have:hel l=heL l i++hel (l.drop i):=by
   unfold heL hel;rw[←List.flatten_append,←List.map_append,List.take_append_drop]
  rw[this,List.length_append];omega
 have pa:=Pz.run qu qa (m:=0) (p:=[1]) (A:=A16) (f:=29) (h0:=[]) (by kernel_rfl) ql (qox l c);have pb:=Pz.post (Pz.run qu qa (m:=0) (p:=[1,2]) (A:=A16) (f:=29) (h0:=[]) (by kernel_rfl) ql (qoy l c)) (v2:=[slV l c,.own 0 0 0 0 none]) (h2:=[idB 0 []]) fun nt =>
  .gh [idB 0 []] (by simp[idB]) (.cons (.refl _) (.cons (.inl (.own (k:=0) (b:=idB 0 []) (Nat.le_refl _) rfl rfl)) .nil)) (.refl _)
 have pc:=Pz.run qu qa (m:=0) (p:=[1,1,2,2]) (A:=A16) (f:=29) (h0:=[]) (by kernel_rfl) ql (qoz l c 0 0 [idB 0 []]);have pl:=Pz.count (P:=P16) (G:=G16) (A:=A16) (f:=29) (h0:=[]) (p:=[0,2,1,2,2]) (l:=[0,3,4]) (e:=.exit 0) (by kernel_rfl) (fun i=>qhV l c (heV l i) (heL l i).length i) (fun i=>[idB (heV l i) (heL l i)]) (n:=l.length) (by simp) (fun i hi=>by
  have q:=ql4 l c (heV l i) (heL l i).length i (fun j=>(heL l i).getD j id0);have e:=qhW l hi;have k1:=hle (i+1);have k0:=hle i;have k2:(heL l (i+1)).length=(heL l i).length+(l.getD i sl0).l.length:=by rw[e,List.length_append]
  rw[up1 (by omega)] at q;by_cases z:(l.getD i sl0).l.length=0
  ·have e2:heL l (i+1)=heL l i:=by rw[e,List.length_eq_zero_iff.1 z,List.append_nil]
   rw[show heV l (i+1)=heV l i from if_pos z,e2];exact Pz.run qu qa (m:=0) (by kernel_rfl) ql (q.trans (qt (by simpa using hi) (qt (inR hi) (qt (by simp) (qt (QC (by omega)) (qt (by simpa [sl0] using z) rfl))))))
  ·rw[show heV l (i+1)=heV l i+1 from if_neg z];have zl:0<(l.getD i ⟨0,[]⟩).l.length:=Nat.pos_of_ne_zero z;refine Pz.post (Pz.run qu qa (m:=0) (by kernel_rfl) ql (q.trans (qt (by simpa using hi) (qt (inR hi) (qt (by simp) (qt (QC (by omega)) (qK (by simpa [sl0] using z) (qt (QC (by show((heL l i).length+(l.getD i sl0).l.length)*17<=_;omega)) (qK (by rw[qd3 (by show(heL l i).length<0+(heL l i).length+(l.getD i sl0).l.length;omega)];simp) rfl))))))))) (v2:=qhV l c (heV l i+1) (heL l (i+1)).length (i+1)) (h2:=[idB (heV l i+1) (heL l (i+1))]) fun nt=>?_;rw[e,List.length_append];refine .same (.cons ⟨rfl,rfl,by show(heL l i++(l.getD i sl0).l).length=_;rw[List.length_append];rfl,id,fun j hj=>?_⟩ .nil);have hj:j<(heL l i).length+(l.getD i sl0).l.length:=hj;show((heL l i++(l.getD i sl0).l).getD j id0).c=bif j.blt (heL l i).length then((heL l i).getD (0+j) id0).c else((l.getD i sl0).l.getD (j-(heL l i).length) id0).c;rw[j0,Nat.zero_add];by_cases d:j<(heL l i).length
   ·rw[if_pos d,QX d];rfl
   ·rw[if_neg d,qad (by omega)];rfl)
  (Pz.only (Pz.run qu qa (m:=0) (by kernel_rfl) ql ((ql4 l c (heV l l.length) (heL l l.length).length l.length (fun j=>(heL l l.length).getD j id0)).trans (qK (by simp) rfl))) (l2:=[3]) rfl)
 have ea:heL l l.length=hel l:=by unfold heL;rw[List.take_length]
 rw[ea] at pl;have pe:=Pz.run qu qa (m:=0) (p:=[2,2,2]) (A:=A16) (f:=29) (h0:=[]) (by kernel_rfl) ql (qoA (heV l l.length) (hel l).length [idB (heV l l.length) (hel l)]);have t:=Pz.told (A:=A16) qX Tryz.func29 (by kernel_rfl) (by kernel_rfl) (l:=[0]) rfl (Pz.seq (by kernel_rfl) pa (Pz.seq (by kernel_rfl) pb (Pz.seq (by kernel_rfl) (Pz.seq (by kernel_rfl) pc (Pz.blk (id:=0) (e:=.exit 0) (by kernel_rfl) rfl pl)) pe)))
  (r:=bif (true&&(heV l l.length==heV l l.length&&Nat.ble (0+(hel l).length) (hel l).length)) then .fresh true 2 ((hel l).length-0) (fun j=>((hel l).getD (0+j) id0).c) (hel l).length none else .undef) rfl
 rw[beq_self_eq_true,QC (show 0+(hel l).length<=(hel l).length by omega)] at t;have t2:=t.frz;simp only[Nat.zero_add] at t2;exact t2
end Go.Ab

