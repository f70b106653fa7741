/- A part of the proof: nothing is assumed. -/
import Derived.Test.YtifccdcnhibceaaGreatDoorP13
import Derived.Test.YtifccdcnhibceaaGreatDoorP14
set_option linter.all false
namespace Go.Ab
open IntKind(i64 u8)
open Int(ofNat)
open Go.Proofs
def yzB:Blk:=⟨0,5,6,fun _=>[.bool false,iI 0,iI 0,.bool false,.nils],false,false,none⟩
def tzB:Blk:=⟨0,1,6,fun _=>[.nils],false,false,none⟩
def wzB(i j:Nat):Blk:=⟨0,7,1,fun e=>Zd (e==0) [.nils,.own i 0 0 6 (some 6),.own j 0 0 6 (some 6),.nils,.nils,.nils,uI 0] Z32,false,false,none⟩
def qhZ(y:Int)(n:Int)(k:Nat):List T:=[uI y,iI n,.reg Z32,.ptr k 0 0 0]
def ocB(i j k m:Nat):Blk:=bif m==i then yzB else bif m==j then tzB else wzB i j
def oc(y n:Int)(i j k:Nat):List T×qk:=(qhZ y n k,[ocB i j k 0,ocB i j k 1,ocB i j k 2])
def ocL(y n:Int):List (List T×qk):=[oc y n 2 1 0,oc y n 2 1 0,oc y n 1 2 0,oc y n 2 0 1,oc y n 2 0 1,oc y n 2 0 1,oc y n 1 0 2,oc y n 1 0 2,oc y n 1 0 2,oc y n 1 0 2,oc y n 1 0 2,oc y n 0 2 1,oc y n 0 1 2,oc y n 0 1 2,oc y n 0 1 2]
theorem ql5(y n:Int):qek P16 qp G16 (A16 17).prom (qhY P16 17) (yR P16 17 [1,2]) [0,1,4,5] (yR P16 17 [1,2]).size (Array.replicate (yR P16 17 [1,2]).size false) (qO [0,1,4] [uI y,iI n,.reg Z32] []) [] some=some (ocL y n):=by kernel_rfl
def kMd(y i:Int)(H:qk)(_:List T)(_:qk):Option (T×qk):=some (.agg [uI y,iI i],H)
def x9(i:Nat):Wx:=⟨.own 9 i 0 i none,.nils,.nils,.nils,0⟩
def slR(v n:Nat)(g:Nat->List T):Blk:=.mk v 2 n g false false none
def chn{R:Type}:Nat->Bool->Option R->Option R
 |0,_,x=>x
 |n+1,c,x=>bif c then chn n c x else none
theorem qjz{R:Type}{c:Bool}(h:c=true)(x:Option R):∀n,chn n c x=x
 |0=>rfl
 |n+1=>by
  show(bif c then chn n c x else none)=x;rw[h,cond_true,←h];exact qjz h x n
def s17(y:Int)(n i:Nat):List T:=[uI y,iI (ofNat n),.reg Z32,p0,iI (ofNat i)]
theorem qi0{i:Nat}(h:i<16):i=0∨i=1∨i=2∨i=3∨i=4∨i=5∨i=6∨i=7∨i=8∨i=9∨i=10∨i=11∨i=12∨i=13∨i=14∨i=15:=by omega
def wU(i:Nat):Blk:=⟨0,7,1,fun e=>Zd (e==0) [.own 9 (i+1) 0 (i+1) none,.own 1 0 0 6 (some 6),.own 2 0 0 6 (some 6),.nils,.nils,.nils,uI 0] [.own 9 i 0 i none,.own 1 0 0 6 (some 6),.own 2 0 0 6 (some 6),.nils,.nils,.nils,uI 0],false,false,none⟩
def slG(i:Nat)(y:Int)(g:Nat->List T):Blk:=slR (i+1) (i+1) fun j=>bif j.blt i then g (0+j) else [[uI 0,.view 2 1 (fun j=>[[uI y,iI (ofNat i)]].getD j []) (some 1)]].getD (j-i) []
set_option maxHeartbeats 0 in
theorem qoB(w:List T->qk->T->qk->Prop)(q q':Ys)(v v':Nat->Nat)(g:Nat->List T)(y:Int)(n i:Nat)(hi:i<16):qek P16 (KG (qp.addRef 48 (qag w (kMd y (ofNat i) (q'.hw (x9 i) v' [slR i i g]))))) G16 (A16 17).prom (qhY P16 17) (yR P16 17 [0,1,2,0,0,2,1,2,2,2]) [0,1,4,5,6] (yR P16 17 [0,1,2,0,0,2,1,2,2,2]).size (Array.replicate (yR P16 17 [0,1,2,0,0,2,1,2,2,2]).size false) (qO [0,1,4,5,6] (s17 y n i) (q.hw (x9 i) v [slR i i g])) [] some =
 chn 10 (qC (w [p0,iI (i64.wrap y),uI 0,.nils] (q.hw (x9 i) v [slR i i g]) (.agg [uI y,iI (ofNat i)]) (q'.hw (x9 i) v' [slR i i g]))) (some (List.replicate 28 (s17 y n i,wU i::(q'.hw (x9 i) v' [slG i y g]).tail))):=by
 obtain rfl|rfl|rfl|rfl|rfl|rfl|rfl|rfl|rfl|rfl|rfl|rfl|rfl|rfl|rfl|rfl:=qi0 hi
 all_goals kernel_rfl
section
variable (y n:Int) (K:Nat) (m i:Nat) (h H:qk) (q:Ys) (v:Nat->Nat) (x:Wx) (rest:qk) (Y:Nat->Yrn) (ln:Nat->Nat) (L:Nat->Nat->Lpp)
theorem qoC:qw P16 G16 A16 qp 0 17 [] (nav [1]) [0,1] [uI y,iI n] [] [0,1,4]=some (.normal,[uI y,iI n,.reg Z32],[]):=by kernel_rfl
theorem qoD:qw P16 G16 A16 qp 0 17 [] (nav [1,2,2]) [0,1,4,5] [yI K,iI n,.reg Z32,p0] (HW x Y ln v L rest) [0,1,4,5] =
 (bif decide (0<=yJ K)&&decide (yJ K<6) then bif (0+(yJ K).toNat).blt 6&&true&&true&&true then some (.normal,[yI K,iI n,.reg Z32,p0],HWx x (yG Y (0+(yJ K).toNat) [.bool true,iI 179,iI 0,.bool true,.nils]) (tB ln v) ln v L rest) else none else none):=by kernel_rfl
theorem qoE:qw P16 G16 A16 qp 0 17 [] (nav [1,1,2,2,2]) [0,1,4,5] [yI K,iI (ofNat m),.reg Z32,p0] h [0,1,4,5,6]=some (.normal,s17 (ofNat K+1) m 0,h):=by kernel_rfl
theorem ql6:qw P16 G16 A16 qp 0 17 [] (nav [1,1,0,0,2,1,2,2,2]) [0,1,4,5,6] (s17 y m i) h [0,1,4,5,6,19]=(bif decide (ofNat i<ofNat m) then some (.normal,s17 y m i++[.bool true],h) else some (.normal,s17 y m i++[.bool false],h)):=by kernel_rfl
theorem ql7:qw P16 G16 A16 qp 0 17 [] (nav [3,2,1,0,0,2,1,2,2,2]) [0,1,4,5,6,19] (s17 y m i++[.bool true]) h [0,1,4,5,6]=some (.normal,s17 y m i,h):=by kernel_rfl
theorem ql8:qw P16 G16 A16 qp 0 17 [] (nav [4,2,1,0,0,2,1,2,2,2]) [0,1,4,5,6,19] (s17 y m i++[.bool false]) h [4,5]=some (.exit 0,[.reg Z32,p0],h):=by kernel_rfl
theorem qoF:qw P16 G16 A16 qp 0 17 [] (nav [2,2,0,0,2,1,2,2,2]) [0,1,4,5,6] (s17 y m i) h [0,1,4,5,6]=some (.normal,[uI y,iI (ofNat m),.reg Z32,p0,iI (i64.wrap (ofNat i+1))],h):=by kernel_rfl
theorem qoG(p:List T->T->Prop)(z:Nat->Idd)(k nn:Nat):qw P16 G16 A16 (qp.add 29 (qI p (qlU (idV z k none)))) 0 17 [] (nav [1,2,2,2,2]) [4,5] [.reg Z32,p0] (HW ⟨.own 9 nn 0 nn none,.nils,.nils,.nils,0⟩ Y ln v L rest) [4,5] =
 (bif qC (p [Qp (HW ⟨.own 9 nn 0 nn none,.nils,.nils,.nils,0⟩ Y ln v L rest) (.own 9 nn 0 nn none)] (.new (idV z k none))) then some (.normal,[.reg Z32,p0],.mk 0 7 1 (fun e=>Zd (e==0) [.own 9 nn 0 nn none,.own 1 0 0 6 (some 6),.own 2 0 0 6 (some 6),.nils,idV z k none,.nils,uI 0] [.own 9 nn 0 nn none,.own 1 0 0 6 (some 6),.own 2 0 0 6 (some 6),.nils,.nils,.nils,uI 0]) false false none::(HW ⟨.own 9 nn 0 nn none,.nils,.nils,.nils,0⟩ Y ln v L rest).tail) else none):=by kernel_rfl
theorem qoH:qw P16 G16 A16 qp 0 17 [] (nav [2,2,2,2,2]) [4,5] [.reg Z32,p0] (HW x Y ln v L rest) [4]=some (.ret,[.reg [x.sl,.own 1 0 0 6 (some 6),.own 2 0 0 6 (some 6),x.cr,x.he,x.fa,uI x.d]],HW x Y ln v L rest):=by kernel_rfl
end
def wzC(i j:Nat):Blk:=⟨0,7,1,fun _=>[.nils,.own i 0 0 6 (some 6),.own j 0 0 6 (some 6),.nils,.nils,.nils,uI 0],false,false,none⟩
def ocC(i j m:Nat):Blk:=bif m==i then yzB else bif m==j then tzB else wzC i j
theorem qi1(i j k:Nat):SameBlks [ocB i j k 0,ocB i j k 1,ocB i j k 2] [ocC i j 0,ocC i j 1,ocC i j 2]:=by
 have key:∀m,(ocC i j m).mp=(ocB i j k m).mp/\(ocC i j m).ver=(ocB i j k m).ver/\(ocC i j m).sz=(ocB i j k m).sz/\(ocC i j m).n=(ocB i j k m).n/\(ocC i j m).flat=(ocB i j k m).flat/\∀e,e<(ocB i j k m).n->(ocC i j m).get e=(ocB i j k m).get e:=fun m=>by
  unfold ocB ocC;cases m==i with
  |true=>exact⟨rfl,rfl,rfl,rfl,rfl,fun _ _=>rfl⟩
  |false=>cases m==j with
   |true=>exact⟨rfl,rfl,rfl,rfl,rfl,fun _ _=>rfl⟩
   |false=>exact⟨rfl,rfl,rfl,rfl,rfl,fun e he=>by
    have he:e<1:=he;obtain rfl:e=0:=by omega
    rfl⟩
 have step:∀m {h h2:qk},SameBlks h h2->SameBlks (ocB i j k m::h) (ocC i j m::h2):=fun m _ _ hs=>by
  obtain⟨k1,k2,k3,k4,k5,k6⟩:=key m;exact .cons ⟨k2,k3,k4,(fun h=>by rw[←k5];exact h),k6⟩ hs k1
 exact step 0 (step 1 (step 2 .nil))
theorem qgX{prom:List Nat}{nt:Nat}{l:List Nat}(y n:Int){i j k:Nat}(ho:Yy 0 [k,i,j] [ocC i j 0,ocC i j 1,ocC i j 2]=true)(hv:(qhZ y n k).map (ren [k,i,j] [ocC i j 0,ocC i j 1,ocC i j 2])=qhZ y n 0)(hh:qaf [k,i,j] [ocC i j 0,ocC i j 1,ocC i j 2]=[wzC 1 2,yzB,tzB]) :
 WeakTo G16 prom nt l 0 (oc y n i j k).1 (oc y n i j k).2 (qhZ y n 0) [wzC 1 2,yzB,tzB] :=
 .trans (.same (qi1 i j k)) (WeakTo.canonS [k,i,j] ho hv hh (.refl _))
def Qj(K:Nat):Nat->Ys
 |0=>Q0.setY K ⟨true,179,0,true,[]⟩
 |i+1=>(Qj K i).loop K 0 []
theorem Kl(K e:Nat):∀i,(Qj K i).Y e=if e=K then ⟨true,179,(i:Int),decide (i=0),[]⟩ else yz
 |0=>by
  show upF (fun _=>yz) K ⟨true,179,0,true,[]⟩ e=_;unfold upF;by_cases c:e=K
  ·rw[if_pos c,if_pos c];rfl
  ·rw[if_neg c,if_neg c]
 |i+1=>by
  show upF (Qj K i).Y K ((Qj K i).Y K).next e=_
  unfold upF;rw[Kl K e i,Kl K K i];by_cases c:e=K
  ·rw[if_pos c,if_pos c,if_pos rfl,Yn.next];simp
  ·rw[if_neg c,if_neg c,if_neg c]
theorem j1(K e:Nat):∀i,(Qj K i).tb e=(Qt K i).tb e
 |0=>rfl
 |i+1=>by
  show upF (Qj K i).tb K ((Qj K i).tb K++[((Qj K i).Y K).lp 0 []]) e=upF (Qt K i).tb K ((Qt K i).tb K++[((Qt K i).Y K).lp 0 []]) e;unfold upF;by_cases c:e=K
  ·rw[if_pos c,if_pos c,j1 K K i,Kl K K i,Z3 K K i,if_pos rfl,if_pos rfl];rfl
  ·rw[if_neg c,if_neg c,j1 K e i]
theorem qem(K n:Nat):Qj K n=(Zn K n).q:=by
 have e1:(Qj K n).tb=(Zn K n).q.tb:=funext fun e=>j1 K e n;have e2:(Qj K n).Y=(Zn K n).q.Y:=funext fun e=>by
  show _=upF (Qt K n).Y K (((Qt K n).Y K).go 179 []) e;rw[Kl];unfold upF;by_cases c:e=K
  ·rw[if_pos c,if_pos c,Z3 K K n,if_pos rfl];rfl
  ·rw[if_neg c,if_neg c,Z3 K e n,if_neg c]
 cases h:Qj K n;cases h2:(Zn K n).q;rw[h,h2] at e1 e2;simp_all
def zT(K i:Nat):Blk:=slR i i fun e=>[uI 0,idL [nm K e]]
def vvK(K:Nat):Nat->Nat->Nat:=fun i e=>if e=K then i else 0
theorem qoI(K i:Nat):upF (vvK K i) K (vvK K i K+1)=vvK K (i+1):=funext fun e=>by
 show(if e=K then(if K=K then i else 0)+1 else if e=K then i else 0)=if e=K then i+1 else 0;by_cases c:e=K
 ·rw[if_pos c,if_pos c,if_pos rfl]
 ·rw[if_neg c,if_neg c,if_neg c]
set_option maxHeartbeats 1000000
set_option maxRecDepth 100000
theorem qoJ(y n:Int):Pz P16 G16 A16 17 [] [1,2] [0,1,4] [uI y,iI n,.reg Z32] [] .normal [0,1,4,5] [uI y,iI n,.reg Z32,p0] (Q0.hw (x9 0) (fun _=>0) [slR 0 0 fun _=>[]]):=by
 have p:=Pz.any (P:=P16) (G:=G16) (A:=A16) (f:=17) (h0:=[]) (p:=[1,2]) qu qa (by kernel_rfl) (ql5 y n) (v2:=qhZ y n 0) (h2:=[wzC 1 2,yzB,tzB]) fun o ho nt=>by
  have c1:=fun nt=>qgX (prom:=(A16 17).prom) (nt:=nt) (l:=[0,1,4,5]) y n (i:=0) (j:=1) (k:=2) rfl rfl rfl;have c2:=fun nt=>qgX (prom:=(A16 17).prom) (nt:=nt) (l:=[0,1,4,5]) y n (i:=0) (j:=2) (k:=1) rfl rfl rfl;have c3:=fun nt=>qgX (prom:=(A16 17).prom) (nt:=nt) (l:=[0,1,4,5]) y n (i:=1) (j:=0) (k:=2) rfl rfl rfl;have c4:=fun nt=>qgX (prom:=(A16 17).prom) (nt:=nt) (l:=[0,1,4,5]) y n (i:=1) (j:=2) (k:=0) rfl rfl rfl;have c5:=fun nt=>qgX (prom:=(A16 17).prom) (nt:=nt) (l:=[0,1,4,5]) y n (i:=2) (j:=0) (k:=1) rfl rfl rfl;have c6:=fun nt=>qgX (prom:=(A16 17).prom) (nt:=nt) (l:=[0,1,4,5]) y n (i:=2) (j:=1) (k:=0) rfl rfl rfl;have hm:o=oc y n 0 1 2∨o=oc y n 0 2 1∨o=oc y n 1 0 2∨o=oc y n 1 2 0∨o=oc y n 2 0 1∨o=oc y n 2 1 0:=by
   unfold ocL at ho;simp only[List.mem_cons,List.not_mem_nil,or_false] at ho;rcases ho with h|h|h|h|h|h|h|h|h|h|h|h|h|h|h<;>simp[h]
  rcases hm with rfl|rfl|rfl|rfl|rfl|rfl
  ·exact c1 nt
  ·exact c2 nt
  ·exact c3 nt
  ·exact c4 nt
  ·exact c5 nt
  ·exact c6 nt
 refine Pz.post p fun nt=>?_
 refine .trans (WeakTo.gh (vs2:=[uI y,iI n,.reg Z32,p0]) (h2:=wB (x9 0)::yzB::tB (fun _=>0) (fun _=>0)::((List.range 6).map (rB (fun _=>0) (fun _=>0) (fun _ _=>lpz.l))++[slR 0 0 fun _=>[]])) ((List.range 6).map (rB (fun _=>0) (fun _=>0) (fun _ _=>lpz.l))++[slR 0 0 fun _=>[]]) (fun b hb=>by
  rcases List.mem_append.1 hb with hb|hb
  ·obtain⟨j,_,rfl⟩:=List.mem_map.1 hb;exact⟨rfl,rfl⟩
  ·obtain rfl:=List.mem_singleton.1 hb;exact⟨rfl,rfl⟩) (.cons (.refl _) (.cons (.refl _) (.cons (.refl _) (.cons (.refl _) .nil))))
  (.chg ⟨rfl,rfl,rfl,rfl⟩ rfl (fun j hj=>?_) (.same _ (.chg ⟨rfl,rfl,rfl,rfl⟩ rfl (fun j hj=>?_) (.refl _))))) ?_
 ·have hj:j<1:=hj;obtain rfl:j=0:=by omega
  exact .cons (.own (k:=9) (b:=slR 0 0 fun _=>[]) (by show 3<=9;omega) rfl rfl) (.refl _)
 ·have hj:j<6:=hj;refine .cons (.own (k:=3+j) (b:=rB (fun _=>0) (fun _=>0) (fun _ _=>lpz.l) j) (by show 3<=_;omega) ?_ rfl) (.refl _);obtain rfl|rfl|rfl|rfl|rfl|rfl:=Jt hj
  all_goals rfl
 ·exact .simAll rfl (fun i a b h1 h2=>by obtain rfl:=Option.some.inj (h1.symm.trans h2);exact .refl _) (.cons ⟨rfl,rfl,rfl⟩ (fun h=>(by cases h)) (fun _ _=>.refl _) (.cons ⟨rfl,rfl,rfl⟩ (fun h=>(by cases h)) (fun e he=>.cons (.refl _) (.cons (.refl _) (.cons (.refl _) (.cons (.refl _) (.cons (.nilv _ _ (.inl rfl)) .nil))))) (.refl _)))
theorem qh0{K:Nat}(hK:K<6){n i:Nat}(hi:i<16)(hn:i<n)(hn2:n<=100):Pz P16 G16 A16 17 [] [0,0,2,1,2,2,2] [0,1,4,5,6] (s17 (ofNat K+1) n i) ((Qj K i).hw (x9 i) (vvK K i) [zT K i]) .normal [0,1,4,5,6] (s17 (ofNat K+1) n (i+1)) ((Qj K (i+1)).hw (x9 (i+1)) (vvK K (i+1)) [zT K (i+1)]):=by
 obtain⟨w,hw⟩:=Yi P16 G16 48;have eY:=Kl K K i;rw[if_pos rfl] at eY;have tm:=qkr (Qj K i) (x9 i) (vvK K i) [zT K i] K 0 hK (by rw[eY]) (by rw[eY]) (by rw[eY];show(0:Int)<=i;omega) (by rw[eY];show(i:Int)<1000000;omega) (by rw[j1,yQ,if_pos rfl];simp;omega);rw[qoI,eY] at tm;have tm:ToldRef P16 G16 48 [p0,yK K,uI 0,.nils] ((Qj K i).hw (x9 i) (vvK K i) [zT K i]) (.agg [uI (ofNat K+1),iI (ofNat i)]) ((Qj K (i+1)).hw (x9 i) (vvK K (i+1)) [zT K i]):=tm;have ew:i64.wrap (ofNat K+1)=ofNat K+1:=Y8 (by simp only[Int.ofNat_eq_natCast];omega) (by simp only[Int.ofNat_eq_natCast];omega);have p1:=Pz.run qu qa (m:=0) (p:=[1,1,0,0,2,1,2,2,2]) (A:=A16) (f:=17) (h0:=[]) (by kernel_rfl) ql ((ql6 (ofNat K+1) n i ((Qj K i).hw (x9 i) (vvK K i) [zT K i])).trans (qt (by simpa using hn) rfl));have p2:=Pz.run qu qa (m:=0) (p:=[3,2,1,0,0,2,1,2,2,2]) (A:=A16) (f:=17) (h0:=[]) (by kernel_rfl) ql (ql7 (ofNat K+1) n i ((Qj K i).hw (x9 i) (vvK K i) [zT K i]));have qe:=qoB w (Qj K i) (Qj K (i+1)) (vvK K i) (vvK K (i+1)) (fun e=>[uI 0,idL [nm K e]]) (ofNat K+1) n i hi;rw[ew] at qe;have qe:=qe.trans (qjz (zi hw tm) _ 10);have p3:=Pz.any (P:=P16) (G:=G16) (A:=A16) (f:=17) (h0:=[]) (p:=[0,1,2,0,0,2,1,2,2,2]) qu (Qg (Qg qa (QZ hw)) (fun _ _ _ _ h=>(by cases h))) (by kernel_rfl) qe (v2:=s17 (ofNat K+1) n i) (h2:=(Qj K (i+1)).hw (x9 (i+1)) (vvK K (i+1)) [zT K (i+1)]) fun o ho nt=>by
  obtain⟨_,rfl⟩:=List.mem_replicate.1 ho;refine .simAll rfl (fun i a b h1 h2=>by obtain rfl:=Option.some.inj (h1.symm.trans h2);exact .refl _) (.cons ⟨rfl,rfl,rfl⟩ (fun h=>(by cases h)) (fun j hj=>?_) (.cons ⟨rfl,rfl,rfl⟩ (fun h=>(by cases h)) (fun _ _=>.refl _) (.cons ⟨rfl,rfl,rfl⟩ (fun h=>(by cases h)) (fun _ _=>.refl _) (.cons ⟨rfl,rfl,rfl⟩ (fun h=>(by cases h)) (fun _ _=>.refl _) (.cons ⟨rfl,rfl,rfl⟩ (fun h=>(by cases h)) (fun _ _=>.refl _) (.cons ⟨rfl,rfl,rfl⟩ (fun h=>(by cases h)) (fun _ _=>.refl _) (.cons ⟨rfl,rfl,rfl⟩ (fun h=>(by cases h)) (fun _ _=>.refl _) (.cons ⟨rfl,rfl,rfl⟩ (fun h=>(by cases h)) (fun _ _=>.refl _) (.cons ⟨rfl,rfl,rfl⟩ (fun h=>(by cases h)) (fun _ _=>.refl _) (.cons ⟨rfl,rfl,rfl⟩ (fun h=>(by cases h)) (fun e he=>?_) .nil))))))))))
  ·have hj:j<1:=hj;obtain rfl:j=0:=by omega
   exact .refl _
  ·have he:e<i+1:=he;show SimL (bif e.blt i then [uI 0,idL [nm K (0+e)]] else [[uI 0,.view 2 1 (fun j=>[[uI (ofNat K+1),iI (ofNat i)]].getD j []) (some 1)]].getD (e-i) []) [uI 0,idL [nm K e]];by_cases c:e<i
   ·rw[QX c,Nat.zero_add];exact .refl _
   ·obtain rfl:e=i:=by omega
    rw[qad (Nat.le_refl _),Nat.sub_self];refine .cons (.refl _) (.cons (.view (.inr rfl) fun j hj=>?_) .nil);have hj:j<1:=hj;obtain rfl:j=0:=by omega
    exact .refl _
 have qg:=qoF (ofNat K+1) n i ((Qj K (i+1)).hw (x9 (i+1)) (vvK K (i+1)) [zT K (i+1)]);rw[up1 (by omega)] at qg;have p4:=Pz.run qu qa (m:=0) (p:=[2,2,0,0,2,1,2,2,2]) (A:=A16) (f:=17) (h0:=[]) (by kernel_rfl) ql qg;exact Pz.seq (by kernel_rfl) (Pz.seq (by kernel_rfl) p1 (Pz.condT 19 (by kernel_rfl) rfl p2)) (Pz.seq (by kernel_rfl) (Pz.blk (id:=1) (e:=.normal) (by kernel_rfl) rfl p3) p4)
theorem qgY(K n:Nat)(H:qk)(hH:H[9]?=some (zT K n)):Sims [Qp H (.own 9 n 0 n none)] [slV (Za K n) none]:=by
 have e:Qp H (.own 9 n 0 n none)=(bif (zT K n).mp.isNone&&((zT K n).ver==n&&Nat.ble (0+n) n) then T.view 2 n (fun j=>([uI 0,idL [nm K (0+j)]]:List T).map (resolve 3 [] H)) none else .undef):=by
  show resolve 4 [] H (.own 9 n 0 n none)=_;simp only[resolve,hH];rfl
 rw[e,show(zT K n).ver=n from rfl,beq_self_eq_true,QC (show 0+n<=n by omega)];show Sims [T.view 2 n _ none] [slV (Za K n) none];unfold slV;rw[ZC];refine .cons (.view (.inl rfl) fun j hj=>?_) .nil;show Sims (([uI 0,idL [nm K (0+j)]]:List T).map (resolve 3 [] H)) ((Za K n).getD j sl0).c;rw[Kk K hj,Nat.zero_add];exact .refl _
def qjA(K n:Nat):Wx:=⟨.own 9 n 0 n none,.nils,idV (fun j=>(QM K n).getD j id0) n none,.nils,0⟩
def JV(K n:Nat):qk:=(Qj K n).hw (qjA K n) (vvK K n) [zT K n]
theorem qku{K n:Nat}(hK:K<6)(h1:1<=n)(h16:n<=16):ToldOk P16 G16 17 [yI K,iI (ofNat n)] (.agg ((Zn K n).cc none)):=by
 obtain⟨p,hp⟩:=qE P16 G16 29;have v0:(fun _=>0:Nat->Nat)=vvK K 0:=funext fun e=>by show 0=if e=K then 0 else 0;split<;>rfl
 have pa:=Pz.run qu qa (m:=0) (p:=[1]) (A:=A16) (f:=17) (h0:=[]) (by kernel_rfl) ql (qoC (ofNat K+1) (ofNat n));have pb:=qoJ (ofNat K+1) (ofNat n);rw[v0] at pb;have qc:=qoD (ofNat n) K (vvK K 0) (x9 0) [slR 0 0 fun _=>[]] (fun e=>(Q0.Y e).y) (fun e=>(Q0.tb e).length) (fun e j=>((Q0.tb e).getD j lpz).l);rw[qef hK,show 0+(ofNat K).toNat=K by simp] at qc;have pc:=Pz.post (Pz.run qu qa (m:=0) (p:=[1,2,2]) (A:=A16) (f:=17) (h0:=[]) (by kernel_rfl) ql (qc.trans (qt (inR hK) (qt (by rw[QX hK];rfl) rfl)))) (v2:=[yI K,iI (ofNat n),.reg Z32,p0]) (h2:=(Qj K 0).hw (x9 0) (vvK K 0) [zT K 0]) fun nt=>by
  have hY:(fun e=>((Qj K 0).Y e).y)=upF (fun e=>(Q0.Y e).y) K (Yn.mk true 179 0 true []).y:=funext fun e=>by
   show(upF (fun _=>yz) K (Yn.mk true 179 0 true []) e).y=upF (fun _=>yz.y) K (Yn.mk true 179 0 true []).y e;unfold upF;by_cases c:e=K
   ·rw[if_pos c,if_pos c]
   ·rw[if_neg c,if_neg c]
  show WeakTo G16 (A16 17).prom nt _ _ _ _ _ (HW (x9 0) (fun e=>((Qj K 0).Y e).y) _ _ _ _);rw[hY];refine .trans (qap (c:=[.bool true,iI 179,iI 0,.bool true,.nils]) (y:=(Yn.mk true 179 0 true []).y) (.cons (.refl _) (.cons (.refl _) (.cons (.refl _) (.cons (.refl _) (.cons (.nilv _ _ (.inl rfl)) .nil)))))) ?_;exact .same (.cons ⟨rfl,rfl,rfl,id,fun _ _=>rfl⟩ (.cons ⟨rfl,rfl,rfl,id,fun _ _=>rfl⟩ (.cons ⟨rfl,rfl,rfl,id,fun _ _=>rfl⟩ (.cons ⟨rfl,rfl,rfl,id,fun _ _=>rfl⟩ (.cons ⟨rfl,rfl,rfl,id,fun _ _=>rfl⟩ (.cons ⟨rfl,rfl,rfl,id,fun _ _=>rfl⟩ (.cons ⟨rfl,rfl,rfl,id,fun _ _=>rfl⟩ (.cons ⟨rfl,rfl,rfl,id,fun _ _=>rfl⟩ (.cons ⟨rfl,rfl,rfl,id,fun _ _=>rfl⟩ (.cons ⟨rfl,rfl,rfl,id,fun j hj=>absurd hj (Nat.not_lt_zero j)⟩ .nil))))))))))
 have pd:=Pz.run qu qa (m:=0) (p:=[1,1,2,2,2]) (A:=A16) (f:=17) (h0:=[]) (by kernel_rfl) ql (qoE K n ((Qj K 0).hw (x9 0) (vvK K 0) [zT K 0]));have pl:=Pz.count (P:=P16) (G:=G16) (A:=A16) (f:=17) (h0:=[]) (p:=[0,2,1,2,2,2]) (l:=[0,1,4,5,6]) (e:=.exit 0) (by kernel_rfl) (fun i=>s17 (ofNat K+1) n i) (fun i=>(Qj K i).hw (x9 i) (vvK K i) [zT K i]) (n:=n) (by simp) (fun i hi=>qh0 hK (by omega) hi (by omega))
  (Pz.seqX (by kernel_rfl) (by simp) (Pz.seq (by kernel_rfl) (Pz.run qu qa (m:=0) (by kernel_rfl) ql ((ql6 (ofNat K+1) n n ((Qj K n).hw (x9 n) (vvK K n) [zT K n])).trans (qK (by simp) rfl))) (Pz.condF 19 (by kernel_rfl) rfl (Pz.run qu qa (m:=0) (by kernel_rfl) ql (ql8 (ofNat K+1) n n ((Qj K n).hw (x9 n) (vvK K n) [zT K n]))))))
 have hhel:=qbn K n;have hlen:(QM K n).length=n:=by simp[QM]
 have th:=qks (Za K n) none (by rw[ZC];omega) (by rw[hhel,hlen];omega);rw[hhel] at th;unfold idL at th;rw[hlen] at th;have th2:=th.sim (qgY K n ((Qj K n).hw (x9 n) (vvK K n) [zT K n]) rfl);have ph:=Pz.post (Pz.run qu (qv qa (qr hp)) (m:=0) (p:=[1,2,2,2,2]) (A:=A16) (f:=17) (h0:=[]) (by kernel_rfl) ql ((qoG (vvK K n) [zT K n] (fun e=>((Qj K n).Y e).y) (fun e=>((Qj K n).tb e).length) (fun e j=>(((Qj K n).tb e).getD j lpz).l) p (fun j=>(QM K n).getD j id0) n n).trans (qt (qz.2 (qH hp th2)) rfl))) (v2:=[.reg Z32,p0]) (h2:=JV K n) fun nt =>
  .same (.cons ⟨rfl,rfl,rfl,id,fun j hj=>by
   have hj:j<1:=hj;obtain rfl:j=0:=by omega
   rfl⟩ (.refl _))
 have pi:=Pz.run qu qa (m:=0) (p:=[2,2,2,2,2]) (A:=A16) (f:=17) (h0:=[]) (by kernel_rfl) ql (qoH (vvK K n) (qjA K n) [zT K n] (fun e=>((Qj K n).Y e).y) (fun e=>((Qj K n).tb e).length) (fun e j=>(((Qj K n).tb e).getD j lpz).l));have t:=Pz.told (A:=A16) qX Tryz.func17 (by kernel_rfl) (by kernel_rfl) (l:=[0,1]) rfl (Pz.seq (by kernel_rfl) pa (Pz.seq (by kernel_rfl) pb (Pz.seq (by kernel_rfl) pc (Pz.seq (by kernel_rfl) (Pz.seq (by kernel_rfl) pd (Pz.blk (id:=0) (e:=.exit 0) (p:=[2,1,2,2,2]) (by kernel_rfl) rfl pl)) (Pz.seq (by kernel_rfl) ph pi)))))
  (r:=.agg [bif (true&&(n==n&&Nat.ble (0+n) n)) then .fresh false 2 (n-0) (fun j=>([uI 0,idL [nm K (0+j)]]:List T).map (resolve 3 [9,1,2] (JV K n))) n none else .undef,
   .fresh false 5 6 (fun j=>(((Qj K n).Y (0+j)).y.c).map (resolve 3 [9,1,2] (JV K n))) 6 (some 6),.fresh false 1 6 (fun j=>[resolve 3 [9,1,2] (JV K n) (.own (3+(0+j)) (vvK K n (0+j)) 0 ((Qj K n).tb (0+j)).length none)]) 6 (some 6),
   .nils,idV (fun j=>(QM K n).getD j id0) n none,.nils,uI 0]) rfl
 rw[beq_self_eq_true,QC (show 0+n<=n by omega)] at t;have t2:=t.frz;have eq:=qem K n;refine t2.aggTo (.cons (.view ?_) (.cons (.view ?_) (.cons (.view ?_) (.cons (.nilv _ _ _ (.inl rfl)) (.cons (.view ?_) (.cons (.nilv _ _ _ (.inl rfl)) (.cons (.refl _) .nil)))))))
 ·show Sim (.view 2 n _ none) (slV (Za K n) none);unfold slV;rw[ZC];refine .view (.inl rfl) fun j hj=>?_;rw[Kk K hj,Nat.zero_add];exact .refl _
 ·refine .view (.inr rfl) fun j hj=>?_;rw[Nat.zero_add,←eq];exact .refl _
 ·refine .view (.inr rfl) fun j hj=>?_;rw[Nat.zero_add,←eq];show Sims [resolve 3 [9,1,2] (JV K n) (.own (3+j) (vvK K n j) 0 ((Qj K n).tb j).length none)] [lpV (fun i=>(((Qj K n).tb j).getD i lpz).l) ((Qj K n).tb j).length none];have hb:(JV K n)[3+j]?=some (rB (fun e=>((Qj K n).tb e).length) (vvK K n) (fun e j=>(((Qj K n).tb e).getD j lpz).l) j)/\([9,1,2]:List Nat).contains (3+j)=false:=by
   obtain rfl|rfl|rfl|rfl|rfl|rfl:=Jt hj
   all_goals exact⟨rfl,rfl⟩
  have e1:resolve 3 [9,1,2] (JV K n) (.own (3+j) (vvK K n j) 0 ((Qj K n).tb j).length none)=(bif (true&&(vvK K n j==vvK K n j&&Nat.ble (0+((Qj K n).tb j).length) ((Qj K n).tb j).length)) then T.view 4 ((Qj K n).tb j).length (fun i=>((((Qj K n).tb j).getD (0+i) lpz).l.c).map (resolve 2 [9,1,2] (JV K n))) none else .undef):=by
   simp only[resolve,hb.1,hb.2];rfl
  rw[e1,beq_self_eq_true,QC (show 0+((Qj K n).tb j).length<=((Qj K n).tb j).length by omega)];refine .cons (.view (.inr rfl) fun i hi=>?_) .nil;rw[Nat.zero_add];exact .refl _
 ·show Sim (idV (fun j=>(QM K n).getD j id0) n none) (idL (QM K n));unfold idL;rw[hlen];exact .view (.inr rfl) fun _ _=>.refl _
def n57(g:Nat->Idd)(n:Nat)(c d:Option Nat)(i:Nat):List T:=[idV g n c,idV g n d,iI (ofNat i)]
def n47(g:Nat->Pss)(n:Nat)(c d:Option Nat)(i:Nat):List T:=[psV g n c,psV g n d,iI (ofNat i)]
def n28(l:List Slo)(c d:Option Nat)(i:Nat):List T:=[slV l c,slV l d,iI (ofNat i)]
def n30(F:Fab)(i:Nat):List T:=[.reg F.c,.reg F.c,iI (ofNat i)]
def m30(F:Fab)(y i:Nat):List T:=[.reg F.c,.reg F.c,iI (ofNat y),iI (ofNat i)]
def w16(s s' Y:T)(F:Fab)(d:Int):List T:=[s,Y,F.t.v,crV F.cr F.nc none,idV F.he F.nh none,idV F.fa F.nf none,uI d]
def n16(s s':T)(Y:Nat->Yrn)(F:Fab)(d:Int)(i:Nat):List T:=[.reg (w16 s s' (yrV Y 6) F d),.reg (w16 s' s (yrV Y 6) F d),iI (ofNat i)]
theorem ql9(g:Nat->Idd)(n i:Nat)(c d:Option Nat):QH P16 G16 A16 qp 0 57 [] 4 (n57 g n c d i) [] =
(
 bif decide (ofNat i<ofNat n) then
 bif decide (0<=ofNat i)&&decide (ofNat i<ofNat n) then
 bif decide (0<=ofNat i)&&decide (ofNat i<ofNat n) then
 bif decide ((g i).y=(g i).y) then
 bif decide ((g i).n=(g i).n) then
 some ((.normal,[idV g n c,idV g n d,iI (i64.wrap (ofNat i+1))],[]))
 else
 some ((.ret,[iI 1],[]))
 else
 some ((.ret,[iI 1],[]))
 else none else none else
 some ((.exit 0,[.undef],[]))):=by kernel_rfl
theorem qoK(g:Nat->Idd)(n:Nat)(c d:Option Nat):y6 P16 G16 A16 qp 0 57 [(4,Qs (n57 g n c d 0) [] (.exit 0) [.undef] [])] [idV g n c,idV g n d] =
(
 bif !decide (ofNat n=ofNat n) then
 some (iI 1)
 else
 bif ZO (n57 g n c d (nat_lit 0)) [] (n57 g n c d (nat_lit 0)) [] then
 some (iI 0)
 else
 none):=by kernel_rfl
theorem qma(g:Nat->Pss)(n i:Nat)(c d:Option Nat):QH P16 G16 A16 qp 0 47 [] 4 (n47 g n c d i) [] =
(
 bif decide (ofNat i<ofNat n) then
 bif decide (0<=ofNat i)&&decide (ofNat i<ofNat n) then
 bif decide (0<=ofNat i)&&decide (ofNat i<ofNat n) then
 bif decide ((g i).y=(g i).y) then
 bif decide ((g i).n=(g i).n) then
 bif
 bif (g i).f then(g i).f
 else !(g i).f then
 bif decide ((g i).d=(g i).d) then
 some ((.normal,[psV g n c,psV g n d,iI (i64.wrap (ofNat i+1))],[]))
 else
 some ((.ret,[iI 1],[]))
 else
 some ((.ret,[iI 1],[]))
 else
 some ((.ret,[iI 1],[]))
 else
 some ((.ret,[iI 1],[]))
 else none else none else
 some ((.exit 0,[.undef],[]))):=by kernel_rfl
theorem qoL(g:Nat->Pss)(n:Nat)(c d:Option Nat):y6 P16 G16 A16 qp 0 47 [(4,Qs (n47 g n c d 0) [] (.exit 0) [.undef] [])] [psV g n c,psV g n d] =
(
 bif !decide (ofNat n=ofNat n) then
 some (iI 1)
 else
 bif ZO (n47 g n c d (nat_lit 0)) [] (n47 g n c d (nat_lit 0)) [] then
 some (iI 0)
 else
 none):=by kernel_rfl
theorem qmb(p:List T->T->Prop)(l:List Slo)(i:Nat)(c d:Option Nat):QH P16 G16 A16 (qp.add 57 (qI p (kV 0))) 0 28 [] 4 (n28 l c d i) [] =
(
 bif decide (ofNat i<ofNat l.length) then
 bif decide (0<=ofNat i)&&decide (ofNat i<ofNat l.length) then
 bif decide (0<=ofNat i)&&decide (ofNat i<ofNat l.length) then
 bif !decide ((l.getD i (Slo.mk (0:Int) [])).b=(l.getD i (Slo.mk (0:Int) [])).b) then
 some ((.ret,[iI 1],[]))
 else
 bif decide (0<=ofNat i)&&decide (ofNat i<ofNat l.length) then
 bif decide (0<=ofNat i)&&decide (ofNat i<ofNat l.length) then
 bif qC (p [idL (l.getD i (Slo.mk (0:Int) [])).l,idL (l.getD i (Slo.mk (0:Int) [])).l] (iI 0)) then
 some ((.normal,[slV l c,slV l d,iI (i64.wrap (ofNat i+1))],[]))
 else none else none else none else none else none else
 some ((.exit 0,[.undef],[]))):=by kernel_rfl
theorem qoM(l:List Slo)(c d:Option Nat):y6 P16 G16 A16 qp 0 28 [(4,Qs (n28 l c d 0) [] (.exit 0) [.undef] [])] [slV l c,slV l d] =
(
 bif !decide (ofNat l.length=ofNat l.length) then
 some (iI 1)
 else
 bif ZO (n28 l c d (nat_lit 0)) [] (n28 l c d (nat_lit 0)) [] then
 some (iI 0)
 else
 none):=by kernel_rfl
theorem qmc(F:Fab)(i:Nat):QH P16 G16 A16 qp 0 30 [] 4 (n30 F i) [] =
(
 bif decide (ofNat i<ofNat F.nc) then
 bif decide (0<=ofNat i)&&decide (ofNat i<ofNat F.nc) then
 bif decide (0<=ofNat i)&&decide (ofNat i<ofNat F.nc) then
 bif decide ((F.cr i).ay=(F.cr i).ay) then
 bif decide ((F.cr i).an=(F.cr i).an) then
 bif decide ((F.cr i).cy=(F.cr i).cy) then
 bif decide ((F.cr i).cn=(F.cr i).cn) then
 bif decide ((F.cr i).n=(F.cr i).n) then
 some ((.normal,[.reg F.c,.reg F.c,iI (i64.wrap (ofNat i+1))],[]))
 else
 some ((.ret,n30 F (nat_lit 1),[]))
 else
 some ((.ret,n30 F (nat_lit 1),[]))
 else
 some ((.ret,n30 F (nat_lit 1),[]))
 else
 some ((.ret,n30 F (nat_lit 1),[]))
 else
 some ((.ret,n30 F (nat_lit 1),[]))
 else none else none else
 some ((.exit 0,[.reg F.c,.reg F.c,.undef],[]))):=by kernel_rfl
theorem qmd(p q:List T->T->Prop)(F:Fab)(y i:Nat):QH P16 G16 A16 ((qp.add 57 (qI p (kV 0))).add 47 (qI q (kV 0))) 0 30 [] 14 (m30 F y i) [] =
(
 bif decide (0<=ofNat y)&&decide (ofNat y<ofNat F.t.h) then
 bif decide (ofNat i<ofNat (F.t.ln y)) then
 bif decide (0<=ofNat y)&&decide (ofNat y<ofNat F.t.h) then
 bif decide (0<=ofNat i)&&decide (ofNat i<ofNat (F.t.ln y)) then
 bif decide (0<=ofNat y)&&decide (ofNat y<ofNat F.t.h) then
 bif decide (0<=ofNat i)&&decide (ofNat i<ofNat (F.t.ln y)) then
 bif !decide ((F.t.L y i).b=(F.t.L y i).b) then
 some ((.ret,m30 F (nat_lit 1) y,[]))
 else
 bif (F.t.L y i).w then
 bif (F.t.L y i).w then
 bif qC (p [idV (F.t.L y i).th (F.t.L y i).nt
 none,idV (F.t.L y i).th (F.t.L y i).nt
 none] (iI 0)) then
 bif qC (q [psV (F.t.L y i).ps (F.t.L y i).np
 none,psV (F.t.L y i).ps (F.t.L y i).np
 none] (iI 0)) then
 some ((.normal,[.reg F.c,.reg F.c,iI (.ofNat y),iI (i64.wrap (ofNat i+1))],[]))
 else none else none else
 some ((.ret,m30 F (nat_lit 1) y,[]))
 else
 bif (F.t.L y i).w then
 some ((.ret,m30 F (nat_lit 1) y,[]))
 else
 bif qC (p [idV (F.t.L y i).th (F.t.L y i).nt
 none,idV (F.t.L y i).th (F.t.L y i).nt
 none] (iI 0)) then
 bif qC (q [psV (F.t.L y i).ps (F.t.L y i).np
 none,psV (F.t.L y i).ps (F.t.L y i).np
 none] (iI 0)) then
 some ((.normal,[.reg F.c,.reg F.c,iI (.ofNat y),iI (i64.wrap (ofNat i+1))],[]))
 else none else none else none else none else none else none else
 some ((.exit 4,[.reg F.c,.reg F.c,.undef,iI (.ofNat y)],[]))
 else
 none):=by kernel_rfl
theorem qoN(F:Fab)(y:Nat):QH P16 G16 A16 qp 0 30 [(14,Qs (m30 F y 0) [] (.exit 4) [.reg F.c,.reg F.c,.undef,iI (ofNat y)] [])] 9 (n30 F y) [] =
(
 bif decide (ofNat y<ofNat F.t.h) then
 bif decide (0<=ofNat y)&&decide (ofNat y<ofNat F.t.h) then
 bif decide (0<=ofNat y)&&decide (ofNat y<ofNat F.t.h) then
 bif !decide (ofNat (F.t.ln y)=ofNat (F.t.ln y)) then
 some ((.ret,[iI 1],[]))
 else
 bif ZO (m30 F y (nat_lit 0)) [] (m30 F y (nat_lit 0)) [] then
 some ((.normal,[.reg F.c,.reg F.c,iI (i64.wrap (ofNat y+1))],[]))
 else none else none else none else
 some ((.exit 2,[.undef],[]))):=by kernel_rfl
theorem qme(F:Fab)(y:Nat):QH P16 G16 A16 qp 0 30 [] 9 (n30 F y) [] =
(
 bif decide (ofNat y<ofNat F.t.h) then
 bif decide (0<=ofNat y)&&decide (ofNat y<ofNat F.t.h) then
 bif decide (0<=ofNat y)&&decide (ofNat y<ofNat F.t.h) then
 bif !decide (ofNat (F.t.ln y)=ofNat (F.t.ln y)) then
 some ((.ret,[iI 1],[]))
 else none else none else none else
 some ((.exit 2,[.undef],[]))):=by kernel_rfl
theorem qoO(p:List T->T->Prop)(F:Fab):y6 P16 G16 A16 (qp.add 57 (qI p (kV 0))) 0 30 [(4,Qs (n30 F 0) [] (.exit 0) [.reg F.c,.reg F.c,.undef] []),(9,Qs (n30 F 0) [] (.exit 2) [.undef] [])] [.agg F.c,.agg F.c] =
(
 bif !decide (ofNat F.t.h=ofNat F.t.h) then
 some (iI 1)
 else
 bif !decide (ofNat F.nc=ofNat F.nc) then
 some (iI 1)
 else
 bif qC (p [idV F.he F.nh
 none,idV F.he F.nh
 none] (iI 0)) then
 bif qC (p [idV F.fa F.nf
 none,idV F.fa F.nf
 none] (iI 0)) then
 bif ZO (n30 F (nat_lit 0)) [] (n30 F (nat_lit 0)) [] then
 bif ZO (n30 F (nat_lit 0)) [] (n30 F (nat_lit 0)) [] then
 some (iI 0)
 else none else none else none else
 none):=by kernel_rfl
theorem qmf(p:List T->T->Prop)(s s':T)(Y:Nat->Yrn)(F:Fab)(d:Int)(i:Nat):QH P16 G16 A16 (qp.add 47 (qI p (kV 0))) 0 16 [] 4 (n16 s s' Y F d i) [] =
(
 bif decide (ofNat i<6) then
 bif decide (0<=ofNat i)&&decide (ofNat i<6) then
 bif decide (0<=ofNat i)&&decide (ofNat i<6) then
 bif (Y i).i then
 bif (Y i).i then
 bif !decide ((Y i).pl=(Y i).pl) then
 some ((.ret,[iI 1],[]))
 else
 bif !decide ((Y i).ct=(Y i).ct) then
 some ((.ret,[iI 1],[]))
 else
 bif (Y i).w then
 bif (Y i).w then
 bif qC (p [psV (Y i).pe (Y i).np
 none,psV (Y i).pe (Y i).np
 none] (iI 0)) then
 some ((.normal,[.reg [s,yrV Y (6:Nat),F.t.v,crV F.cr F.nc
 none,idV F.he F.nh
 none,idV F.fa F.nf
 none,uI d],.reg [s',yrV Y (6:Nat),F.t.v,crV F.cr F.nc
 none,idV F.he F.nh
 none,idV F.fa F.nf
 none,uI d],iI (i64.wrap (ofNat i+1))],[]))
 else none else
 some ((.ret,[iI 1],[]))
 else
 bif (Y i).w then
 some ((.ret,[iI 1],[]))
 else
 bif qC (p [psV (Y i).pe (Y i).np
 none,psV (Y i).pe (Y i).np
 none] (iI 0)) then
 some ((.normal,[.reg [s,yrV Y (6:Nat),F.t.v,crV F.cr F.nc
 none,idV F.he F.nh
 none,idV F.fa F.nf
 none,uI d],.reg [s',yrV Y (6:Nat),F.t.v,crV F.cr F.nc
 none,idV F.he F.nh
 none,idV F.fa F.nf
 none,uI d],iI (i64.wrap (ofNat i+1))],[]))
 else none else
 some ((.ret,[iI 1],[]))
 else
 bif (Y i).i then
 some ((.ret,[iI 1],[]))
 else
 bif !decide ((Y i).pl=(Y i).pl) then
 some ((.ret,[iI 1],[]))
 else
 bif !decide ((Y i).ct=(Y i).ct) then
 some ((.ret,[iI 1],[]))
 else
 bif (Y i).w then
 bif (Y i).w then
 bif qC (p [psV (Y i).pe (Y i).np
 none,psV (Y i).pe (Y i).np
 none] (iI 0)) then
 some ((.normal,[.reg [s,yrV Y (6:Nat),F.t.v,crV F.cr F.nc
 none,idV F.he F.nh
 none,idV F.fa F.nf
 none,uI d],.reg [s',yrV Y (6:Nat),F.t.v,crV F.cr F.nc
 none,idV F.he F.nh
 none,idV F.fa F.nf
 none,uI d],iI (i64.wrap (ofNat i+1))],[]))
 else none else
 some ((.ret,[iI 1],[]))
 else
 bif (Y i).w then
 some ((.ret,[iI 1],[]))
 else
 bif qC (p [psV (Y i).pe (Y i).np
 none,psV (Y i).pe (Y i).np
 none] (iI 0)) then
 some ((.normal,[.reg [s,yrV Y (6:Nat),F.t.v,crV F.cr F.nc
 none,idV F.he F.nh
 none,idV F.fa F.nf
 none,uI d],.reg [s',yrV Y (6:Nat),F.t.v,crV F.cr F.nc
 none,idV F.he F.nh
 none,idV F.fa F.nf
 none,uI d],iI (i64.wrap (ofNat i+1))],[]))
 else none else none else none else
 some ((.exit 0,[.undef],[]))):=by kernel_rfl
theorem qoP(p q:List T->T->Prop)(l:List Slo)(c e:Option Nat)(Y:Nat->Yrn)(F:Fab)(d:Int):y6 P16 G16 A16 ((qp.add 28 (qI p (kV 0))).add 30 (qI q (kV 0))) 0 16 [(4,Qs (n16 (slV l c) (slV l e) Y F d 0) [] (.exit 0) [.undef] [])] [.agg (w16 (slV l c) (slV l e) (yrV Y 6) F d),.agg (w16 (slV l e) (slV l c) (yrV Y 6) F d)] =
(
 bif !decide (d=d) then
 some (iI 1)
 else
 bif qC (p [slV l c,slV l e] (iI 0)) then
 bif qC (q [.agg F.c,.agg F.c] (iI 0)) then
 bif ZO [.reg [slV l c,yrV Y (6:Nat),F.t.v,crV F.cr F.nc
 none,idV F.he F.nh
 none,idV F.fa F.nf
 none,uI d],.reg [slV l e,yrV Y (6:Nat),F.t.v,crV F.cr F.nc
 none,idV F.he F.nh
 none,idV F.fa F.nf
 none,uI d],iI 0] [] [.reg [slV l c,yrV Y (6:Nat),F.t.v,crV F.cr F.nc
 none,idV F.he F.nh
 none,idV F.fa F.nf
 none,uI d],.reg [slV l e,yrV Y (6:Nat),F.t.v,crV F.cr F.nc
 none,idV F.he F.nh
 none,idV F.fa F.nf
 none,uI d],iI 0] [] then
 some (iI 0)
 else none else none else
 none):=by kernel_rfl
set_option maxHeartbeats 1000000
set_option maxRecDepth 100000
theorem qdm(g:Nat->Idd)(n:Nat)(c d:Option Nat)(hn:n<=1000000):ToldOk P16 G16 57 [idV g n c,idV g n d] (iI 0):=by
 have hl:LoopOk P16 G16 (A16 57) 57 4 (Qs (n57 g n c d 0) [] (.exit 0) [.undef] []):=by
  refine Ql qu (by kernel_rfl) (fun i=>n57 g n c d i) (fun _=>[]) (n:=n) (fun i hi=>?_) ?_
  ·refine Step.mk0 (A:=A16) (m:=0) qa rfl rfl ql (h1:=[]) ?_ (.refl _);rw[ql9,up1 (by omega)]
   (repeat (first|refine BS ?_|refine BF ?_))
   rfl
  ·refine Last.mk0 (A:=A16) (m:=0) qa rfl rfl ql (h1:=[]) (by simp) ?_ (.refl _);rw[ql9]
   (repeat (first|refine BS ?_|refine BF ?_))
   rfl
 refine Qr qu qX qa (A:=A16) (m:=0) (by kernel_rfl) (Qo hl) ((qoK g n c d).trans (qK (by simp) (qt (Q6 ⟨rfl,.refl _⟩) rfl)))
theorem qf1(g:Nat->Pss)(n:Nat)(c d:Option Nat)(hn:n<=1000000):ToldOk P16 G16 47 [psV g n c,psV g n d] (iI 0):=by
 have hl:LoopOk P16 G16 (A16 47) 47 4 (Qs (n47 g n c d 0) [] (.exit 0) [.undef] []):=by
  refine Ql qu (by kernel_rfl) (fun i=>n47 g n c d i) (fun _=>[]) (n:=n) (fun i hi=>?_) ?_
  ·refine Step.mk0 (A:=A16) (m:=0) qa rfl rfl ql (h1:=[]) ?_ (.refl _);rw[qma,up1 (by omega)];have hb:(bif (g i).f then(g i).f else !(g i).f)=true:=by cases (g i).f<;>rfl
   refine qt (by simpa using hi) (qt (inR hi) (qt (inR hi) (qt (by simp) (qt (by simp) (qt hb (qt (by simp) rfl))))))
  ·refine Last.mk0 (A:=A16) (m:=0) qa rfl rfl ql (h1:=[]) (by simp) ?_ (.refl _);rw[qma];exact qK (by simp) rfl
 exact Qr qu qX qa (A:=A16) (m:=0) (by kernel_rfl) (Qo hl) ((qoL g n c d).trans (qK (by simp) (qt (Q6 ⟨rfl,.refl _⟩) rfl)))
theorem qkv(l:List Slo)(c d:Option Nat)(h1:l.length<=1000000)(h2:∀s∈l,s.l.length<=1000000):ToldOk P16 G16 28 [slV l c,slV l d] (iI 0):=by
 obtain⟨p,hp⟩:=qE P16 G16 57;have hK:=qv qa (P:=P16) (Gl:=G16) (qr hp (F:=kV 0));have hl:LoopOk P16 G16 (A16 28) 28 4 (Qs (n28 l c d 0) [] (.exit 0) [.undef] []):=by
  refine Ql qu (by kernel_rfl) (fun i=>n28 l c d i) (fun _=>[]) (n:=l.length) (fun i hi=>?_) ?_
  ·refine Step.mk0 (A:=A16) (m:=0) hK rfl rfl ql (h1:=[]) ?_ (.refl _);rw[qmb,up1 (by omega)];have hs:((l.getD i sl0).l.length)<=1000000:=h2 _ (by rw[List.getD_eq_getElem?_getD,List.getElem?_eq_getElem hi];exact List.getElem_mem hi);have t:=qz.2 (qH hp (qdm (fun j=>(l.getD i sl0).l.getD j id0) (l.getD i sl0).l.length none none hs));exact qt (by simpa using hi) (qt (inR hi) (qt (inR hi) (qK (by simp) (qt (inR hi) (qt (inR hi) (qt t rfl))))))
  ·refine Last.mk0 (A:=A16) (m:=0) hK rfl rfl ql (h1:=[]) (by simp) ?_ (.refl _);rw[qmb];exact qK (by simp) rfl
 exact Qr qu qX qa (A:=A16) (m:=0) (by kernel_rfl) (Qo hl) ((qoM l c d).trans (qK (by simp) (qt (Q6 ⟨rfl,.refl _⟩) rfl)))
set_option maxHeartbeats 1000000
set_option maxRecDepth 100000
theorem qh1(F:Fab)(hF:F.Ok):ToldOk P16 G16 30 [.agg F.c,.agg F.c] (iI 0):=by
 obtain⟨p,hp⟩:=qE P16 G16 57;obtain⟨q,hq⟩:=qE P16 G16 47;have hK:=qv (qv qa (P:=P16) (Gl:=G16) (qr hp (F:=kV 0))) (qr hq (F:=kV 0));have hnc:=hF.nc;have hth:=hF.t.h;have l4:LoopOk P16 G16 (A16 30) 30 4 (Qs (n30 F 0) [] (.exit 0) [.reg F.c,.reg F.c,.undef] []):=by
  refine Ql qu (by kernel_rfl) (fun i=>n30 F i) (fun _=>[]) (n:=F.nc) (fun i hi=>?_) ?_
  ·refine Step.mk0 (A:=A16) (m:=0) qa rfl rfl ql (h1:=[]) ?_ (.refl _);rw[qmc,up1 (by omega)];exact qt (by simpa using hi) (qt (inR hi) (qt (inR hi) (qt (by simp) (qt (by simp) (qt (by simp) (qt (by simp) (qt (by simp) rfl)))))))
  ·refine Last.mk0 (A:=A16) (m:=0) qa rfl rfl ql (h1:=[]) (by simp) ?_ (.refl _);rw[qmc];exact qK (by simp) rfl
 have l14:∀y,y<F.t.h->LoopOk P16 G16 (A16 30) 30 14 (Qs (m30 F y 0) [] (.exit 4) [.reg F.c,.reg F.c,.undef,iI (ofNat y)] []):=by
  intro y hy;have hl:=hF.t.ln y;refine Ql qu (by kernel_rfl) (fun i=>m30 F y i) (fun _=>[]) (n:=F.t.ln y) (fun i hi=>?_) ?_
  ·refine Step.mk0 (A:=A16) (m:=0) hK rfl rfl ql (h1:=[]) ?_ (.refl _);rw[qmd,up1 (i:=i) (by omega)];have h1:=(hF.t.L y i).nt;have h2:=(hF.t.L y i).np;have t1:=qz.2 (qH hp (qdm (F.t.L y i).th (F.t.L y i).nt none none (by omega)));have t2:=qz.2 (qH hq (qf1 (F.t.L y i).ps (F.t.L y i).np none none (by omega)));refine qt (inR hy) (qt (by simpa using hi) (qt (inR hy) (qt (inR hi) (qt (inR hy) (qt (inR hi) (qK (by simp) ?_))))));cases (F.t.L y i).w with
   |true=>exact qt rfl (qt rfl (qt t1 (qt t2 rfl)))
   |false=>exact qK (by simp) (qK (by simp) (qt t1 (qt t2 rfl)))
  ·refine Last.mk0 (A:=A16) (m:=0) hK rfl rfl ql (h1:=[]) (by simp) ?_ (.refl _);rw[qmd];exact qt (inR hy) (qK (by simp) rfl)
 have l9:LoopOk P16 G16 (A16 30) 30 9 (Qs (n30 F 0) [] (.exit 2) [.undef] []):=by
  refine Ql qu (by kernel_rfl) (fun y=>n30 F y) (fun _=>[]) (n:=F.t.h) (fun y hy=>?_) ?_
  ·refine Step.mk0 (A:=A16) (m:=0) qa rfl rfl (Qo (l14 y hy)) (h1:=[]) ?_ (.refl _);rw[qoN,up1 (by omega)];exact qt (by simpa using hy) (qt (inR hy) (qt (inR hy) (qK (by simp) (qt (Q6 ⟨rfl,.refl _⟩) rfl))))
  ·refine Last.mk0 (A:=A16) (m:=0) qa rfl rfl ql (h1:=[]) (by simp) ?_ (.refl _);rw[qme];exact qK (by simp) rfl
 have hnh:=hF.nh;have hnf:=hF.nf;have t1:=qz.2 (qH hp (qdm F.he F.nh none none hnh));have t2:=qz.2 (qH hp (qdm F.fa F.nf none none hnf));exact Qr qu qX (qv qa (qr hp (F:=kV 0))) (A:=A16) (m:=0) (by kernel_rfl) (qe4 l4 (Qo l9)) ((qoO p F).trans (qK (by simp) (qK (by simp) (qt t1 (qt t2 (qt (Q6 ⟨rfl,.refl _⟩) (qt (Q6 ⟨rfl,.refl _⟩) rfl)))))))
theorem qkw(l:List Slo)(c e:Option Nat)(Y:Nat->Yrn)(F:Fab)(d:Int)(hF:F.Ok)(hY:∀i,i<6->(Y i).np<=1000000)(h1:l.length<=1000000)(h2:∀s∈l,s.l.length<=1000000) :
 ToldOk P16 G16 16 [.agg (w16 (slV l c) (slV l e) (yrV Y 6) F d),.agg (w16 (slV l e) (slV l c) (yrV Y 6) F d)] (iI 0):=by
 obtain⟨p,hp⟩:=qE P16 G16 28;obtain⟨q,hq⟩:=qE P16 G16 30;obtain⟨r,hr⟩:=qE P16 G16 47;have hl:LoopOk P16 G16 (A16 16) 16 4 (Qs (n16 (slV l c) (slV l e) Y F d 0) [] (.exit 0) [.undef] []):=by
  refine Ql qu (by kernel_rfl) (fun i=>n16 (slV l c) (slV l e) Y F d i) (fun _=>[]) (n:=6) (fun i hi=>?_) ?_
  ·refine Step.mk0 (A:=A16) (m:=0) (qv qa (qr hr (F:=kV 0))) rfl rfl ql (h1:=[]) ?_ (.refl _);rw[qmf,up1 (by omega)];have t:=qz.2 (qH hr (qf1 (Y i).pe (Y i).np none none (hY i hi)));have h6:decide (ofNat i<(6:Int))=true:=by simp;omega
   have h7:(decide ((0:Int)<=ofNat i)&&decide (ofNat i<(6:Int)))=true:=by simp;omega
   refine qt h6 (qt h7 (qt h7 ?_));cases (Y i).i with
   |true =>
    refine qt rfl (qt rfl (qK (by simp) (qK (by simp) ?_)));cases (Y i).w with
    |true=>exact qt rfl (qt rfl (qt t rfl))
    |false=>exact qK (by simp) (qK (by simp) (qt t rfl))
   |false =>
    refine qK (by simp) (qK (by simp) (qK (by simp) (qK (by simp) ?_)));cases (Y i).w with
    |true=>exact qt rfl (qt rfl (qt t rfl))
    |false=>exact qK (by simp) (qK (by simp) (qt t rfl))
  ·refine Last.mk0 (A:=A16) (m:=0) (qv qa (qr hr (F:=kV 0))) rfl rfl ql (h1:=[]) (by simp) ?_ (.refl _);rw[qmf];exact qK (by simp) rfl
 exact Qr qu qX (qv (qv qa (qr hp (F:=kV 0))) (qr hq (F:=kV 0))) (A:=A16) (m:=0) (by kernel_rfl) (Qo hl) ((qoP p q l c e Y F d).trans (qK (by simp) (qt (qz.2 (qH hp (qkv l c e h1 h2))) (qt (qz.2 (qH hq (qh1 F hF))) (qt (Q6 ⟨rfl,.refl _⟩) rfl)))))
def Lp.needs(x:Lp):List Idd:=x.th++x.ps.map Pss.id
def Red(l:List Pss):Prop:=∀i,i+1<l.length->cnc (l.getD i ps0) (l.getD (i+1) ps0)=false
structure Lp.G(x:Lp):Prop where
 b:x.b=0∨x.b=1
 nt:x.th.length<=4
 np:x.ps.length<=4096
 d:∀p∈x.ps,p.d=0∨p.d=1
 red:Red x.ps
structure TabI(q:Ys)(ord:List Idd):Prop where
 row:∀y,y<6->∀n,n<(q.tb y).length->∃pre post,ord=pre++nm y n::post/\(∀a∈((q.tb y).getD n lpz).needs,a∈pre)/\(0<n->nm y (n-1)∈pre)
 good:∀y,y<6->∀n,n<(q.tb y).length->((q.tb y).getD n lpz).G/\(n=0->((q.tb y).getD n lpz).w=true)
 mem:∀a∈ord,∃y n,y<6/\n<(q.tb y).length/\a=nm y n
 nodup:ord.Nodup
 out:∀y,6<=y->q.tb y=[]
 cnt:q.cnt=ord.length
theorem qh2{y n y' n':Nat}(h:nm y n=nm y' n'):y=y'/\n=n':=by
 unfold nm at h;injection h with h1 h2;simp only[Int.ofNat_eq_natCast] at h1 h2;omega
theorem qco:∀(l st:List Pss),Red (st++l)->Zr st l=st++l
 |[],st,_=>by simp[Zr]
 |p::l,st,h=>by
  have e:psh st p=st++[p]:=by
   unfold psh;by_cases c:0<st.length
   ·have:=h (st.length-1) (by simp;omega);rw[j0,j0,if_pos (by omega),if_neg (by omega),show st.length-1+1-st.length=0 by omega] at this;rw[if_neg];rw[show cnc (st.getD (st.length-1) ps0) p=false from this];simp
   ·rw[if_neg (by simp;omega)]
  show Zr (psh st p) l=_;rw[e,qco l (st++[p]) (by rw[List.append_assoc];exact h),List.append_assoc];rfl
theorem qh3{l:List Pss}(h:Red l):(QP (fun j=>l.getD j ps0) l.length).1=l.length:=by
 have e:∀k,QP (fun j=>l.getD j ps0) k=QQ (([]:List Pss).length,fun _=>⟨0,0,false,0⟩) (fun j=>l.getD j ps0) k:=fun k=>by
  induction k with
  |zero=>rfl
  |succ k ih=>simp only[QP,QQ,ih]
 rw[e,(Ju [] (fun j=>l.getD j ps0) (fun _=>⟨0,0,false,0⟩) (fun j hj=>absurd hj (Nat.not_lt_zero j)) l.length).1,qbl,qco l [] (by simpa using h)];rfl
section
variable {q:Ys} {ord:List Idd}
theorem TabI.len(h:TabI q ord)(y:Nat):(q.tb y).length<=ord.length:=by
 rw[←h.cnt];by_cases hy:y<6
 ·obtain rfl|rfl|rfl|rfl|rfl|rfl:=Jt hy
  all_goals (unfold Ys.cnt;omega)
 ·rw[h.out y (by omega)];exact Nat.zero_le _
theorem qkx{y n:Nat}(hy:y<6)(hn:n<(q.tb y).length):q.tt.has (nm y n)=true:=by
 unfold Tbl.has Ys.tt t6 nm;simp only[Int.ofNat_eq_natCast,Bool.and_eq_true,decide_eq_true_eq];rw[show((y:Int)+1-1).toNat=y by omega];omega
theorem TabI.has(h:TabI q ord){a:Idd}(ha:a∈ord):q.tt.has a=true:=by
 obtain⟨y,n,hy,hn,rfl⟩:=h.mem a ha;exact qkx hy hn
theorem qmg{y n:Nat}(hy:y<6)(hn:n<=3000):(nm y n).Ok:=⟨by unfold nm;simp only[Int.ofNat_eq_natCast];omega,by unfold nm;simp only[Int.ofNat_eq_natCast];omega⟩
theorem TabI.iok(h:TabI q ord)(hN:ord.length<=3000){a:Idd}(ha:a∈ord):a.Ok:=by
 obtain⟨y,n,hy,hn,rfl⟩:=h.mem a ha;exact qmg hy (by have:=h.len y;omega)
theorem TabI.need(h:TabI q ord){y n:Nat}(hy:y<6)(hn:n<(q.tb y).length){a:Idd}(ha:a∈((q.tb y).getD n lpz).needs):a∈ord:=by
 obtain⟨pre,post,e,h1,_⟩:=h.row y hy n hn;rw[e];exact List.mem_append_left _ (h1 a ha)
theorem TabI.ok(h:TabI q ord)(hN:ord.length<=3000):q.Ok:=by
 refine⟨fun e=>by have:=h.len e;omega,fun e x hx=>?_⟩;by_cases he:e<6
 ·obtain⟨n,hn,rfl⟩:=List.getElem_of_mem hx;have ex:(q.tb e)[n]=(q.tb e).getD n lpz:=by rw[List.getD_eq_getElem?_getD,List.getElem?_eq_getElem hn];rfl
  rw[ex];obtain⟨g,_⟩:=h.good e he n hn;have g1:=g.b;have g2:=g.nt;have g3:=g.np;refine⟨by omega,fun a ha=>h.iok hN (h.need he hn (List.mem_append_left _ ha)),fun p hp=>⟨h.iok hN (h.need he hn (List.mem_append_right _ (List.mem_map.2 ⟨p,hp,rfl⟩))),?_⟩,by omega,by omega⟩;have:=g.d p hp;omega
 ·rw[h.out e (by omega)] at hx;cases hx
theorem qgZ(x:Lp){i:Nat}(hi:i<x.l.nt+x.l.np):zF x.l i∈x.needs:=by
 have hi:i<x.th.length+x.ps.length:=hi;unfold zF Lp.needs;by_cases c:i<x.th.length
 ·rw[if_pos (show i<x.l.nt from c)];refine List.mem_append_left _ ?_;show x.th.getD i id0∈_;rw[List.getD_eq_getElem?_getD,List.getElem?_eq_getElem c];exact List.getElem_mem c
 ·rw[if_neg (show ¬i<x.l.nt from c)];refine List.mem_append_right _ (List.mem_map.2 ⟨x.ps.getD (i-x.th.length) ps0,?_,rfl⟩);have c2:i-x.th.length<x.ps.length:=by omega
  rw[List.getD_eq_getElem?_getD,List.getElem?_eq_getElem c2];exact List.getElem_mem c2
theorem qky(h:TabI q ord){x:Lp}(g:x.G)(hn:∀a∈x.needs,a∈ord):rgt q.tt x.l=true:=by
 unfold rgt;have e1:(decide (x.b=0) || decide (x.b=1))=true:=by simpa using g.b
 have e2:(decide (4<x.l.nt) || decide (4096<x.l.np))=false:=by
  have h1:=g.nt;have h2:=g.np;show(decide (4<x.th.length) || decide (4096<x.ps.length))=false;simp;omega
 have e3:qY (rgI q.tt x.l) x.l.nt=true:=(qP _ _).2 fun i hi=>by
  have hi:i<x.th.length:=hi;show q.tt.has (x.th.getD i id0)=true;refine h.has (hn _ (List.mem_append_left _ ?_));rw[List.getD_eq_getElem?_getD,List.getElem?_eq_getElem hi];exact List.getElem_mem hi
 have e4:qY (rgP q.tt x.l) x.l.np=true:=(qP _ _).2 fun i hi=>by
  have hi:i<x.ps.length:=hi;have hm:x.ps.getD i ps0∈x.ps:=by rw[List.getD_eq_getElem?_getD,List.getElem?_eq_getElem hi];exact List.getElem_mem hi
  show(q.tt.has (x.ps.getD i ps0).id&&(decide ((x.ps.getD i ps0).d=0) || decide ((x.ps.getD i ps0).d=1)))=true;rw[h.has (hn _ (List.mem_append_right _ (List.mem_map.2 ⟨_,hm,rfl⟩)))];simpa using g.d _ hm
 have e5:(QP x.l.ps x.l.np).1=x.l.np:=qh3 g.red;rw[show(decide (x.l.b=0) || decide (x.l.b=1))=true from e1,e2,e3,e4,e5];simp
theorem qi2(h:TabI q ord):qY (ckY q.tt) q.tt.h=true:=by
 refine(qP _ _).2 fun y hy=>(qP _ _).2 fun i hi=>?_;have hy:y<6:=hy;have hi:i<(q.tb y).length:=hi;obtain⟨g,g2⟩:=h.good y hy i hi;unfold ckL;rw[Bool.and_eq_true];refine⟨qky h g fun a ha=>h.need hy hi ha,?_⟩;by_cases c:i=0
 ·rw[show(q.tt.L y i).w=true from g2 c];simp
 ·simp[c]
theorem qfs(f:Nat->Idd)(L:List (List Int)):∀{k n:Nat},k<=n->kA f k L <:+ kA f n L
 |k,0,h=>by obtain rfl:k=0:=by omega
            exact List.suffix_refl _
 |k,n+1,h=>by
  by_cases q:k=n+1
  ·subst q;exact List.suffix_refl _
  ·exact(qfs f L (show k<=n by omega)).trans (List.suffix_cons _ _)
theorem qft(l:Nat->Lpp)(L:List (List Int)):∀{k n:Nat},k<=n->kB l k L <:+ kB l n L
 |k,0,h=>by obtain rfl:k=0:=by omega
            exact List.suffix_refl _
 |k,n+1,h=>by
  by_cases q:k=n+1
  ·subst q;exact List.suffix_refl _
  ·exact(qft l L (show k<=n by omega)).trans (qfs _ _ (Nat.zero_le _))
theorem qh4(t:Tbl):∀{k n:Nat},k<=n->kC t k <:+ kC t n
 |k,0,h=>by obtain rfl:k=0:=by omega
            exact List.suffix_refl _
 |k,n+1,h=>by
  by_cases q:k=n+1
  ·subst q;exact List.suffix_refl _
  ·exact(qh4 t (show k<=n by omega)).trans (qft _ _ (Nat.zero_le _))
theorem qmh{t:Tbl}{n:Nat}(h:(kC t n).Nodup):qY (tgY t) n=true:=by
 refine(qP _ _).2 fun y hy=>(qP _ _).2 fun i hi=>(qP _ _).2 fun k hk=>?_;unfold tgK;have s:kA (t.L y i).th (k+1) (kB (t.L y) i (kC t y)) <:+ kC t n:=(qfs _ _ (show k+1<=(t.L y i).nt by omega)).trans ((qft (t.L y) (kC t y) (show i+1<=t.ln y by omega)).trans (qh4 t (show y+1<=n by omega)));have h2:=List.Nodup.sublist s.sublist h;simp only[kA,List.nodup_cons] at h2;simpa using h2.1
theorem qkz{a b:Idd}(h:kyI a=kyI b):a=b:=by
 cases a;cases b;simp only[kyI,List.cons.injEq,and_true] at h;obtain⟨h1,h2⟩:=h;subst h1;subst h2;rfl
def Ys.thr(q:Ys):List Idd:=(List.range 6).flatMap fun y=>(q.tb y).flatMap Lp.th
theorem qh5(l:List Idd)(L:List (List Int)):(kA (fun j=>l.getD j id0) l.length L).Perm (l.map kyI++L):=by
 have key:∀n,n<=l.length->(kA (fun j=>l.getD j id0) n L).Perm ((l.take n).map kyI++L):=fun n=>by
  induction n with
  |zero=>intro _;exact .refl _
  |succ n ih =>
   intro hn;have ih:=ih (by omega);have e:l.take (n+1)=l.take n++[l.getD n id0]:=by
    rw[List.take_add_one,List.getD_eq_getElem?_getD,List.getElem?_eq_getElem (by omega)];rfl
   rw[e,List.map_append,List.append_assoc];exact(ih.cons _).trans List.perm_middle.symm
 have:=key l.length (Nat.le_refl _);rwa[List.take_length] at this
theorem qmi(r:List Lp)(L:List (List Int)):(kB (fun j=>(r.getD j lpz).l) r.length L).Perm ((r.flatMap Lp.th).map kyI++L):=by
 have key:∀n,n<=r.length->(kB (fun j=>(r.getD j lpz).l) n L).Perm (((r.take n).flatMap Lp.th).map kyI++L):=fun n=>by
  induction n with
  |zero=>intro _;exact .refl _
  |succ n ih =>
   intro hn;have ih:=ih (by omega);have e:r.take (n+1)=r.take n++[r.getD n lpz]:=by
    rw[List.take_add_one,List.getD_eq_getElem?_getD,List.getElem?_eq_getElem (by omega)];rfl
   rw[e,List.flatMap_append,List.map_append];refine(qh5 (r.getD n lpz).th _).trans ?_;have e2:[r.getD n lpz].flatMap Lp.th=(r.getD n lpz).th:=by simp
   rw[e2];refine(List.Perm.append_left _ ih).trans ?_;rw[←List.append_assoc];exact List.Perm.append_right L List.perm_append_comm
 have:=key r.length (Nat.le_refl _);rwa[List.take_length] at this
theorem qh6(q:Ys)(L:List (List Int)):∀n,(kD q.tt L n).Perm ((((List.range n).flatMap fun y=>(q.tb y).flatMap Lp.th).map kyI)++L)
 |0=>.refl _
 |n+1=>by
  have ih:=qh6 q L n;rw[List.range_succ,List.flatMap_append,List.map_append];have e2:[n].flatMap (fun y=>(q.tb y).flatMap Lp.th)=(q.tb n).flatMap Lp.th:=by simp
  rw[e2];refine(qmi (q.tb n) _).trans ((List.Perm.append_left _ ih).trans ?_);rw[←List.append_assoc];exact List.Perm.append_right L List.perm_append_comm
theorem qjB(t:Tbl):∀n,kC t n=kD t [] n
 |0=>rfl
 |n+1=>by show kB _ _ (kC t n)=kB _ _ (kD t [] n);rw[qjB t n]
theorem j2{l:List Idd}(h:l.Nodup):(l.map kyI).Nodup:=by
 unfold List.Nodup;rw[List.pairwise_map];exact List.Pairwise.imp (fun hab hk=>hab (qkz hk)) h
theorem qi3(ht:q.thr.Nodup):qY (tgY q.tt) q.tt.h=true:=by
 refine qmh (n:=6) ?_;rw[qjB];refine((qh6 q [] 6).nodup_iff).2 ?_;rw[List.append_nil];exact j2 ht
end
def qg0(M:Nat->Nat):Nat:=M 0+M 1+M 2+M 3+M 4+M 5
section
variable {q:Ys} {ord:List Idd}
theorem qfu{α:Type}{l a b c d:List α}{x:α}(hn:l.Nodup)(h1:l=a++x::b)(h2:l=c++x::d):a=c:=by
 subst h1
 induction a generalizing c with
 |nil =>
  cases c with
  |nil=>rfl
  |cons y c =>
   simp only[List.nil_append,List.cons_append] at h2 hn;injection h2 with e1 e2;subst e1;rw[List.nodup_cons] at hn;exact absurd (by rw[e2];simp) hn.1
 |cons z a ih =>
  cases c with
  |nil =>
   simp only[List.nil_append,List.cons_append] at h2 hn;injection h2 with e1 e2;subst e1;rw[List.nodup_cons] at hn;exact absurd (by simp) hn.1
  |cons y c =>
   simp only[List.cons_append] at h2 hn;injection h2 with e1 e2;subst e1;rw[List.nodup_cons] at hn;rw[ih hn.2 e2]
theorem qkA(h:TabI q ord)(M:Nat->Nat)(hM:∀y,y<6->M y<=(q.tb y).length):∀(k:Nat) (pre post:List Idd) (y n:Nat),pre.length=k->y<6->ord=pre++nm y n::post->M y<=n->∃z,z<6/\rdy q.tt M z=true:=by
 intro k
 induction k using Nat.strongRecOn with
 |_ k ih =>
  intro pre post y n hk hy e hn;have hmem:nm y n∈ord:=by rw[e];simp
  obtain⟨y',n',hy',hn',e'⟩:=h.mem _ hmem;obtain⟨rfl,rfl⟩:=qh2 e';obtain⟨pre2,post2,k2,k3,k5⟩:=h.row y hy n hn';obtain rfl:=qfu h.nodup e k2;have back:∀a∈pre,∀z m,a=nm z m->z<6->M z<=m->∃z,z<6/\rdy q.tt M z=true:=by
   intro a ha z m ea hz hm;obtain⟨p1,p2,rfl⟩:=List.append_of_mem ha;refine ih p1.length (by simp at hk;omega) p1 (p2++nm y n::post) z m rfl hz ?_ hm;rw[e,←ea];simp
  by_cases c:n=M y
  ·subst c;by_cases q2:rdy q.tt M y=true
   ·exact⟨y,hy,q2⟩
   ·unfold rdy at q2;rw[Bool.and_eq_true,not_and] at q2;have q3:=q2 (by simpa using (show M y<q.tt.ln y from hn'));rw[qP] at q3;simp only[Classical.not_forall] at q3;obtain⟨i,hi,q4⟩:=q3;have hm:=qgZ ((q.tb y).getD (M y) lpz) (i:=i) hi;obtain⟨z,m,hz,hm2,ez⟩:=h.mem _ (h.need hy hn' hm);refine back _ (k3 _ hm) z m ez hz ?_;have q5:¬(thr (cM M) (zF ((q.tb y).getD (M y) lpz).l i)=true):=q4;rw[ez] at q5;unfold thr cM nm at q5;simp only[decide_eq_true_eq,Int.ofNat_eq_natCast] at q5;rw[show((z:Int)+1-1).toNat=z by omega] at q5;omega
  ·exact back _ (k5 (by omega)) y (n-1) rfl hy (by omega)
theorem qf2(h:TabI q ord)(M:Nat->Nat)(hM:∀y,y<6->M y<=(q.tb y).length)(hs:qg0 M<ord.length):∃y,pick q.tt M=some y:=by
 have h1:∃y,y<6/\M y<(q.tb y).length:=by
  refine Classical.byContradiction fun c=>?_;have q2:∀y,y<6->(q.tb y).length<=M y:=fun y hy=>by
   rcases Nat.lt_or_ge (M y) (q.tb y).length with q3|q3
   ·exact absurd ⟨y,hy,q3⟩ c
   ·exact q3
  have a0:=q2 0 (by omega);have a1:=q2 1 (by omega);have a2:=q2 2 (by omega);have a3:=q2 3 (by omega);have a4:=q2 4 (by omega);have a5:=q2 5 (by omega);have:=h.cnt;unfold Ys.cnt at this;unfold qg0 at hs;omega
 obtain⟨y,hy,hl⟩:=h1;obtain⟨pre,post,e,_⟩:=h.row y hy (M y) hl;obtain⟨z,hz,hr⟩:=qkA h M hM pre.length pre post y (M y) rfl hy e (Nat.le_refl _);cases hp:pick q.tt M with
 |some x=>exact⟨x,rfl⟩
 |none =>
  unfold pick at hp;rw[List.find?_eq_none] at hp;exact absurd hr (hp z (by simpa using (show z<q.tt.h from hz)))
theorem qh7(M:Nat->Nat){y:Nat}(hy:y<6):qg0 (inc M y)=qg0 M+1:=by
 obtain rfl|rfl|rfl|rfl|rfl|rfl:=Jt hy
 all_goals
  simp[qg0,inc]
  try omega
theorem qjC(k:Nat):∀y,y<6->oM q.tt k y<=(q.tb y).length:=fun y hy=>qhG q.tt k y hy
theorem qh8(h:TabI q ord):∀k,k<=ord.length->qg0 (oM q.tt k)=k
 |0,_=>rfl
 |k+1,hk=>by
  have ih:=qh8 h k (by omega);obtain⟨y,hp⟩:=qf2 h (oM q.tt k) (qjC k) (by omega);simp only[oM];rw[hp];dsimp only;rw[qh7 _ (qfS hp).1,ih]
theorem qi4(h:TabI q ord):ZP q.tt=ord.length:=by
 unfold ZP;rw[show q.tt.sum q.tt.h=ord.length from q.sum.trans h.cnt,qdf q.tt ord.length ord.length (Nat.le_refl _) (fun j hj=>by
  obtain⟨y,e⟩:=qf2 h (oM q.tt j) (qjC j) (by rw[qh8 h j (by omega)];exact hj);unfold oOk;rw[e];rfl) (.inl rfl) ord.length (Nat.le_refl _)]
 omega
theorem qoQ(h:TabI q ord)(ht:q.thr.Nodup)(hN:ord.length<=2048):ZV q.tt=0:=by
 unfold ZV;rw[if_neg (by show ¬(6≠6);omega),show q.tt.sum q.tt.h=ord.length from q.sum.trans h.cnt,if_neg (by omega),qi2 h,qi3 ht,qi4 h];simp
end
def Crs.p(c:Crs):Idd:=⟨c.ay,c.an⟩
def Crs.q(c:Crs):Idd:=⟨c.cy,c.cn⟩
def qmj(x y:Crs):Bool:=decide (KL x.ay x.an x.cy x.cn y.ay y.an y.cy y.cn<0)
structure YrI(y:Yn)(n:Nat)(ord:List Idd):Prop where
 ct:y.ct=n
 inn:y.i=true->(y.pl = -13∨y.pl=179)/\y.pe.length<=4096/\Red y.pe/\∀p∈y.pe,p.id∈ord/\(p.d=0∨p.d=1)
 out:y.i=false->y.pl=0/\y.w=false/\y.pe=[]
structure WokI(w:Wok)(ord:List Idd):Prop where
 tab:TabI w.q ord
 len:ord.length<=2048
 part:(w.q.thr++w.he++w.fa).Perm ord
 faA:∀i,i+1<w.fa.length->qfh (w.fa.getD i id0) (w.fa.getD (i+1) id0)<0
 crs:∀c∈w.cr,c.p∈ord/\c.q∈ord/\qfh c.p c.q<0/\c.n≠0/\-1048576<=c.n/\c.n<=1048576
 crA:∀i,i+1<w.cr.length->qmj (w.cr.getD i crz) (w.cr.getD (i+1) crz)=true
 crn:w.cr.length<=1000000
 yo:∀y,6<=y->w.q.Y y=yz
 yr:∀y,y<6->YrI (w.q.Y y) (w.q.tb y).length ord
 sn:1<=w.sl.length/\w.sl.length<=16
 sb:∀s∈w.sl,(s.b=0∨s.b=1)/\1<=s.l.length/\s.l.length<=3
 held:hel w.sl=w.he
 d:w.d=0∨w.d=1
def Wok.sl'(w:Wok):Slt:=⟨fun j=>(w.sl.getD j sl0).b,{ n:=w.sl.length,g:=fun i j=>((w.sl.getD i sl0).l).getD j id0,l:=fun i=>(w.sl.getD i sl0).l.length,c:=none }⟩
def Wok.F(w:Wok):Fab:=⟨w.q.tt,fun j=>w.cr.getD j crz,w.cr.length,fun j=>w.he.getD j id0,w.he.length,fun j=>w.fa.getD j id0,w.fa.length⟩
def Wok.w(w:Wok):Wrk:=⟨w.sl',fun e=>(w.q.Y e).y,6,w.F,w.d⟩
theorem ye{α:Type}{l:List α}{d:α}{i:Nat}(h:i<l.length):l.getD i d∈l:=by
 rw[List.getD_eq_getElem?_getD,List.getElem?_eq_getElem h];exact List.getElem_mem h
section
variable {w:Wok} {ord:List Idd}
theorem WokI.fok(h:WokI w ord):w.F.Ok:=by
 have hl:=h.len;have sub:∀a,a∈w.he∨a∈w.fa->a∈ord:=fun a ha=>h.part.mem_iff.1 (by
  simp only[List.mem_append];rcases ha with q|q
  ·exact .inl (.inr q)
  ·exact .inr q)
 have hp:=h.part.length_eq;simp only[List.length_append] at hp;refine⟨(h.tab.ok (by omega)).tt,fun i=>?_,h.crn,fun i=>Kj qfr (fun a ha=>h.tab.iok (by omega) (sub a (.inl ha))) i,by show w.he.length<=_;omega,fun i=>Kj qfr (fun a ha=>h.tab.iok (by omega) (sub a (.inr ha))) i,by show w.fa.length<=_;omega⟩;show(w.cr.getD i crz).Ok;refine Kj (P:=Crs.Ok) ⟨⟨by decide,by decide⟩,⟨by decide,by decide⟩⟩ (fun c hc=>?_) i;obtain⟨c1,c2,_⟩:=h.crs c hc;exact⟨h.tab.iok (by omega) c1,h.tab.iok (by omega) c2⟩
theorem WokI.wok(h:WokI w ord):w.w.Ok:=by
 refine⟨h.fok,fun i=>?_⟩;show(w.q.Y i).pe.length<=1000000;by_cases c:i<6
 ·have hy:=h.yr i c;cases hi:(w.q.Y i).i with
  |true=>have:=(hy.inn hi).2.1;omega
  |false=>rw[(hy.out hi).2.2];exact Nat.zero_le _
 ·rw[h.yo i (by omega)];exact Nat.zero_le _
theorem qen(h:TabI w.q ord)(hl:ord.length<=2048){a:Idd}(ha:a∈ord):nmB a=true:=by
 obtain⟨y,n,hy,hn,rfl⟩:=h.mem a ha;have:=h.len y;unfold nmB nm;simp only[Int.ofNat_eq_natCast,Bool.and_eq_true,decide_eq_true_eq];omega
theorem qkB(h:TabI w.q ord)(hl:ord.length<=2048){p:Pss}(hp:p.id∈ord/\(p.d=0∨p.d=1)):Y9 p.y p.n p.d=true:=by
 have:=qen h hl hp.1;simp only[nmB,Bool.and_eq_true,decide_eq_true_eq] at this;have this:1<=p.y/\p.y<=6/\0<=p.n/\p.n<2048:=this;unfold Y9;simp only[Bool.and_eq_true,Bool.or_eq_true,decide_eq_true_eq];exact⟨this.1,this.2.1,this.2.2.1,this.2.2.2,hp.2⟩
theorem qkC(h:TabI w.q ord)(hl:ord.length<=2048){y:Yn}{n:Nat}(hn:n<=2048)(hy:YrI y n ord):yrE y.y=0:=by
 unfold yrE;have e1:(decide (y.ct<0) || decide (2048<y.ct))=false:=by rw[hy.ct];simp;omega
 rw[show(decide (y.y.ct<0) || decide (2048<y.y.ct))=false from e1,cond_false];cases hi:y.i with
 |true =>
  obtain⟨q1,q2,q3,q4⟩:=hy.inn hi;rw[show y.y.i=true from hi,cond_true];have e2:(qdi y.pl&&decide (y.pe.length<=4096))=true:=by
   rw[decide_eq_true q2,Bool.and_true];rcases q1 with q|q
   ·rw[q];decide
   ·rw[q];decide
  rw[show(qdi y.y.pl&&decide (y.y.np<=4096))=true from e2,cond_true];have e3:qY (pnK y.y) y.y.np=true:=(qP _ _).2 fun i hi=>by
   have hi:i<y.pe.length:=hi;unfold pnK;rw[Bool.and_eq_true];refine⟨qkB h hl (q4 _ (ye hi)),?_⟩;show(!(decide (0<i)&&cnc (y.pe.getD (i-1) ps0) (y.pe.getD i ps0)))=true;by_cases c:0<i
   ·have:=q3 (i-1) (by omega);rw[show i-1+1=i by omega] at this;rw[this];simp
   ·simp[c]
  rw[e3];rfl
 |false =>
  obtain⟨q1,q2,q3⟩:=hy.out hi;rw[show y.y.i=false from hi,cond_false];have e2:(decide (y.pl=0)&&(!y.w&&decide (y.pe.length=0)))=true:=by rw[q1,q2,q3];rfl
  rw[show(decide (y.y.pl=0)&&(!y.y.w&&decide (y.y.np=0)))=true from e2];rfl
theorem WokI.fit(h:WokI w ord):qY (qiT w.w) 6=true:=by
 refine(qP _ _).2 fun y hy=>?_;have hyr:=h.yr y hy;have hlen:=h.tab.len y;have hl:=h.len;unfold qiT qgP;have e0:yrE (w.w.Y y)=0:=qkC h.tab h.len (by omega) hyr;rw[e0];have e1:decide ((w.w.Y y).ct=ofNat (w.w.F.t.ln y))=true:=decide_eq_true hyr.ct;rw[e1];have e2:((w.w.Y y).i&&(!decide ((w.w.Y y).pl = -13)&&!decide ((w.w.Y y).pl=179)))=false:=by
  show((w.q.Y y).i&&(!decide ((w.q.Y y).pl = -13)&&!decide ((w.q.Y y).pl=179)))=false;cases hi:(w.q.Y y).i with
  |false=>rfl
  |true =>
   rcases (hyr.inn hi).1 with q|q
   ·rw[q];decide
   ·rw[q];decide
 rw[e2];have e3:qY (qfl w.w.F.t (w.w.Y y)) (w.w.Y y).np=true:=(qP _ _).2 fun i hi=>by
  have hi:i<(w.q.Y y).pe.length:=hi;cases hin:(w.q.Y y).i with
  |false=>rw[(hyr.out hin).2.2] at hi;exact absurd hi (Nat.not_lt_zero _)
  |true =>
   have q:=((hyr.inn hin).2.2.2 _ (ye (d:=ps0) hi)).1;unfold qfl;rw[Bool.and_eq_true];refine⟨qen h.tab h.len q,?_⟩;obtain⟨z,n,hz,hn,e⟩:=h.tab.mem _ q;show decide (((w.q.Y y).pe.getD i ps0).n<((w.q.tb (((w.q.Y y).pe.getD i ps0).y-1).toNat).length:Int))=true;have a1:((w.q.Y y).pe.getD i ps0).y=(z:Int)+1:=congrArg Idd.y e;have a2:((w.q.Y y).pe.getD i ps0).n=(n:Int):=congrArg Idd.n e;rw[a1,a2,show((z:Int)+1-1).toNat=z by omega,decide_eq_true_eq];omega
 rw[e3];rfl
end
section
variable {w:Wok} {ord:List Idd}
theorem qf3{a b:Idd}(h:qfh a b<0):¬0<=qfh a b:=by omega
theorem WokI.crs0(h:WokI w ord):qfk w.F=0:=by
 have e:qY (crK w.F) w.F.nc=true:=(qP _ _).2 fun i hi=>by
  have hi:i<w.cr.length:=hi;obtain⟨c1,c2,c3,c4,c5,c6⟩:=h.crs _ (ye (d:=crz) hi);unfold crK;simp only[Bool.and_eq_true,Bool.not_eq_true',decide_eq_false_iff_not];refine⟨h.tab.has c1,h.tab.has c2,?_,?_,?_,c4,?_⟩
  ·exact qf3 c3
  ·show ¬(w.cr.getD i crz).n < -1048576;omega
  ·show ¬1048576<(w.cr.getD i crz).n;omega
  ·by_cases c:0<i
   ·have:=h.crA (i-1) (by omega);rw[show i-1+1=i by omega] at this;unfold qmj at this;rw[decide_eq_true_eq] at this;rw[decide_eq_true c,Bool.true_and,decide_eq_false_iff_not];show ¬0<=KL (w.cr.getD (i-1) crz).ay (w.cr.getD (i-1) crz).an (w.cr.getD (i-1) crz).cy (w.cr.getD (i-1) crz).cn (w.cr.getD i crz).ay (w.cr.getD i crz).an (w.cr.getD i crz).cy (w.cr.getD i crz).cn;omega
   ·simp[c]
 unfold qfk;rw[e];rfl
theorem qmk{L:List (List Int)}{l:List Idd}(hp:L.Perm (l.map kyI))(hn:l.Nodup){a:Idd}(ha:a∈l):vF L (kyI a)=1:=by
 rw[qfP (hp.nodup_iff.2 (j2 hn)),if_pos];exact hp.mem_iff.2 (List.mem_map.2 ⟨a,ha,rfl⟩)
theorem WokI.pl0(h:WokI w ord):plE w.F=0:=by
 have sub:∀a,a∈w.he∨a∈w.fa->a∈ord:=fun a ha=>h.part.mem_iff.1 (by
  simp only[List.mem_append];rcases ha with q|q
  ·exact .inl (.inr q)
  ·exact .inr q)
 have e1:qY (plH w.F.t w.F.he) w.F.nh=true:=(qP _ _).2 fun i hi=>h.tab.has (sub _ (.inl (ye (d:=id0) (l:=w.he) hi)));have e2:qY (plH w.F.t w.F.fa) w.F.nf=true:=(qP _ _).2 fun i hi=>h.tab.has (sub _ (.inr (ye (d:=id0) (l:=w.fa) hi)));have e3:qY (plS w.F) w.F.nf=true:=(qP _ _).2 fun i hi=>by
  have hi:i<w.fa.length:=hi;unfold plS;by_cases c:0<i
  ·have:=h.faA (i-1) (by omega);rw[show i-1+1=i by omega] at this;rw[decide_eq_true c,Bool.true_and,Bool.not_eq_true',decide_eq_false_iff_not];exact qf3 this
  ·simp[c]
 have hL:(plL w.F).Perm ((w.q.thr++w.fa++w.he).map kyI):=by
  unfold plL;have k1:(kA (fun j=>w.he.getD j id0) w.he.length []).Perm (w.he.map kyI++[]):=qh5 w.he [];have k2:=qh5 w.fa (kA (fun j=>w.he.getD j id0) w.he.length []);have k3:=qh6 w.q (kA (fun j=>w.fa.getD j id0) w.fa.length (kA (fun j=>w.he.getD j id0) w.he.length [])) 6;refine k3.trans ?_;rw[List.map_append,List.map_append,List.append_assoc];refine List.Perm.append_left _ (k2.trans (List.Perm.append_left _ ?_));rw[List.append_nil] at k1;exact k1
 have hsw:(w.q.thr++w.fa++w.he).Perm ord:=by
  refine List.Perm.trans ?_ h.part;rw[List.append_assoc,List.append_assoc];exact List.Perm.append_left _ List.perm_append_comm
 have hnd:=hsw.nodup_iff.2 h.tab.nodup;have e4:qY (plY w.F) w.F.t.h=true:=(qP _ _).2 fun y hy=>(qP _ _).2 fun i hi=>by
  have hy:y<6:=hy;have hi:i<(w.q.tb y).length:=hi;obtain⟨pre,post,e,_⟩:=h.tab.row y hy i hi;have hm:nm y i∈w.q.thr++w.fa++w.he:=hsw.mem_iff.2 (by rw[e];simp);exact decide_eq_true (qmk hL hnd hm)
 unfold plE;rw[e1,e2,e3,e4];rfl
theorem WokI.fab0(h:WokI w ord):qbQ w.F (plE w.F)=0:=by
 have ht:w.q.thr.Nodup:=by
  have:=h.part.nodup_iff.2 h.tab.nodup;rw[List.nodup_append,List.nodup_append] at this;exact this.1.1
 unfold qbQ;rw[show ZV w.F.t=0 from qoQ h.tab ht h.len,h.crs0,h.pl0];rfl
theorem qf4(l:List (List Idd))(s:Iss)(hg:∀i,i<l.length->s.g i=fun j=>(l.getD i []).getD j id0)(hl:∀i,i<l.length->s.l i=(l.getD i []).length):∀n,n<=l.length →
 s.sum n=((l.take n).flatten).length/\∀a,((l.take n).flatten).length<=a->∀j,j<((l.take n).flatten).length->s.z a n j=((l.take n).flatten).getD j id0
 |0,_=>⟨rfl,fun a _ j hj=>absurd hj (by simp)⟩
 |n+1,hn=>by
  obtain⟨h1,h2⟩:=qf4 l s hg hl n (by omega);have e:l.take (n+1)=l.take n++[l.getD n []]:=by
   rw[List.take_add_one,List.getD_eq_getElem?_getD,List.getElem?_eq_getElem (by omega)];rfl
  have e2:(l.take (n+1)).flatten=(l.take n).flatten++l.getD n []:=by rw[e,List.flatten_append];simp
  rw[e2];refine⟨by show s.sum n+s.l n=_;rw[h1,hl n (by omega),List.length_append],fun a ha j hj=>?_⟩;rw[List.length_append] at ha hj;rw[j0];show(bif Nat.ble (0+s.sum n) j&&j.blt (0+s.sum n+(s.l n).min (a-s.sum n)) then s.g n (j-(0+s.sum n)) else s.z a n j)=_;rw[h1,hl n (by omega),Nat.zero_add,show(l.getD n []).length.min (a-((l.take n).flatten).length)=(l.getD n []).length from Nat.min_eq_left (by omega)];by_cases c:j<((l.take n).flatten).length
  ·rw[if_pos c,qd3 (by omega)];exact h2 a (by omega) j c
  ·rw[if_neg c,QC (by omega),QX (by omega),hg n (by omega)];rfl
theorem qi5(w:Wok):w.sl'.hn=(hel w.sl).length/\∀j,j<(hel w.sl).length->w.sl'.hz j=(hel w.sl).getD j id0:=by
 have key:=qf4 (w.sl.map Slo.l) w.sl'.s.cap (fun i hi=>by
  rw[List.length_map] at hi;show(fun j=>((w.sl.getD i sl0).l).getD j id0)=_;rw[show(w.sl.map Slo.l).getD i []=(w.sl.getD i sl0).l by
   rw[List.getD_eq_getElem?_getD,List.getD_eq_getElem?_getD,List.getElem?_map,List.getElem?_eq_getElem hi];rfl]) (fun i hi=>by
  rw[List.length_map] at hi;show(w.sl.getD i sl0).l.length=_;rw[show(w.sl.map Slo.l).getD i []=(w.sl.getD i sl0).l by
   rw[List.getD_eq_getElem?_getD,List.getD_eq_getElem?_getD,List.getElem?_map,List.getElem?_eq_getElem hi];rfl]) w.sl.length (by simp)
 rw[List.take_of_length_le (by simp)] at key;have e:w.sl'.hn=(hel w.sl).length:=key.1;refine⟨e,fun j hj=>?_⟩;show w.sl'.s.cap.z w.sl'.hn w.sl.length j=_;exact key.2 _ (by rw[e];exact Nat.le_refl _) j hj
theorem WokI.ck0(h:WokI w ord):ckE w.w=0:=by
 unfold ckE;rw[if_pos ⟨rfl,rfl⟩,if_pos h.fit,if_pos (show(1<=w.w.s.s.n/\w.w.s.s.n<=16)/\(w.w.d=0∨w.w.d=1) from⟨h.sn,h.d⟩),if_pos ?_,if_pos (show qbQ w.w.F (plE w.w.F)=0 from h.fab0),if_pos ?_]
 ·obtain⟨e1,e2⟩:=qi5 w;show eqI w.sl'.hz (fun j=>w.he.getD j id0) w.sl'.hn w.he.length=true;unfold eqI;rw[←h.held,e1,decide_eq_true rfl,Bool.true_and];refine(qP _ _).2 fun i hi=>?_;unfold idE;rw[e2 i hi];simp
 ·refine(qP _ _).2 fun i hi=>?_;have hi:i<w.sl.length:=hi;obtain⟨b1,b2,b3⟩:=h.sb _ (ye (d:=sl0) hi);unfold qfm;simp only[Bool.and_eq_true,Bool.or_eq_true,decide_eq_true_eq];exact⟨b1,b2,b3⟩
end
def kW(r:T)(_:List T):Option T:=some r
noncomputable def K3(p q r s u:List T->T->Prop)(W:Wok)(c:Option Nat):Orc:=((((qp.add 13 (qI p (kW (.tup [.agg (W.cc c),iI 0])))).add 15 (qI q (kV 0))).add 17 (qI r (kW (.agg (W.cc none))))).add 16 (qI s (kV 0))).add 14 (qI u (kW (.bool true)))
noncomputable def K3e(p u:List T->T->Prop):Orc:=(qp.add 13 (qI p (kW (.tup [.agg Z32,iI 1])))).add 14 (qI u (kW (.bool true)))
theorem qoR(p q r s u:List T->T->Prop)(W:Wok)(m:Nat)(y n:Int):Qz P16 G16 A16 (K3 p q r s u W (some m)) 0 3 [uI y,iI n] =
(
 bif qC (p [uI y,iI n] (.tup [.agg (W.cc (some m)),iI 0])) then
 bif decide (y<1) then
 some (.bool false)
 else
 bif decide (6<y) then
 some (.bool false)
 else
 bif decide (n<1) then
 some (.bool false)
 else
 bif decide (16<n) then
 some (.bool false)
 else
 bif qC (q [.agg (W.cc (some m))] (iI 0)) then
 bif qC (r [uI y,iI n] (.agg (W.cc
 none))) then
 bif qC (s [.agg (W.cc (some m)),.agg (W.cc
 none)] (iI 0)) then
 bif decide (ofNat m=n) then
 bif qC (u [] (.bool true)) then
 some (.bool true)
 else none else
 some (.bool false)
 else none else none else none else
 none):=by kernel_rfl
theorem qoS(p u:List T->T->Prop)(y n:Int):Qz P16 G16 A16 (K3e p u) 0 3 [uI y,iI n] =
(
 bif qC (p [uI y,iI n] (.tup [.agg [.nils,.nils,.nils,.nils,.nils,.nils,uI 0],iI 1])) then
 bif decide (y<1) then
 bif qC (u [] (.bool true)) then
 some (.bool true)
 else none else
 bif decide (6<y) then
 bif qC (u [] (.bool true)) then
 some (.bool true)
 else none else
 bif decide (n<1) then
 bif qC (u [] (.bool true)) then
 some (.bool true)
 else none else
 bif decide (16<n) then
 bif qC (u [] (.bool true)) then
 some (.bool true)
 else none else
 some (.bool false)
 else
 none):=by kernel_rfl
theorem qh9{α:Type}(l:List α)(d:α){i:Nat}(h:i<l.length):l=l.take i++l.getD i d::l.drop (i+1):=by
 conv=>lhs;rw[←List.take_append_drop i l,List.drop_eq_getElem_cons h]
 rw[List.getD_eq_getElem?_getD,List.getElem?_eq_getElem h];rfl
theorem qg1{K n i:Nat}(h:i<n):(QM K n).getD i id0=nm K i:=by
 simp[QM,List.getD_eq_getElem?_getD,h]
theorem qcp{K n:Nat}{a:Idd}:a∈QM K n↔∃i,i<n/\a=nm K i:=by
 simp only[QM,List.mem_map,List.mem_range];exact⟨fun ⟨i,h,e⟩=>⟨i,h,e.symm⟩,fun ⟨i,h,e⟩=>⟨i,h,e.symm⟩⟩
theorem Jv(K n:Nat):(QM K n).length=n:=by simp[QM]
theorem qia(K n:Nat):(QM K n).Nodup:=by
 unfold QM List.Nodup;rw[List.pairwise_map];exact List.Pairwise.imp (fun {a b} hab e=>hab (qh2 e).2) List.nodup_range
def qeo(n:Nat):List Lp:=(List.range n).map fun j=>⟨0,decide (j=0),[],[]⟩
theorem qcq{n i:Nat}(h:i<n):(qeo n).getD i lpz=⟨0,decide (i=0),[],[]⟩:=by
 simp[qeo,List.getD_eq_getElem?_getD,h]
section
variable {K n:Nat}
theorem yS(e:Nat):(Zn K n).q.tb e=if e=K then qeo n else []:=yQ K e n
theorem qf5(e:Nat):(Zn K n).q.Y e=if e=K then ⟨true,179,(n:Int),decide (n=0),[]⟩ else yz:=by rw[←qem,Kl]
theorem Yz(n:Nat):(qeo n).length=n:=by simp[qeo]
theorem qib(hK:K<6):TabI (Zn K n).q (QM K n):=by
 refine⟨fun y hy m hm=>?_,fun y hy m hm=>?_,fun a ha=>?_,qia K n,fun y hy=>?_,?_⟩
 ·rw[yS] at hm ⊢;by_cases c:y=K
  ·subst c;rw[if_pos rfl,Yz] at hm;rw[if_pos rfl,qcq hm];have e:=qh9 (QM y n) id0 (i:=m) (by rw[Jv];exact hm);rw[qg1 hm] at e;refine⟨_,_,e,fun a ha=>(by cases ha),fun h0=>?_⟩;have:(QM y n).take m=QM y m:=by
    unfold QM;rw[←List.map_take,List.take_range,Nat.min_eq_left (by omega)]
   rw[this];exact qcp.2 ⟨m-1,by omega,rfl⟩
  ·rw[if_neg c] at hm;cases hm
 ·rw[yS] at hm ⊢;by_cases c:y=K
  ·subst c;rw[if_pos rfl,Yz] at hm;rw[if_pos rfl,qcq hm];exact⟨⟨.inl rfl,Nat.zero_le _,Nat.zero_le _,fun p hp=>(by cases hp),fun i hi=>absurd hi (by simp)⟩,fun h0=>by simpa using h0⟩
  ·rw[if_neg c] at hm;cases hm
 ·obtain⟨i,hi,rfl⟩:=qcp.1 ha;exact⟨K,i,hK,by rw[yS,if_pos rfl,Yz];exact hi,rfl⟩
 ·rw[yS,if_neg (by omega)]
 ·rw[Jv];unfold Ys.cnt;simp only[yS];obtain rfl|rfl|rfl|rfl|rfl|rfl:=Jt hK
  all_goals simp[Yz]
theorem qic(hK:K<6)(h1:1<=n)(h16:n<=16):WokI (Zn K n) (QM K n) where
 tab:=qib hK
 len:=by rw[Jv];omega
 part:=by
  have:(Zn K n).q.thr=[]:=by
   unfold Ys.thr;rw[List.flatMap_eq_nil_iff];intro y _;rw[List.flatMap_eq_nil_iff];intro x hx;rw[yS] at hx;split at hx
   ·obtain⟨j,_,rfl⟩:=List.mem_map.1 hx;rfl
   ·cases hx
  rw[this];show([]++QM K n++[]).Perm _;rw[List.nil_append,List.append_nil]
 faA:=fun i hi=>absurd hi (by show ¬i+1<0;omega)
 crs:=fun c hc=>(by cases hc)
 crA:=fun i hi=>absurd hi (by show ¬i+1<0;omega)
 crn:=Nat.zero_le _
 yo:=fun y hy=>by rw[qf5,if_neg (by omega)]
 yr:=fun y hy=>by
  rw[qf5,yS];by_cases c:y=K
  ·rw[if_pos c,if_pos c,Yz];exact⟨rfl,fun _=>⟨.inr rfl,Nat.zero_le _,(fun i hi=>absurd hi (by simp)),(fun p hp=>(by cases hp))⟩,fun h=>(by cases h)⟩
  ·rw[if_neg c,if_neg c];exact⟨rfl,fun h=>(by cases h),fun _=>⟨rfl,rfl,rfl⟩⟩
 sn:=by show 1<=(Za K n).length/\(Za K n).length<=16;rw[ZC];omega
 sb:=fun s hs=>by
  obtain⟨i,_,rfl⟩:=List.mem_map.1 (show s∈Za K n from hs);exact⟨.inl rfl,Nat.le_refl _,by show 1<=3;omega⟩
 held:=qbn K n
 d:=.inl rfl
end
end Go.Ab

