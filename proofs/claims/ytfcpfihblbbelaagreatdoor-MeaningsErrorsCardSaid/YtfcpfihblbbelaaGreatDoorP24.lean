/- A part of the proof: nothing is assumed. -/
import Derived.Test.YtfcpfihblbbelaaGreatDoorP22
import Derived.Test.YtfcpfihblbbelaaGreatDoorP23
import Derived.Test.YtfcpfihblbbelaaGreatDoorP3
set_option linter.all false
namespace Go.Ab
open IntKind(i64 u8)
open Int(ofNat)
open Go.Proofs
set_option maxRecDepth 100000
def v8(C:Nat->Nat->Sti)(ln:Nat->Nat)(h:Nat)(a b:Int):List T:=[iI a,uI b,.reg [chV C ln h]]
noncomputable def K8(p1 p2 p3 p4 p5 p6:List T->T->Prop)(x:T)(e:Int):Orc:=(((((qy.add 26 (Qe p1 fun _=>some (.tup [x,iI e]))).add 16 (Qe p2 fun _=>some (.bool true))).add 12 (Qe p3 fun _=>some (.tup [zF,iI e]))).add 17 (Qe p4 fun _=>some (.tup [zW,iI e]))).add 24 (Qe p5 fun _=>some (.tup [.nils,iI e]))).add 21 (Qe p6 fun _=>some (.tup [zF,iI 5]))
theorem y81(C:Nat->Nat->Sti)(ln:Nat->Nat)(h:Nat)(a b:Int):zC P17 G17 A17 qy 0 8 [] (nav [1]) [0,1,2] [.agg [chV C ln h],iI a,uI b] [] [1,2,3] =
(
 some ((.normal,v8 C ln h a b,[]))):=by kernel_rfl
theorem qi4(C:Nat->Nat->Sti)(ln:Nat->Nat)(h:Nat)(a b:Int):zC P17 G17 A17 qy 0 8 [] (nav [1,2]) [1,2,3] (v8 C ln h a b) [] [1,2,3] =
(
 bif decide (40<ofNat h) then
 some ((.ret,v8 C ln h a b,[]))
 else
 some ((.normal,v8 C ln h a b,[]))):=by kernel_rfl
theorem qi5(C:Nat->Nat->Sti)(ln:Nat->Nat)(h:Nat)(a b:Int):zC P17 G17 A17 qy 0 8 [] (nav [1,2]) [1,2,3] (v8 C ln h a b) [] [6] =
(
 bif decide (40<ofNat h) then
 some ((.ret,[.bool true],[]))
 else
 some ((.normal,[.undef],[]))):=by kernel_rfl
theorem y83(C:Nat->Nat->Sti)(ln:Nat->Nat)(h:Nat)(a b:Int):zC P17 G17 A17 qy 0 8 [] (nav [1,1,2,2]) [1,2,3] (v8 C ln h a b) [] [1,2,3,7] =
(
 some ((.normal,iI a::uI b::KP C ln h (nat_lit 0),[]))):=by kernel_rfl
theorem qi6(C:Nat->Nat->Sti)(ln:Nat->Nat)(h:Nat)(a b:Int)(i:Nat):zC P17 G17 A17 qy 0 8 [] (nav [0,0,2,1,2,2]) [1,2,3,7] [iI a,uI b,.reg [chV C ln h],iI (ofNat i)] [] [1,2,3,7] =
(
 bif decide (ofNat i<ofNat h) then
 bif decide (0<=ofNat i)&&decide (ofNat i<ofNat h) then
 bif decide (40<ofNat (ln i)) then
 some ((.ret,iI a::uI b::KP C ln h i,[]))
 else
 some ((.normal,[iI a,uI b,.reg [chV C ln h],iI (i64.wrap (ofNat i+1))],[]))
 else none else
 some ((.exit 0,iI a::uI b::KP C ln h i,[]))):=by kernel_rfl
theorem qi7(C:Nat->Nat->Sti)(ln:Nat->Nat)(h:Nat)(a b:Int)(i:Nat):zC P17 G17 A17 qy 0 8 [] (nav [0,0,2,1,2,2]) [1,2,3,7] [iI a,uI b,.reg [chV C ln h],iI (ofNat i)] [] [6] =
(
 bif decide (ofNat i<ofNat h) then
 bif decide (0<=ofNat i)&&decide (ofNat i<ofNat h) then
 bif decide (40<ofNat (ln i)) then
 some ((.ret,[.bool true],[]))
 else
 some ((.normal,[.undef],[]))
 else none else
 some ((.exit 0,[.undef],[]))):=by kernel_rfl
theorem qi8(C:Nat->Nat->Sti)(ln:Nat->Nat)(h:Nat)(a b:Int)(i:Nat):zC P17 G17 A17 qy 0 8 [] (nav [0,0,2,1,2,2]) [1,2,3,7] [iI a,uI b,.reg [chV C ln h],iI (ofNat i)] [] [1,2,3] =
(
 bif decide (ofNat i<ofNat h) then
 bif decide (0<=ofNat i)&&decide (ofNat i<ofNat h) then
 bif decide (40<ofNat (ln i)) then
 some ((.ret,v8 C ln h a b,[]))
 else
 some ((.normal,v8 C ln h a b,[]))
 else none else
 some ((.exit 0,v8 C ln h a b,[]))):=by kernel_rfl
theorem y85(C:Nat->Nat->Sti)(ln:Nat->Nat)(h:Nat)(a b e:Int)(p1 p2 p3 p4 p5 p6:List T->T->Prop):zC P17 G17 A17 (K8 p1 p2 p3 p4 p5 p6 .nils e) 0 8 [] (nav [2,2,2]) [1,2,3] (v8 C ln h a b) [] [6] =
(
 bif qF (p1 [.agg [chV C ln h]] (.tup [.nils,iI e])) then
 bif decide (e=0) then
 bif qF (p2 [] (.bool true)) then
 some ((.ret,[.bool true],[]))
 else none else
 bif qF (p3 [.agg [chV C ln h]] (.tup [.agg [.nils,.nils,.nils,.nils],iI e])) then
 bif qF (p4 [.agg [chV C ln h],iI a] (.tup [.agg [.nils,.nils,.nils,.nils,.nils,.nils,uI 0],iI e])) then
 bif qF (p5 [.agg [chV C ln h]] (.tup [.nils,iI e])) then
 bif qF (p6 [.agg [.nils,.nils,.nils,.nils,.nils,.nils,uI 0],uI b] (.tup [.agg [.nils,.nils,.nils,.nils],iI 5])) then
 bif decide (e=e) then
 bif decide (e=e) then
 bif decide (e=e) then
 bif qF (p2 [] (.bool true)) then
 some ((.ret,[.bool true],[]))
 else none else
 some ((.ret,[.bool false],[]))
 else
 some ((.ret,[.bool false],[]))
 else
 some ((.ret,[.bool false],[]))
 else none else none else none else none else
 none):=by kernel_rfl
theorem y86(C:Nat->Nat->Sti)(ln:Nat->Nat)(h:Nat)(a b:Int)(m:Nat)(g:Nat->List T)(p1 p2 p3 p4 p5 p6:List T->T->Prop):zC P17 G17 A17 (K8 p1 p2 p3 p4 p5 p6 (.view 1 m g none) 0) 0 8 [] (nav [2,2,2]) [1,2,3] (v8 C ln h a b) [] [6] =
(
 bif qF (p1 [.agg [chV C ln h]] (.tup [.view 1 m g
 none,iI 0])) then
 bif qF (p2 [] (.bool true)) then
 some ((.ret,[.bool true],[]))
 else none else
 none):=by kernel_rfl
set_option maxHeartbeats 1000000
set_option maxRecDepth 100000
theorem qiB(C:Nat->Nat->Sti)(ln:Nat->Nat)(h:Nat)(a b:Int)(hC:∀i j,(C i j).Ok):ToldOk P17 G17 8 [.agg [chV C ln h],iI a,uI b] (.bool true):=by
 have run:=fun {p l vs h l1 v1 h1 e} (k:zC P17 G17 A17 qy 0 8 [] (nav p) l vs h l1=some (e,v1,h1))=>Pz.run qG qh (m:=0) (p:=p) (A:=A17) (f:=8) (h0:=[]) (by kernel_rfl) qr k;have fin:Pz P17 G17 A17 8 [] [] [0,1,2] [.agg [chV C ln h],iI a,uI b] [] .ret [6] [.bool true] []->ToldOk P17 G17 8 [.agg [chV C ln h],iI a,uI b] (.bool true):=fun q=>Pz.told (A:=A17) Qm Tryz.func8 (by kernel_rfl) (by kernel_rfl) (l:=[0,1,2]) rfl q rfl;have pa:=run (y81 C ln h a b);by_cases h1:40<h
 ·have pb:=run ((qi5 C ln h a b).trans (qt (decide_eq_true (by simp only[Int.ofNat_eq_natCast];omega)) rfl));exact fin (Pz.seq (by kernel_rfl) pa (Pz.seqX (by kernel_rfl) (by simp) pb))
 have pb:=run ((qi4 C ln h a b).trans (Q2 (by simp only[Int.ofNat_eq_natCast,decide_eq_true_eq];omega) rfl));have pc:=run (y83 C ln h a b)
 let V:Nat->List T:=fun i=>[iI a,uI b,.reg [chV C ln h],iI (ofNat i)]
 have hin:∀i,i<h->decide (ofNat i<ofNat h)=true:=fun i hi=>decide_eq_true (by simp only[Int.ofNat_eq_natCast];omega);have hin2:∀i,i<h->(decide ((0:Int)<=ofNat i)&&decide (ofNat i<ofNat h))=true:=fun i hi=>by
  simp only[Int.ofNat_eq_natCast,Bool.and_eq_true,decide_eq_true_eq];omega
 have good:∀i,i<h->(∀j,j<i->(fun i=>decide (ln i<=40)) j=true)->(fun i=>decide (ln i<=40)) i=true->Pz P17 G17 A17 8 [] [0,0,2,1,2,2] [1,2,3,7] (V i) [] .normal [1,2,3,7] (V (i+1)) []:=fun i hi _ hg=>by
  have hg:ln i<=40:=of_decide_eq_true hg;have q:=run ((qi6 C ln h a b i).trans (qt (hin i hi) (qt (hin2 i hi) (Q2 (by simp only[Int.ofNat_eq_natCast,decide_eq_true_eq];omega) rfl))));rw[Q1 (x:=ofNat i+1) (by simp only[Int.ofNat_eq_natCast];omega) (by simp only[Int.ofNat_eq_natCast];omega)] at q;exact q
 have bad:∀i,i<h->(∀j,j<i->(fun i=>decide (ln i<=40)) j=true)->(fun i=>decide (ln i<=40)) i=false->Pz P17 G17 A17 8 [] [0,0,2,1,2,2] [1,2,3,7] (V i) [] .ret [6] [.bool true] []:=fun i hi _ hg=>by
  have hg:¬ln i<=40:=of_decide_eq_false hg;exact run ((qi7 C ln h a b i).trans (qt (hin i hi) (qt (hin2 i hi) (qt (decide_eq_true (by simp only[Int.ofNat_eq_natCast];omega)) rfl))))
 have last:(∀j,j<h->(fun i=>decide (ln i<=40)) j=true)->Pz P17 G17 A17 8 [] [0,0,2,1,2,2] [1,2,3,7] (V h) [] (.exit 0) [1,2,3] (v8 C ln h a b) []:=fun _ =>
  run ((qi8 C ln h a b h).trans (Q2 (by simp only[Int.ofNat_eq_natCast,decide_eq_true_eq];omega) rfl))
 rcases Pz.scan (P:=P17) (G:=G17) (A:=A17) (f:=8) (h0:=[]) (p:=[0,2,1,2,2]) (by kernel_rfl) V (fun _=>[]) (fun i=>decide (ln i<=40)) (n:=h) (fun _=>[]) (e:=.exit 0) (by simp) good bad last with⟨hall,lp⟩|⟨_,i,_,lp⟩
 rotate_left
 ·exact fin (Pz.seq (by kernel_rfl) pa (Pz.seq (by kernel_rfl) pb (Pz.seqX (by kernel_rfl) (by simp) (Pz.seq (by kernel_rfl) pc (Pz.blk (id:=0) (e:=.ret) (by kernel_rfl) rfl lp)))))
 have hl:∀i,i<h->ln i<=1000:=fun i hi=>by have:=of_decide_eq_true ((Q3 _ _).1 hall i hi);omega
 refine fin (Pz.seq (by kernel_rfl) pa (Pz.seq (by kernel_rfl) pb (Pz.seq (by kernel_rfl) (Pz.seq (by kernel_rfl) pc (Pz.blk (id:=0) (e:=.exit 0) (by kernel_rfl) rfl lp)) ?_)));obtain⟨p1,k1⟩:=qA P17 G17 26;obtain⟨p2,k2⟩:=qA P17 G17 16;obtain⟨p3,k3⟩:=qA P17 G17 12;obtain⟨p4,k4⟩:=qA P17 G17 17;obtain⟨p5,k5⟩:=qA P17 G17 24;obtain⟨p6,k6⟩:=qA P17 G17 21;have hK:∀x e,OrcOk P17 G17 (K8 p1 p2 p3 p4 p5 p6 x e):=fun x e=>qj (qj (qj (qj (qj (qj qh (qg k1)) (qg k2)) (qg k3)) (qg k4)) (qg k5)) (qg k6);have tl:=qfD C ln h (by omega) hl hC;have tc:=qdP C ln h (by omega) hl hC;by_cases he:qcS C ln h=0
 ·rw[if_pos he] at tl;exact Pz.run qG (hK _ _) (m:=0) (p:=[2,2,2]) (A:=A17) (f:=8) (h0:=[]) (by kernel_rfl) qr ((y86 C ln h a b _ _ p1 p2 p3 p4 p5 p6).trans (qt (qo k1 tl) (qt (qo k2 qe9) rfl)))
 ·rw[if_neg he] at tl;exact Pz.run qG (hK _ _) (m:=0) (p:=[2,2,2]) (A:=A17) (f:=8) (h0:=[]) (by kernel_rfl) qr ((y85 C ln h a b _ p1 p2 p3 p4 p5 p6).trans (qt (qo k1 tl) (Q2 (by simpa using he) (qt (qo k3 (qhU C ln h _ he tc)) (qt (qo k4 (qb2 C ln h a _ he tc)) (qt (qo k5 (qfI C ln h _ he tc)) (qt (qo k6 (qgo b)) (qt (decide_eq_true rfl) (qt (decide_eq_true rfl) (qt (decide_eq_true rfl) (qt (qo k2 qe9) rfl)))))))))))
section
variable {Hp:Type}
theorem qgp:zY P17 27=true:=by kernel_rfl
theorem qa7:P17.cellsOf 70=5:=by kernel_rfl
theorem qa8:P17.cellsOf 67=1:=by kernel_rfl
theorem qfa{ts:List T}{d:DataW Hp}(h:CT P17 5 ts d):∃a:Int,ts=[uI a]/\0<=a/\a<256:=by
 obtain⟨a,rfl,rfl,w⟩:=h.int_inv Tryz.underlying5;have w:=qhb w;exact⟨a,rfl,by omega,by omega⟩
theorem qgq{ts:List T}{d:DataW Hp}(h:CT P17 68 ts d):∃a:Int,ts=[uI a]/\0<=a/\a<256:=by
 obtain⟨a,rfl,rfl,w⟩:=h.int_inv Tryz.underlying68;have w:=qhb w;exact⟨a,rfl,by omega,by omega⟩
theorem qcZ{ts:List T}{d:DataW Hp}(h:CT P17 3 ts d):∃a:Int,ts=[iI a]/\-9223372036854775808<=a/\a<=9223372036854775807:=by
 obtain⟨a,rfl,rfl,w⟩:=h.int_inv Tryz.underlying3;exact⟨a,rfl,qhu w⟩
theorem qiC{ts:List T}{d:DataW Hp}(h:CT P17 70 ts d):∃s:Sti,ts=s.c/\s.Ok:=by
 obtain⟨parts,ds,rfl,rfl,hs⟩:=CT.struct_inv Tryz.underlying70 h;clear h;rename _=>h;change CTs P17 [68,5,3,3,4] parts ds at h;obtain⟨p1,_,d1,_,rfl,rfl,h1,h⟩:=h.cons;obtain⟨p2,_,d2,_,rfl,rfl,h2,h⟩:=h.cons;obtain⟨p3,_,d3,_,rfl,rfl,h3,h⟩:=h.cons;obtain⟨p4,_,d4,_,rfl,rfl,h4,h⟩:=h.cons;obtain⟨p5,_,d5,_,rfl,rfl,h5,h⟩:=h.cons;obtain⟨rfl,rfl⟩:=h.nil;obtain⟨k,rfl,k1⟩:=qgq h1;obtain⟨y,rfl,y1⟩:=qfa h2;obtain⟨a,rfl,a1⟩:=qcZ h3;obtain⟨b,rfl,b1⟩:=qcZ h4;obtain⟨f,rfl,_⟩:=h5.bool_inv Tryz.underlying4;exact⟨⟨k,y,a,b,f⟩,rfl,k1,y1,a1,b1⟩
theorem qg3:(⟨1,1,0,0,false⟩:Sti).Ok:=⟨by decide,by decide,by decide,by decide⟩
theorem qg4{ts:List T}{d:DataW Hp}(h:CT P17 67 ts d):∃(r:Nat->Sti) (n:Nat),(∀j,(r j).Ok)/\∃x,ts=[x]/\Sim x (srV r n none):=by
 rcases h.slice_inv Tryz.underlying67 (by rw[qa7];omega) with⟨rfl,rfl⟩|⟨n,c,g,elems,spare,rfl,rfl,he,hs,hn,hc,hg⟩
 ·exact⟨fun _=>⟨1,1,0,0,false⟩,0,fun _=>qg3,_,rfl,.nilv _ _ (.inl rfl)⟩
 ·have key:∀j,∃s:Sti,s.Ok/\(j<n->g j=s.c):=fun j=>by
   by_cases hj:j<n
   ·obtain⟨s,h1,h2⟩:=qiC (hg j elems[j] (by simp[show j<elems.length by omega]));exact⟨s,h2,fun _=>h1⟩
   ·exact⟨_,qg3,fun h=>absurd h hj⟩
  refine⟨fun j=>(key j).choose,n,fun j=>(key j).choose_spec.1,_,rfl,?_⟩;rw[qa7];refine .view (.inr rfl) fun j hj=>?_;rw[(key j).choose_spec.2 hj];exact .refl _
theorem qhV{ts:List T}{d:DataW Hp}(h:CT P17 25 ts d):∃(C:Nat->Nat->Sti) (ln:Nat->Nat) (m:Nat),(∀i j,(C i j).Ok)/\∃x,ts=[x]/\Sim x (chV C ln m):=by
 rcases h.slice_inv Tryz.underlying25 (by rw[qa8];omega) with⟨rfl,rfl⟩|⟨n,c,g,elems,spare,rfl,rfl,he,hs,hn,hc,hg⟩
 ·exact⟨fun _ _=>⟨1,1,0,0,false⟩,fun _=>0,0,fun _ _=>qg3,_,rfl,.nilv _ _ (.inl rfl)⟩
 ·have key:∀j,∃(r:Nat->Sti) (l:Nat),(∀k,(r k).Ok)/\(j<n->∃x,g j=[x]/\Sim x (srV r l none)):=fun j=>by
   by_cases hj:j<n
   ·obtain⟨r,l,h1,x,h2,h3⟩:=qg4 (hg j elems[j] (by simp[show j<elems.length by omega]));exact⟨r,l,h1,fun _=>⟨x,h2,h3⟩⟩
   ·exact⟨fun _=>_,0,fun _=>qg3,fun h=>absurd h hj⟩
  refine⟨fun j=>(key j).choose,fun j=>(key j).choose_spec.choose,n,fun i=>(key i).choose_spec.choose_spec.1,_,rfl,?_⟩;rw[qa8];refine .view (.inr rfl) fun j hj=>?_;obtain⟨x,h2,h3⟩:=(key j).choose_spec.choose_spec.2 hj;rw[h2];exact .cons h3 .nil
theorem qgr{ts:List T}{d:DataW Hp}(h:CT P17 27 ts d):∃(C:Nat->Nat->Sti) (ln:Nat->Nat) (m:Nat),(∀i j,(C i j).Ok)/\Sim (JQ P17 27 ts) (.agg [chV C ln m]):=by
 obtain⟨parts,ds,rfl,rfl,hs⟩:=CT.struct_inv Tryz.underlying27 h;clear h;rename _=>h;change CTs P17 [25] parts ds at h;obtain⟨p1,_,d1,_,rfl,rfl,h1,h⟩:=h.cons;obtain⟨rfl,rfl⟩:=h.nil;obtain⟨C,ln,m,a1,x,rfl,a2⟩:=qhV h1;refine⟨C,ln,m,a1,?_⟩;rw[show JQ P17 27 ([[x]].flatten) = .agg [x] by simp[JQ,qgp]];exact .agg (.cons a2 .nil)
theorem qg5(b:Int):JQ Tryz.prog 5 [uI b] = uI b:=by simp[JQ,show zY Tryz.prog 5=false by kernel_rfl]
theorem qg6(b:Int):JQ Tryz.prog 3 [iI b] = iI b:=by simp[JQ,show zY Tryz.prog 3=false by kernel_rfl]
end
end Go.Ab

