/- A part of the proof: nothing is assumed. -/
import Derived.Test.YtifccdcnhibceaaGreatDoorP5
import Derived.Test.YtifccdcnhibceaaGreatDoorP4
import Derived.Test.YtifccdcnhibceaaGreatDoorP6
set_option linter.all false
namespace Go.Ab
open Go.Proofs
structure Sti where
 (k y a b:Int) (f:Bool)
def Sti.c (s:Sti):List T:=[.int .u8 s.k,.int .u8 s.y,.int .i64 s.a,.int .i64 s.b,.bool s.f]
def rwV (r:Nat->Sti) (n:Nat) (c:Option Nat):T:=.view 5 n (fun j=>(r j).c) c
def us113 (y:Int):T:=.fn 113 [.vp [.int .u8 y]]
def v137 (r:Nat->Sti) (n:Nat) (c:Option Nat) (y:Int) (i:Nat):List T:=[rwV r n c,us113 y,.int .i64 n,.int .i64 i]
noncomputable def K137 (p:List T->T->Prop) (s:Sti) (y:Int):Orc:=noneO.add 113 (callF p fun _=>some (.bool (decide (s.y = y))))
noncomputable def K114 (p:List T->T->Prop) (x:Int):Orc:=noneO.add 137 (callF p fun _=>some (.int .i64 x))
noncomputable def l137 (x:List T->Heap->Ex->List T->Heap->Prop) (b:Bool) (k:Nat):List (Nat × (List T->Heap->LT)):=[(2,loopF x (.ite b (.ret .ret [.int .i64 k] []) (.ret (.exit 0) [.undef] [])))]
theorem usesT (s:Sti) (y:Int):ToldOk P16 G16 113 [.agg s.c,.vp [.int .u8 y]] (.bool (decide (s.y = y))):=by
 refine stepV_told hm16 hn16 none_ok (K:=noneO) (A:=A16) (m:=0) ?_
 rw [(show stepV P16 G16 A16 noneO 0 113 [.agg s.c,.vp [.int .u8 y]] =
(
 bif decide (s.y = y) then
 some (.bool true)
 else
 some (.bool false)) from by kernel_rfl)]
 cases decide (s.y = y) <;> rfl
theorem i137 (r:Nat->Sti) (n:Nat) (c:Option Nat) (y:Int) (i:Nat) (p:List T->T->Prop):iterR P16 G16 A16 (K137 p (r i) y) 0 137 [] 2 (v137 r n c y i) [] =
(
 bif decide (Int.ofNat i<Int.ofNat n) then
 bif decide (0<=Int.ofNat i)&&decide (Int.ofNat i<Int.ofNat n) then
 bif decF (p [.agg (r i).c,.vp [.int .u8 y]] (.bool (decide ((r i).y = y)))) then
 bif decide ((r i).y = y) then
 some ((.ret,[.int .i64 (.ofNat i)],[]))
 else
 some ((.normal,[rwV r n c,us113 y,.int .i64 (.ofNat n),.int .i64 (IntKind.i64.wrap (Int.ofNat i+1))],[]))
 else none else none else
 some ((.exit 0,[.undef],[]))):=by kernel_rfl
theorem k137 (r:Nat->Sti) (n:Nat) (c:Option Nat) (y:Int) (b:Bool) (k:Nat) (x:List T->Heap->Ex->List T->Heap->Prop):stepL P16 G16 A16 noneO 0 137 (l137 x b k) [rwV r n c,us113 y] =
(
 bif b then
 bif decF (x (v137 r n c y (nat_lit 0)) [] .ret [.int .i64 (.ofNat k)] []) then
 some (.int .i64 (.ofNat k))
 else none else
 bif decF (x (v137 r n c y (nat_lit 0)) [] (.exit 0) [.undef] []) then
 some (.int .i64 (-1:Int))
 else
 none):=by kernel_rfl
theorem k114 (r:Nat->Sti) (n:Nat) (c:Option Nat) (y x:Int) (p:List T->T->Prop):stepV P16 G16 A16 (K114 p x) 0 114 [rwV r n c,us113 y] =
(
 bif decF (p [rwV r n c,us113 y] (.int .i64 x)) then
 bif decide (0<=x) then
 some (.bool true)
 else
 some (.bool false)
 else
 none):=by kernel_rfl
def usB (r:Nat->Sti) (n:Nat) (y:Int):Bool:=!(allB (fun i=>!(decide ((r i).y = y))) n)
theorem scan137 (r:Nat->Sti) (n:Nat) (c:Option Nat) (y:Int) (hn:n<=1000000):(usB r n y = false->LoopOk P16 G16 (A16 137) 137 2 (litS (v137 r n c y 0) [] (.exit 0) [.undef] []))/\(usB r n y = true->∃ e v h,(e = .ret/\h = []/\∃ k:Nat,v = [.int .i64 k])/\LoopOk P16 G16 (A16 137) 137 2 (litS (v137 r n c y 0) [] e v h)):=by
 obtain ⟨p,hp⟩:=is_val P16 G16 113
 have key:=loop_scanE (P:=P16) (Gl:=G16) (e1:=.exit 0) (v1:=[.undef]) (h1:=[]) hm16 (f:=137) (r:=2) (by kernel_rfl) (an:=A16 137) (fun i=>v137 r n c y i) (fun _=>[]) (fun i=>!(decide ((r i).y = y))) (n:=n) (fun e v h=>e = .ret/\h = []/\∃ k:Nat,v = [.int .i64 k]) (fun i hi _ hg=>?_) (fun i hi _ hg=>?_) (fun _=>?_)
 ·unfold usB
  exact ⟨fun h=>key.1 (by simpa using h),fun h=>key.2 (by simpa using h)⟩
 ·have t1:=usesT (r i) y
  refine Step.mk0 (A:=A16) (m:=0) (K:=K137 p (r i) y) (told_add none_ok (callF_told hp)) rfl rfl loops0 (h1:=[]) ?_ .nil
  rw [i137,up1 (by omega)]
  have q:¬ (r i).y = y:=by simpa using hg
  exact BT (BT (BS (BF rfl)))
 ·have t1:=usesT (r i) y
  refine ⟨_,_,_,⟨rfl,rfl,i,rfl⟩,?_⟩
  refine Last.mk0 (A:=A16) (m:=0) (K:=K137 p (r i) y) (told_add none_ok (callF_told hp)) rfl rfl loops0 (h1:=[]) (by simp) ?_ .nil
  rw [i137]
  have q:(r i).y = y:=by simpa using hg
  exact BT (BT (BS (BT rfl)))
 ·refine Last.mk0 (A:=A16) (m:=0) (K:=K137 p (r n) y) (told_add none_ok (callF_told hp)) rfl rfl loops0 (h1:=[]) (by simp) ?_ .nil
  rw [i137]
  exact BF rfl
theorem cont114 (r:Nat->Sti) (n:Nat) (c:Option Nat) (y:Int) (hn:n<=1000000):ToldOk P16 G16 114 [rwV r n c,us113 y] (.bool (usB r n y)):=by
 obtain ⟨x,hx⟩:=is_loop P16 G16 (A16 137) 137 2
 obtain ⟨p,hp⟩:=is_val P16 G16 137
 have sc:=scan137 r n c y hn
 cases hb:usB r n y
 ·have t1:=sc.1 hb
  have t2:ToldOk P16 G16 137 [rwV r n c,us113 y] (.int .i64 (-1)):=by
   refine stepL_told hm16 hn16 (K:=noneO) none_ok (A:=A16) (m:=0) (l:=l137 x false 0) (by kernel_rfl) (loops1 (loopF_ok hx _)) ?_
   rw [k137]
   exact biff (by simp) (BS rfl)
  refine stepV_told hm16 hn16 (K:=K114 p (-1)) (told_add none_ok (callF_told hp)) (A:=A16) (m:=0) ?_
  rw [k114]
  exact BS (biff (by decide) rfl)
 ·obtain ⟨e,v,h,⟨rfl,rfl,k,rfl⟩,t1⟩:=sc.2 hb
  have t2:ToldOk P16 G16 137 [rwV r n c,us113 y] (.int .i64 k):=by
   refine stepL_told hm16 hn16 (K:=noneO) none_ok (A:=A16) (m:=0) (l:=l137 x true k) (by kernel_rfl) (loops1 (loopF_ok hx _)) ?_
   rw [k137]
   exact bift rfl (BS rfl)
  refine stepV_told hm16 hn16 (K:=K114 p k) (told_add none_ok (callF_told hp)) (A:=A16) (m:=0) ?_
  rw [k114]
  exact BS (bift (by simp) rfl)
open Go.Proofs
structure Idd where
 (y n:Int)
structure Pss where
 (y n:Int) (f:Bool) (d:Int)
def Idd.c (a:Idd):List T:=[.int .u8 a.y,.int .i64 a.n]
def Pss.c (p:Pss):List T:=[.int .u8 p.y,.int .i64 p.n,.bool p.f,.int .u8 p.d]
def Pss.id (p:Pss):Idd:=⟨p.y,p.n⟩
def idV (g:Nat->Idd) (n:Nat) (c:Option Nat):T:=.view 2 n (fun j=>(g j).c) c
def psV (g:Nat->Pss) (n:Nat) (c:Option Nat):T:=.view 4 n (fun j=>(g j).c) c
def id0:Idd:=⟨0,0⟩
def ps0:Pss:=⟨0,0,false,0⟩
def idB (v:Nat) (l:List Idd):Blk:=⟨v,2,l.length,fun j=>(l.getD j id0).c,true,false,none⟩
def psB (v:Nat) (l:List Pss):Blk:=⟨v,4,l.length,fun j=>(l.getD j ps0).c,true,false,none⟩
def idL (l:List Idd):T:=idV (fun j=>l.getD j id0) l.length none
def psL (l:List Pss):T:=psV (fun j=>l.getD j ps0) l.length none
structure Slo where
 (b:Int) (l:List Idd)
def Slo.c (s:Slo):List T:=[.int .u8 s.b,idL s.l]
def sl0:Slo:=⟨0,[]⟩
def slV (l:List Slo) (c:Option Nat):T:=.view 2 l.length (fun j=>(l.getD j sl0).c) c
theorem app_idB {l:List Idd} {x:Idd} (j:Nat) (hj:j<l.length+1):((l ++ [x]).getD j id0).c = (bif Nat.blt j l.length then (l.getD (0+j) id0).c else [x.c].getD (0+(j - l.length)) []) :=
 app_get (enc:=Idd.c) (g2:=fun k=>[x.c].getD (0+k) []) rfl hj
theorem app_psB {l:List Pss} {x:Pss} (j:Nat) (hj:j<l.length+1):((l ++ [x]).getD j ps0).c = (bif Nat.blt j l.length then (l.getD (0+j) ps0).c else [x.c].getD (0+(j - l.length)) []) :=
 app_get (enc:=Pss.c) (g2:=fun k=>[x.c].getD (0+k) []) rfl hj
open Go.Proofs
def ptV (L:List (List Idd)) (c:Option Nat):T:=.view 1 L.length (fun j=>[idL (L.getD j [])]) c
def v80 (L:List (List Idd)) (c:Option Nat) (x i:Nat):List T:=[ptV L c,.int .i64 x,ptV L c,.int .i64 L.length,.int .i64 i]
def jB (N:Nat) (f:List Idd):Blk:=⟨0,2,N,fun e=>(f.getD e id0).c,true,false,none⟩
def w80 (L:List (List Idd)) (c:Option Nat) (N at' i:Nat):List T:=[.own 0 0 0 N (some N),.int .i64 at',ptV L c,.int .i64 L.length,.int .i64 i]
theorem i80a (L:List (List Idd)) (c:Option Nat) (x i:Nat):iterR P16 G16 A16 noneO 0 80 [] 3 (v80 L c x i) [] =
(
 bif decide (Int.ofNat i<Int.ofNat L.length) then
 bif decide (0<=Int.ofNat i)&&decide (Int.ofNat i<Int.ofNat L.length) then
 some ((.normal,[ptV L c,.int .i64 (IntKind.i64.wrap (Int.ofNat x+Int.ofNat (L.getD i []).length)),ptV L c,.int .i64 (.ofNat L.length),.int .i64 (IntKind.i64.wrap (Int.ofNat i+1))],[]))
 else none else
 some ((.exit 0,[ptV L c,.int .i64 (.ofNat x)],[]))):=by kernel_rfl
theorem i80b (L:List (List Idd)) (c:Option Nat) (N at' i:Nat) (f:List Idd):iterR P16 G16 A16 noneO 0 80 [] 10 (w80 L c N at' i) [jB N f] =
(
 bif decide (Int.ofNat i<Int.ofNat L.length) then
 bif decide (0<=Int.ofNat i)&&decide (Int.ofNat i<Int.ofNat L.length) then
 bif decide (0<=Int.ofNat at')&&decide (Int.ofNat at'<=Int.ofNat N)&&decide (Int.ofNat N<=Int.ofNat N) then
 bif ((0:Nat)+at'+(N - at')).ble N then
 some ((.normal,[.own 0 0 0 N (some N),.int .i64 (IntKind.i64.wrap (Int.ofNat at'+Int.ofNat ((L.getD i []).length.min (N - at')))),ptV L c,.int .i64 (.ofNat L.length),.int .i64 (IntKind.i64.wrap (Int.ofNat i+1))],[.mk 0 2 N (fun j =>
 bif ((0:Nat)+at').ble j&&j.blt (0+at'+(L.getD i []).length.min (N - at')) then ((L.getD i []).getD (j - ((0:Nat)+at')) (Idd.mk (0:Int) (0:Int))).c
 else (f.getD j (Idd.mk (0:Int) (0:Int))).c) true false
 none]))
 else none else none else none else
 some ((.exit 2,[.own 0 0 0 N (some N)],[jB N f]))):=by kernel_rfl
theorem k80 (L:List (List Idd)) (c:Option Nat) (N:Nat) (f:List Idd):stepL P16 G16 A16 noneO 0 80 [(3,litS (v80 L c 0 0) [] (.exit 0) [ptV L c,.int .i64 N] []),(10,litS (w80 L c N 0 0) [jB N []] (.exit 2) [.own 0 0 0 N (some N)] [jB N f])] [ptV L c] =
(
 bif weakF (v80 L c (nat_lit 0) (nat_lit 0)) [] (v80 L c (nat_lit 0) (nat_lit 0)) [] then
 bif decide (0<=Int.ofNat N)&&decide (Int.ofNat N<=Int.ofNat N)&&decide (Int.ofNat N * 16<=140737488355328)&&decide (Int.ofNat N<=9223372036854775807) then
 bif weakF (w80 L c N (nat_lit 0) (nat_lit 0)) [.mk 0 2 N (fun x=>[.int .u8 0,.int .i64 0]) true false
 none] (w80 L c N (nat_lit 0) (nat_lit 0)) [.mk 0 2 N (fun e=>[.int .u8 0,.int .i64 0]) true false
 none] then
 some (bif ((0:Nat)+N).ble N then .fresh true (2:Nat) N (fun j=>(f.getD ((0:Nat)+j) (Idd.mk (0:Int) (0:Int))).c) N (some N)
 else .undef)
 else none else none else
 none):=by kernel_rfl
theorem take_flat {α:Type} (L:List (List α)) {i:Nat} (h:i<L.length):(L.take (i+1)).flatten = (L.take i).flatten ++ L.getD i []:=by
 rw [List.take_succ,List.flatten_append,List.getElem?_eq_getElem h]
 simp [List.getD_eq_getElem?_getD,List.getElem?_eq_getElem h]
theorem flat_le {α:Type} (L:List (List α)) (i:Nat):((L.take i).flatten).length<=L.flatten.length:=by
 conv=>rhs; rw [← List.take_append_drop i L,List.flatten_append,List.length_append]
 omega
theorem getD_app {α:Type} (l m:List α) (d:α) (e:Nat):(l ++ m).getD e d = if e<l.length then l.getD e d else m.getD (e - l.length) d:=by
 simp only [List.getD_eq_getElem?_getD,List.getElem?_append]
 split <;> rfl
theorem getD_out {α:Type} (l:List α) (d:α) {e:Nat} (h:l.length<=e):l.getD e d = d:=by
 rw [List.getD_eq_getElem?_getD,List.getElem?_eq_none h]; rfl
theorem joinT (L:List (List Idd)) (c:Option Nat) (h1:L.length<=1000000) (h2:L.flatten.length<=1000000):ToldOk P16 G16 80 [ptV L c] (.fresh true 2 L.flatten.length (fun j=>(L.flatten.getD j id0).c) L.flatten.length (some L.flatten.length)):=by
 have l1:LoopOk P16 G16 (A16 80) 80 3 (litS (v80 L c 0 0) [] (.exit 0) [ptV L c,.int .i64 L.flatten.length] []):=by
  refine loop_steps hm16 (by kernel_rfl) (fun i=>v80 L c ((L.take i).flatten).length i) (fun _=>[]) (n:=L.length) (fun i hi=>?_) ?_
  ·have e:=take_flat L hi
   have hle:=flat_le L (i+1)
   rw [e,List.length_append] at hle
   simp only [e,List.length_append]
   generalize ((L.take i).flatten).length = x at *
   generalize hk:(L.getD i []).length = k at *
   refine Step.mk0 (A:=A16) (m:=0) none_ok rfl rfl loops0 (h1:=[]) ?_ .nil
   rw [i80a,hk,up1 (by omega),wr64 (x:=Int.ofNat x+Int.ofNat k) (by show (_:Int)<=(x:Int)+(k:Int); omega) (by show (x:Int)+(k:Int)<=_; omega)]
   exact BT (BT rfl)
  ·refine Last.mk0 (A:=A16) (m:=0) none_ok rfl rfl loops0 (h1:=[]) (by simp) ?_ .nil
   rw [i80a,List.take_length]
   exact BF rfl
 have l2:LoopOk P16 G16 (A16 80) 80 10 (litS (w80 L c L.flatten.length 0 0) [jB L.flatten.length []] (.exit 2) [.own 0 0 0 L.flatten.length (some L.flatten.length)] [jB L.flatten.length L.flatten]):=by
  have hN:L.flatten.length<=1000000:=h2
  refine loop_steps hm16 (by kernel_rfl) (fun i=>w80 L c L.flatten.length ((L.take i).flatten).length i) (fun i=>[jB L.flatten.length (L.take i).flatten]) (n:=L.length) (fun i hi=>?_) ?_
  ·have e:=take_flat L hi
   have hle:=flat_le L (i+1)
   rw [e,List.length_append] at hle
   simp only [e,List.length_append]
   generalize hf:(L.take i).flatten = f at *
   generalize L.flatten.length = N at *
   generalize hp:L.getD i [] = p at *
   have hmin:p.length.min (N - f.length) = p.length:=Nat.min_eq_left (by omega)
   refine Step.mk0 (A:=A16) (m:=0) none_ok rfl rfl loops0 (h1:=[⟨0,2,N,fun j=>bif ((0:Nat)+f.length).ble j&&j.blt ((0:Nat)+f.length+p.length) then (p.getD (j - ((0:Nat)+f.length)) id0).c else (f.getD j id0).c,true,false,none⟩]) ?_ ?_
   ·rw [i80b,hp,hmin,up1 (by omega),wr64 (x:=Int.ofNat f.length+Int.ofNat p.length) (by show (_:Int)<=(f.length:Int)+(p.length:Int); omega) (by show (f.length:Int)+(p.length:Int)<=_; omega)]
    exact BT (BT (BT (BT rfl)))
   ·refine .cons ⟨rfl,rfl,rfl,id,fun j hj=>?_⟩ .nil
    show ((f ++ p).getD j id0).c = (bif ((0:Nat)+f.length).ble j&&j.blt ((0:Nat)+f.length+p.length) then (p.getD (j - ((0:Nat)+f.length)) id0).c else (f.getD j id0).c)
    rw [Nat.zero_add,getD_app]
    by_cases q:j<f.length
    ·rw [if_pos q,show f.length.ble j = false from by rw [← Bool.not_eq_true,nble]; omega]; rfl
    ·rw [if_neg q,bleT (by omega)]
     by_cases q2:j<f.length+p.length
     ·rw [bltT q2]; rfl
     ·rw [show j.blt (f.length+p.length) = false from by rw [← Bool.not_eq_true,nblt]; omega,getD_out p id0 (by omega),getD_out f id0 (by omega)]; rfl
  ·refine Last.mk0 (A:=A16) (m:=0) none_ok rfl rfl loops0 (h1:=[jB L.flatten.length L.flatten]) (by simp) ?_ ?_
   ·rw [List.take_length,i80b]
    exact BF rfl
   ·exact .refl _
 have t:ToldOk P16 G16 80 [ptV L c] (.fresh true 2 L.flatten.length (fun j=>(L.flatten.getD (0+j) id0).c) L.flatten.length (some L.flatten.length)):=by
  generalize hF:L.flatten = F at *
  generalize hN:F.length = N at *
  refine stepL_told hm16 hn16 none_ok (A:=A16) (m:=0) (by kernel_rfl) (loopsC l1 (loops1 l2)) ?_
  rw [k80]
  refine bift (weakF_of ⟨rfl,.refl _⟩) ?_
  refine BT ?_
  refine bift (weakF_of ⟨rfl,.refl _⟩) ?_
  rw [Nat.zero_add,bleT (Nat.le_refl _)]
  rfl
 simp only [Nat.zero_add] at t
 exact t
open Go.Proofs
def b46 (l:List Slo) (i:Nat):Blk:=⟨0,1,l.length,fun e=>[bif Nat.blt e i then idL (l.getD e sl0).l else .nils],false,false,none⟩
def e46 (l:List Slo):Blk:=⟨0,1,l.length,fun e=>[idL (l.getD e sl0).l],false,false,none⟩
def v46 (l:List Slo) (c:Option Nat) (i:Nat):List T:=[.own 0 0 0 l.length (some l.length),slV l c,.int .i64 l.length,.int .i64 i]
noncomputable def K46 (p:List T->T->Prop) (N:Nat) (f:Nat->Idd):Orc:=noneO.add 80 (callF p fun _=>some (.fresh true 2 N (fun j=>(f j).c) N (some N)))
theorem i46 (l:List Slo) (c:Option Nat) (i:Nat):iterR P16 G16 A16 noneO 0 46 [] 3 (v46 l c i) [b46 l i] =
(
 bif decide (Int.ofNat i<Int.ofNat l.length) then
 bif decide (0<=Int.ofNat i)&&decide (Int.ofNat i<Int.ofNat l.length) then
 bif decide (0<=Int.ofNat i)&&decide (Int.ofNat i<Int.ofNat l.length) then
 bif ((0:Nat)+i).blt l.length&&true&&true&&true then
 some ((.normal,[.own 0 0 0 l.length (some l.length),slV l c,.int .i64 (.ofNat l.length),.int .i64 (IntKind.i64.wrap (Int.ofNat i+1))],[.mk 0 1 l.length (fun e=>[bif e==0+i then idL (l.getD i (Slo.mk (0:Int) [])).l
 else
 bif e.blt i then idL (l.getD e (Slo.mk (0:Int) [])).l
 else .nils]) false false
 none]))
 else none else none else none else
 some ((.exit 0,[.own 0 0 0 l.length (some l.length)],[b46 l i]))):=by kernel_rfl
theorem k46 (l:List Slo) (c:Option Nat) (N:Nat) (f:Nat->Idd) (p:List T->T->Prop):stepL P16 G16 A16 (K46 p N f) 0 46 [(3,litS (v46 l c 0) [b46 l 0] (.exit 0) [.own 0 0 0 l.length (some l.length)] [e46 l])] [slV l c] =
(
 bif decide (0<=Int.ofNat l.length)&&decide (Int.ofNat l.length<=Int.ofNat l.length)&&decide (Int.ofNat l.length * 24<=140737488355328)&&decide (Int.ofNat l.length<=9223372036854775807) then
 bif weakF (v46 l c (nat_lit 0)) [.mk 0 1 l.length (fun x=>[.nils]) false false
 none] (v46 l c (nat_lit 0)) [.mk 0 1 l.length (fun e=>[.nils]) false false
 none] then
 bif decF (p [bif ((0:Nat)+l.length).ble l.length then .view 1 l.length (fun j=>[idL (l.getD ((0:Nat)+j) (Slo.mk (0:Int) [])).l]) (some l.length)
 else .undef] (.fresh true (2:Nat) N (fun j=>(f j).c) N (some N))) then
 some (bif ((0:Nat)+N).ble N then .fresh true (2:Nat) N (fun j=>(f ((0:Nat)+j)).c) N (some N)
 else .undef)
 else none else none else
 none):=by kernel_rfl
def hel (l:List Slo):List Idd:=(l.map Slo.l).flatten
theorem heldT (l:List Slo) (c:Option Nat) (h1:l.length<=1000000) (h2:(hel l).length<=1000000):ToldOk P16 G16 46 [slV l c] (.fresh true 2 (hel l).length (fun j=>((hel l).getD j id0).c) (hel l).length (some (hel l).length)):=by
 obtain ⟨p,hp⟩:=is_val P16 G16 80
 have l1:LoopOk P16 G16 (A16 46) 46 3 (litS (v46 l c 0) [b46 l 0] (.exit 0) [.own 0 0 0 l.length (some l.length)] [e46 l]):=by
  refine loop_steps hm16 (by kernel_rfl) (fun i=>v46 l c i) (fun i=>[b46 l i]) (n:=l.length) (fun i hi=>?_) ?_
  ·refine Step.mk0 (A:=A16) (m:=0) none_ok rfl rfl loops0 (h1:=[⟨0,1,l.length,fun e=>[bif e==(0:Nat)+i then idL (l.getD i sl0).l else bif e.blt i then idL (l.getD e sl0).l else T.nils],false,false,none⟩]) ?_ ?_
   ·rw [i46,up1 (by omega)]
    exact BT (BT (BT (BT rfl)))
   ·refine .cons ⟨rfl,rfl,rfl,id,fun j hj=>?_⟩ .nil
    show [_] = [_]
    rw [Nat.zero_add]
    congr 1
    by_cases q:j = i
    ·subst q; rw [beq_self_eq_true,bltT (Nat.lt_succ_self j)]; rfl
    ·rw [beq_eq_false_iff_ne.2 q]
     by_cases q2:j<i
     ·rw [bltT q2,bltT (show j<i+1 by omega)]; rfl
     ·rw [show j.blt i = false from by rw [← Bool.not_eq_true,nblt]; omega,show j.blt (i+1) = false from by rw [← Bool.not_eq_true,nblt]; omega]; rfl
  ·refine Last.mk0 (A:=A16) (m:=0) none_ok rfl rfl loops0 (h1:=[b46 l l.length]) (by simp) ?_ ?_
   ·rw [i46]
    exact BF rfl
   ·refine .cons ⟨rfl,rfl,rfl,id,fun j hj=>?_⟩ .nil
    show [_] = [_]
    rw [bltT (show j<l.length from hj)]; rfl
 have t1:=joinT (l.map Slo.l) (some l.length) (by simpa using h1) h2
 have t2:ToldOk P16 G16 80 [.view 1 l.length (fun j=>[idL (l.getD j sl0).l]) (some l.length)] (.fresh true 2 (hel l).length (fun j=>((hel l).getD j id0).c) (hel l).length (some (hel l).length)):=by
  refine t1.sim (.cons ?_ .nil)
  unfold ptV
  rw [List.length_map]
  refine .view (.inl rfl) fun j hj=>?_
  have e:(l.map Slo.l).getD j [] = (l.getD j sl0).l:=by
   simp only [List.getD_eq_getElem?_getD,List.getElem?_map,List.getElem?_eq_getElem hj]; rfl
  rw [e]
  exact .refl _
 have t:ToldOk P16 G16 46 [slV l c] (.fresh true 2 (hel l).length (fun j=>((hel l).getD (0+j) id0).c) (hel l).length (some (hel l).length)):=by
  refine stepL_told hm16 hn16 (told_add none_ok (callF_told hp)) (K:=K46 p (hel l).length (fun j=>(hel l).getD j id0)) (A:=A16) (m:=0) (by kernel_rfl) (loops1 l1) ?_
  rw [k46]
  refine BT ?_
  refine bift (weakF_of ⟨rfl,.cons ⟨rfl,rfl,rfl,id,fun j _=>rfl⟩ .nil⟩) ?_
  refine bift ?_ ?_
  ·rw [Nat.zero_add,bleT (Nat.le_refl _),cond_true]
   simp only [Nat.zero_add]
   exact callF_yes hp t2
  ·rw [Nat.zero_add,bleT (Nat.le_refl _)]
   rfl
 simp only [Nat.zero_add] at t
 exact t
open Go.Proofs
def rBB (n:Nat) (f:Nat->Pss):Blk:=⟨0,4,n,fun e=>(f e).c,true,false,none⟩
def v52 (n:Nat) (a b:Int):List T:=[.own 0 0 0 n (some n),.int .i64 a,.int .i64 b]
theorem i52 (n a b:Nat) (f:Nat->Pss):iterR P16 G16 A16 noneO 0 52 [] 1 (v52 n a b) [rBB n f] =
(
 bif decide (Int.ofNat a<Int.ofNat b) then
 bif decide (0<=Int.ofNat b)&&decide (Int.ofNat b<Int.ofNat n) then
 bif ((0:Nat)+b).blt n then
 bif decide (0<=Int.ofNat a)&&decide (Int.ofNat a<Int.ofNat n) then
 bif ((0:Nat)+a).blt n then
 bif decide (0<=Int.ofNat a)&&decide (Int.ofNat a<Int.ofNat n) then
 bif ((0:Nat)+a).blt n&&true&&true&&true then
 bif decide (0<=Int.ofNat b)&&decide (Int.ofNat b<Int.ofNat n) then
 bif ((0:Nat)+b).blt n&&true&&true&&true then
 some ((.normal,v52 n (IntKind.i64.wrap (Int.ofNat a+1)) (IntKind.i64.wrap (Int.ofNat b - 1)),[.mk 0 4 n (fun e=>[.int .u8 (bif e==0+b then (f ((0:Nat)+a)).y
 else
 bif e==0+a then (f ((0:Nat)+b)).y
 else (f e).y),.int .i64 (bif e==0+b then (f ((0:Nat)+a)).n
 else
 bif e==0+a then (f ((0:Nat)+b)).n
 else (f e).n),.bool (bif e==0+b then (f ((0:Nat)+a)).f
 else
 bif e==0+a then (f ((0:Nat)+b)).f
 else (f e).f),.int .u8 (bif e==0+b then (f ((0:Nat)+a)).d
 else
 bif e==0+a then (f ((0:Nat)+b)).d
 else (f e).d)]) true false
 none]))
 else none else none else none else none else none else none else none else none else
 some ((.exit 0,[],[rBB n f]))):=by kernel_rfl
theorem i52x (n a:Nat) (b:Int) (f:Nat->Pss):iterR P16 G16 A16 noneO 0 52 [] 1 (v52 n a b) [rBB n f] =
(
 bif decide (Int.ofNat a<b) then
 bif decide (0<=b)&&decide (b<Int.ofNat n) then
 bif ((0:Nat)+b.toNat).blt n then
 bif decide (0<=Int.ofNat a)&&decide (Int.ofNat a<Int.ofNat n) then
 bif ((0:Nat)+a).blt n then
 bif decide (0<=Int.ofNat a)&&decide (Int.ofNat a<Int.ofNat n) then
 bif ((0:Nat)+a).blt n&&true&&true&&true then
 bif decide (0<=b)&&decide (b<Int.ofNat n) then
 bif ((0:Nat)+b.toNat).blt n&&true&&true&&true then
 some ((.normal,v52 n (IntKind.i64.wrap (Int.ofNat a+1)) (IntKind.i64.wrap (b - 1)),[.mk 0 4 n (fun e=>[.int .u8 (bif e==0+b.toNat then (f ((0:Nat)+a)).y
 else
 bif e==0+a then (f ((0:Nat)+b.toNat)).y
 else (f e).y),.int .i64 (bif e==0+b.toNat then (f ((0:Nat)+a)).n
 else
 bif e==0+a then (f ((0:Nat)+b.toNat)).n
 else (f e).n),.bool (bif e==0+b.toNat then (f ((0:Nat)+a)).f
 else
 bif e==0+a then (f ((0:Nat)+b.toNat)).f
 else (f e).f),.int .u8 (bif e==0+b.toNat then (f ((0:Nat)+a)).d
 else
 bif e==0+a then (f ((0:Nat)+b.toNat)).d
 else (f e).d)]) true false
 none]))
 else none else none else none else none else none else none else none else none else
 some ((.exit 0,[],[rBB n f]))):=by kernel_rfl
theorem k52 (n:Nat) (f g:Nat->Pss):stepR P16 G16 A16 noneO 0 52 [(1,litS (v52 n 0 (n - 1)) [rBB n f] (.exit 0) [] [rBB n g])] [.own 0 0 0 n (some n)] [rBB n f] =
(
 bif weakF (v52 n (0:Int) (IntKind.i64.wrap (Int.ofNat n - 1))) [rBB n f] (v52 n (0:Int) (Int.ofNat n - 1)) [rBB n f] then
 some ((.tup [],[rBB n g]))
 else
 none):=by kernel_rfl
def rvF (n:Nat) (f:Nat->Pss) (a e:Nat):Pss:=if e<a ∨ (n - a<=e/\0<a) then f (n - 1 - e) else f e
theorem rvF_step (n:Nat) (f:Nat->Pss) {a b:Nat} (hb:b = n - 1 - a) (hab:a<b) (e:Nat) (he:e<n):rvF n f (a+1) e = if e = b then rvF n f a a else if e = a then rvF n f a b else rvF n f a e:=by
 have h1:rvF n f a a = f a:=by unfold rvF; rw [if_neg (by omega)]
 have h2:rvF n f a b = f b:=by unfold rvF; rw [if_neg (by omega)]
 rw [h1,h2]
 by_cases q:e = b
 ·rw [if_pos q]
  unfold rvF
  rw [if_pos (by omega),show n - 1 - e = a by omega]
 ·rw [if_neg q]
  by_cases q2:e = a
  ·rw [if_pos q2]
   unfold rvF
   rw [if_pos (by omega),show n - 1 - e = b by omega]
  ·rw [if_neg q2]
   unfold rvF
   by_cases q3:e<a ∨ (n - a<=e/\0<a)
   ·rw [if_pos q3,if_pos (by omega)]
   ·rw [if_neg q3,if_neg (by omega)]
theorem revT (n:Nat) (f:Nat->Pss) (hn:n<=1000000):ToldRef P16 G16 52 [.own 0 0 0 n (some n)] [rBB n f] (.tup []) [rBB n (fun e=>f (n - 1 - e))]:=by
 have l1:LoopOk P16 G16 (A16 52) 52 1 (litS (v52 n 0 (n - 1)) [rBB n f] (.exit 0) [] [rBB n (fun e=>f (n - 1 - e))]):=by
  have:=loop_steps (P:=P16) (Gl:=G16) (e1:=.exit 0) (vs1:=[]) (h1:=[rBB n (fun e=>f (n - 1 - e))]) hm16 (f:=52) (r:=1) (by kernel_rfl) (an:=A16 52) (fun a=>v52 n a (n - 1 - a)) (fun a=>[rBB n (rvF n f a)]) (n:=n / 2) (fun a ha=>?_) ?_
  ·have e0:rvF n f 0 = f:=by funext e; unfold rvF; rw [if_neg (by omega)]
   have e3:(n:Int) - 1 - ((0:Nat):Int) = n - 1:=by omega
   rw [e0,e3] at this
   exact this
  ·obtain ⟨b,hb⟩:∃ b,b = n - 1 - a:=⟨_,rfl⟩
   have hab:a<b:=by omega
   have e1:(n:Int) - 1 - (a:Int) = Int.ofNat b:=by show _ = (b:Int); omega
   have e2:(n:Int) - 1 - ((a+1:Nat):Int) = Int.ofNat b - 1:=by show _ = (b:Int) - 1; omega
   have hs:=rvF_step n f hb hab
   rw [e1,e2]
   generalize rvF n f a = F at *
   generalize rvF n f (a+1) = F2 at *
   refine Step.mk0 (A:=A16) (m:=0) none_ok rfl rfl loops0 (h1:=[Blk.mk 0 4 n (fun e=>[T.int IntKind.u8 (bif e==0+b then (F (0+a)).y else bif e==0+a then (F (0+b)).y else (F e).y),T.int IntKind.i64 (bif e==0+b then (F (0+a)).n else bif e==0+a then (F (0+b)).n else (F e).n),T.bool (bif e==0+b then (F (0+a)).f else bif e==0+a then (F (0+b)).f else (F e).f),T.int IntKind.u8 (bif e==0+b then (F (0+a)).d else bif e==0+a then (F (0+b)).d else (F e).d)]) true false none]) ?_ ?_
   ·have hh:=i52 n a b F
    rw [up1 (by omega),wr64 (x:=Int.ofNat b - 1) (by show (_:Int)<=(b:Int) - 1; omega) (by show (b:Int) - 1<=_; omega)] at hh
    refine hh.trans ?_
    clear hh
    exact BT (BT (BT (BT (BT (BT (BT (BT (BT rfl))))))))
   ·refine .cons ⟨rfl,rfl,rfl,id,fun j hj=>?_⟩ .nil
    show (F2 j).c = [_,_,_,_]
    rw [hs j hj,Nat.zero_add,Nat.zero_add]
    by_cases q:j = b
    ·rw [if_pos q,beq_iff_eq.2 q]; rfl
    ·rw [if_neg q,beq_eq_false_iff_ne.2 q]
     by_cases q2:j = a
     ·rw [if_pos q2,beq_iff_eq.2 q2]; rfl
     ·rw [if_neg q2,beq_eq_false_iff_ne.2 q2]; rfl
  ·refine Last.mk0 (A:=A16) (m:=0) none_ok rfl rfl loops0 (h1:=[rBB n (rvF n f (n / 2))]) (by simp) ?_ ?_
   ·have hh:=i52x n (n / 2) ((n:Int) - 1 - ((n / 2:Nat):Int)) (rvF n f (n / 2))
    refine hh.trans ?_
    clear hh
    exact biff (by simp; omega) rfl
   ·refine .cons ⟨rfl,rfl,rfl,id,fun j hj=>?_⟩ .nil
    have hj':j<n:=hj
    show (f (n - 1 - j)).c = (rvF n f (n / 2) j).c
    unfold rvF
    by_cases q:j<n / 2 ∨ (n - n / 2<=j/\0<n / 2)
    ·rw [if_pos q]
    ·rw [if_neg q,show n - 1 - j = j by omega]
 refine stepR_told hm16 hn16 none_ok (A:=A16) (m:=0) (by kernel_rfl) (loops1 l1) ?_
 rw [k52,wr64 (x:=Int.ofNat n - 1) (by show (_:Int)<=(n:Int) - 1; omega) (by show (n:Int) - 1<=_; omega)]
 exact bift (weakF_of ⟨rfl,.refl _⟩) rfl
open Go.Proofs
def v24 (b r:Int) (l:List Idd) (o:List Pss) (v i:Nat):List T:=[.int .i64 r,.reg [.int .u8 b,idL l],.own 0 v 0 o.length none,.int .i64 i]
def u24 (b r:Int) (l:List Idd) (o:List Pss) (v i k:Nat):List T:=[.int .i64 r,.reg [.int .u8 b,idL l],.own 0 v 0 o.length none,.int .i64 i,.int .i64 k]
def L24:List Nat:=[0,0,2,1,2,2]
def B24:List Nat:=0 :: 1 :: 2 :: L24
theorem g24a (b r:Int) (l:List Idd) (o:List Pss) (v i:Nat):codeL P16 G16 A16 noneO 0 24 [] (nav (1 :: L24)) [1,2,5,6] (v24 b r l o v i) [psB v o] [1,2,5,6] =
(
 bif decide (Int.ofNat i<Int.ofNat l.length) then
 some ((.normal,v24 b r l o v i,[psB v o]))
 else
 some ((.exit 0,v24 b r l o v i,[psB v o]))):=by kernel_rfl
theorem g24b (b r:Int) (l:List Idd) (o:List Pss) (v i:Nat):codeL P16 G16 A16 noneO 0 24 [] (nav (1 :: B24)) [1,2,5,6] (v24 b r l o v i) [psB v o] [1,2,5,6,7] =
(
 some ((.normal,u24 b r l o v i i,[psB v o]))):=by kernel_rfl
theorem g24c (b r:Int) (l:List Idd) (o:List Pss) (v i k:Nat):codeL P16 G16 A16 noneO 0 24 [] (nav (1 :: 2 :: B24)) [1,2,5,6,7] (u24 b r l o v i k) [psB v o] [1,2,5,6,7] =
(
 bif decide (r = 0) then
 some ((.normal,[.int .i64 r,.reg [.int .u8 b,idL l],.own 0 v 0 o.length
 none,.int .i64 (.ofNat i),.int .i64 (IntKind.i64.wrap (IntKind.i64.wrap (Int.ofNat l.length - 1) - Int.ofNat i))],[psB v o]))
 else
 some ((.normal,u24 b r l o v i k,[psB v o]))):=by kernel_rfl
theorem g24d (b r:Int) (l:List Idd) (o:List Pss) (v i k:Nat):codeL P16 G16 A16 noneO 0 24 [] (nav (2 :: 2 :: B24)) [1,2,5,6,7] (u24 b r l o v i k) [psB v o] [1,2,5,6] =
(
 bif decide (0<=Int.ofNat k)&&decide (Int.ofNat k<Int.ofNat l.length) then
 bif decide (b = 1) then
 bif v==v&&true then
 bif ((0:Nat)+o.length).ble o.length then
 bif ((o.length+(1:Nat)) * (25:Nat)).ble 70368744177664 then
 bif ((0:Nat)+o.length+(1:Nat)).ble o.length then
 some ((.normal,[.int .i64 r,.reg [.int .u8 b,idL l],.own 0 v 0 (o.length+1)
 none,.int .i64 (.ofNat i)],[.mk v 4 o.length (fun j =>
 bif ((0:Nat)+o.length).ble j&&j.blt (0+o.length+1) then [[T.int .u8 (l.getD k (Idd.mk (0:Int) (0:Int))).y,T.int .i64 (l.getD k (Idd.mk (0:Int) (0:Int))).n,T.bool true,T.int .u8 (IntKind.u8.wrap r)]].getD ((0:Nat)+(j - (0+o.length))) []
 else (o.getD j (Pss.mk (0:Int) (0:Int) false (0:Int))).c) true false
 none,.mk 0 4 1 (fun j=>[[T.int .u8 (l.getD k (Idd.mk (0:Int) (0:Int))).y,T.int .i64 (l.getD k (Idd.mk (0:Int) (0:Int))).n,T.bool true,T.int .u8 (IntKind.u8.wrap r)]].getD j []) true true
 none]))
 else
 some ((.normal,[.int .i64 r,.reg [.int .u8 b,idL l],.own 0 (v+1) (0:Nat) (o.length+1)
 none,.int .i64 (.ofNat i)],[.mk (v+1) (4:Nat) (o.length+1) (fun j =>
 bif j.blt o.length then (o.getD ((0:Nat)+j) (Pss.mk (0:Int) (0:Int) false (0:Int))).c
 else [[T.int .u8 (l.getD k (Idd.mk (0:Int) (0:Int))).y,T.int .i64 (l.getD k (Idd.mk (0:Int) (0:Int))).n,T.bool true,T.int .u8 (IntKind.u8.wrap r)]].getD ((0:Nat)+(j - o.length)) []) true false
 none,.mk 0 4 1 (fun j=>[[T.int .u8 (l.getD k (Idd.mk (0:Int) (0:Int))).y,T.int .i64 (l.getD k (Idd.mk (0:Int) (0:Int))).n,T.bool true,T.int .u8 (IntKind.u8.wrap r)]].getD j []) true true
 none]))
 else none else none else none else
 bif v==v&&true then
 bif ((0:Nat)+o.length).ble o.length then
 bif ((o.length+(1:Nat)) * (25:Nat)).ble 70368744177664 then
 bif ((0:Nat)+o.length+(1:Nat)).ble o.length then
 some ((.normal,[.int .i64 r,.reg [.int .u8 b,idL l],.own 0 v 0 (o.length+1)
 none,.int .i64 (.ofNat i)],[.mk v 4 o.length (fun j =>
 bif ((0:Nat)+o.length).ble j&&j.blt (0+o.length+1) then [[T.int .u8 (l.getD k (Idd.mk (0:Int) (0:Int))).y,T.int .i64 (l.getD k (Idd.mk (0:Int) (0:Int))).n,T.bool false,T.int .u8 (IntKind.u8.wrap r)]].getD ((0:Nat)+(j - (0+o.length))) []
 else (o.getD j (Pss.mk (0:Int) (0:Int) false (0:Int))).c) true false
 none,.mk 0 4 1 (fun j=>[[T.int .u8 (l.getD k (Idd.mk (0:Int) (0:Int))).y,T.int .i64 (l.getD k (Idd.mk (0:Int) (0:Int))).n,T.bool false,T.int .u8 (IntKind.u8.wrap r)]].getD j []) true true
 none]))
 else
 some ((.normal,[.int .i64 r,.reg [.int .u8 b,idL l],.own 0 (v+1) (0:Nat) (o.length+1)
 none,.int .i64 (.ofNat i)],[.mk (v+1) (4:Nat) (o.length+1) (fun j =>
 bif j.blt o.length then (o.getD ((0:Nat)+j) (Pss.mk (0:Int) (0:Int) false (0:Int))).c
 else [[T.int .u8 (l.getD k (Idd.mk (0:Int) (0:Int))).y,T.int .i64 (l.getD k (Idd.mk (0:Int) (0:Int))).n,T.bool false,T.int .u8 (IntKind.u8.wrap r)]].getD ((0:Nat)+(j - o.length)) []) true false
 none,.mk 0 4 1 (fun j=>[[T.int .u8 (l.getD k (Idd.mk (0:Int) (0:Int))).y,T.int .i64 (l.getD k (Idd.mk (0:Int) (0:Int))).n,T.bool false,T.int .u8 (IntKind.u8.wrap r)]].getD j []) true true
 none]))
 else none else none else none else
 none):=by kernel_rfl
theorem g24e (b r:Int) (l:List Idd) (o:List Pss) (v i:Nat):codeL P16 G16 A16 noneO 0 24 [] (nav (2 :: 2 :: L24)) [1,2,5,6] (v24 b r l o v i) [psB v o] [1,2,5,6] =
(
 some ((.normal,[.int .i64 r,.reg [.int .u8 b,idL l],.own 0 v 0 o.length
 none,.int .i64 (IntKind.i64.wrap (Int.ofNat i+1))],[psB v o]))):=by kernel_rfl
theorem r24 (o:List Pss) (v:Nat):resK P16 G16 (A16 24).prom Tryz.f24 (mkSt [4] [.own 0 v 0 o.length none] [psB v o]) (fun x=>some (give [psB v o] x)) =
(
 some (bif v==v&&((0:Nat)+o.length).ble o.length then .fresh true (4:Nat) o.length (fun j=>(o.getD ((0:Nat)+j) (Pss.mk (0:Int) (0:Int) false (0:Int))).c) o.length none else .undef)):=by kernel_rfl
def psOf (b r:Int) (a:Idd):Pss:=⟨a.y,a.n,decide (b = 1),r⟩
abbrev P24:=Pz P16 G16 A16 24 []
theorem run24 {p l l1:List Nat} {vs v1:List T} {h h1:Heap} {e:Ex} (hk:codeL P16 G16 A16 noneO 0 24 [] (nav p) l vs h l1 = some (e,v1,h1)):P24 p l vs h e l1 v1 h1 :=
 Pz.run hm16 none_ok (by kernel_rfl) loops0 hk
theorem run24W {p l l1:List Nat} {vs v1 v2:List T} {h h1 h2:Heap} {e:Ex} {x:Option (Ex × List T × Heap)} (hk:codeL P16 G16 A16 noneO 0 24 [] (nav p) l vs h l1 = x) (hx:x = some (e,v1,h1)) (w:Wk G16 A16 24 0 l1 v1 h1 v2 h2):P24 p l vs h e l1 v2 h2 :=
 Pz.post (run24 (hk.trans hx)) w
section
variable {b r:Int} {l:List Idd} {o:List Pss} {v i k:Nat}
theorem p24a (h:i<l.length):P24 (1 :: L24) [1,2,5,6] (v24 b r l o v i) [psB v o] .normal [1,2,5,6] (v24 b r l o v i) [psB v o]:=by
 refine run24 ?_
 rw [g24a]
 exact BT rfl
theorem p24a' (h:¬ i<l.length):P24 (1 :: L24) [1,2,5,6] (v24 b r l o v i) [psB v o] (.exit 0) [1,2,5,6] (v24 b r l o v i) [psB v o]:=by
 refine run24 ?_
 rw [g24a]
 exact BF rfl
theorem p24b:P24 (1 :: B24) [1,2,5,6] (v24 b r l o v i) [psB v o] .normal [1,2,5,6,7] (u24 b r l o v i i) [psB v o]:=run24 (by rw [g24b])
theorem p24c (h:i<l.length) (hl:l.length<=1000000):P24 (1 :: 2 :: B24) [1,2,5,6,7] (u24 b r l o v i i) [psB v o] .normal [1,2,5,6,7] (u24 b r l o v i (if r = 0 then l.length - 1 - i else i)) [psB v o]:=by
 refine run24 ?_
 rw [g24c]
 by_cases q:r = 0
 ·rw [dT q,cond_true,if_pos q,wr64 (x:=Int.ofNat l.length - 1) (by show (_:Int)<=(l.length:Int) - 1; omega) (by show (l.length:Int) - 1<=_; omega),wr64 (x:=Int.ofNat l.length - 1 - Int.ofNat i) (by show (_:Int)<=(l.length:Int) - 1 - (i:Int); omega) (by show (l.length:Int) - 1 - (i:Int)<=_; omega)]
  have e:Int.ofNat l.length - 1 - Int.ofNat i = Int.ofNat (l.length - 1 - i):=by
   show (l.length:Int) - 1 - (i:Int) = ((l.length - 1 - i:Nat):Int); omega
  rw [e]; rfl
 ·rw [dF q,cond_false,if_neg q]
theorem p24d (h:k<l.length) (ho:o.length<=1000000) (hr:0<=r/\r<=255):P24 (2 :: 2 :: B24) [1,2,5,6,7] (u24 b r l o v i k) [psB v o] .normal [1,2,5,6] (v24 b r l (o ++ [psOf b r (l.getD k id0)]) (v+1) i) [psB (v+1) (o ++ [psOf b r (l.getD k id0)])]:=by
 have hw:IntKind.u8.wrap r = r:=wr8 hr.1 hr.2
 have key:∀ bb,decide (b = 1) = bb->∀ nt,WeakTo G16 (A16 24).prom nt [1,2,5,6] 0 [.int .i64 r,.reg [.int .u8 b,idL l],.own 0 (v+1) 0 (o.length+1) none,.int .i64 i] [⟨v+1,4,o.length+1,fun j=>bif Nat.blt j o.length then (o.getD (0+j) ps0).c else [[T.int .u8 (l.getD k id0).y,T.int .i64 (l.getD k id0).n,.bool bb,.int .u8 r]].getD (0+(j - o.length)) [],true,false,none⟩,⟨0,4,1,fun j=>[[T.int .u8 (l.getD k id0).y,T.int .i64 (l.getD k id0).n,.bool bb,.int .u8 r]].getD j [],true,true,none⟩] (v24 b r l (o ++ [psOf b r (l.getD k id0)]) (v+1) i) [psB (v+1) (o ++ [psOf b r (l.getD k id0)])]:=by
  intro bb hbb nt
  refine WeakTo.canonS [0] rfl ?_ rfl (.cons ⟨rfl,rfl,?_,id,fun j hj=>?_⟩ .nil)
  ·unfold v24
   rw [List.length_append]; rfl
  ·show (o ++ [_]).length = _
   rw [List.length_append]; rfl
  ·have hj':j<o.length+1:=hj
   subst hbb
   exact app_psB j hj'
 by_cases hb:b = 1
 ·apply run24W
  ·apply g24d
  ·rw [hw]
   exact BT (BT (BT (BT (BT (BF rfl))) (by simp)))
  ·exact key true (decide_eq_true hb)
 ·apply run24W
  ·apply g24d
  ·rw [hw]
   exact BT (BF (BT (BT (BT (BF rfl))) (by simp)))
  ·exact key false (decide_eq_false hb)
def ps24 (b r:Int) (l:List Idd):Nat->List Pss
 | 0=>[]
 | i+1=>ps24 b r l i ++ [psOf b r (l.getD (if r = 0 then l.length - 1 - i else i) id0)]
theorem ps24_len (b r:Int) (l:List Idd):∀ i,(ps24 b r l i).length = i
 | 0=>rfl
 | i+1=>by simp [ps24,ps24_len b r l i]
theorem p24e (h:i<=1000000):P24 (2 :: 2 :: L24) [1,2,5,6] (v24 b r l o v i) [psB v o] .normal [1,2,5,6] (v24 b r l o v (i+1)) [psB v o]:=by
 refine run24 ?_
 rw [g24e,up1 h]
 rfl
theorem rd24 (h:i<l.length) (hl:l.length<=1000000) (hr:0<=r/\r<=255):P24 L24 [1,2,5,6] (v24 b r l (ps24 b r l i) i i) [psB i (ps24 b r l i)] .normal [1,2,5,6] (v24 b r l (ps24 b r l (i+1)) (i+1) (i+1)) [psB (i+1) (ps24 b r l (i+1))]:=by
 have hlen:=ps24_len b r l i
 have hk:(if r = 0 then l.length - 1 - i else i)<l.length:=by split <;> omega
 exact Pz.seq (by kernel_rfl) (p24a h) (Pz.seq (by kernel_rfl) (Pz.blk (id:=1) (e:=.normal) (by kernel_rfl) rfl (Pz.seq (by kernel_rfl) p24b (Pz.seq (by kernel_rfl) (p24c h hl) (p24d hk (by omega) hr)))) (p24e (by omega)))
theorem w24:Wk G16 A16 24 0 [1,2,5,6] [.int .i64 r,.reg [.int .u8 b,idL l],.nils,.int .i64 0] [] (v24 b r l [] 0 0) [psB 0 []]:=fun nt=>by
 refine WeakTo.ghost [psB 0 []] (by simp [psB]) rfl (fun k x z hx hz=>?_) (NilBs.refl _)
 rcases k with _ | _ | _ | _ | k <;> simp only [v24,List.getElem?_cons_zero,List.getElem?_cons_succ,List.getElem?_nil,Option.some.injEq,reduceCtorEq] at hx hz
 case succ.succ.zero =>
  subst hx hz
  exact .inl (NilT.own (b:=psB 0 []) (by decide) rfl rfl)
 all_goals (subst hx; subst hz; exact .refl _)
theorem refPast0 (hl:l.length<=1000000) (hr:0<=r/\r<=255):ToldOk P16 G16 24 [.agg [.int .u8 b,idL l],.int .i64 r] (.fresh true 4 ((ps24 b r l l.length).length - 0) (fun j=>((ps24 b r l l.length).getD (0+j) ps0).c) (ps24 b r l l.length).length none):=by
 have hg:=Pz.count (P:=P16) (G:=G16) (A:=A16) (f:=24) (h0:=[]) (p:=[0,2,1,2,2]) (l:=[1,2,5,6]) (l1:=[1,2,5,6]) (e:=.exit 0) (by kernel_rfl) (fun i=>v24 b r l (ps24 b r l i) i i) (fun i=>[psB i (ps24 b r l i)]) (n:=l.length) (by simp)
  (fun i hi=>rd24 hi hl hr) (Pz.seqX (by kernel_rfl) (by simp) (p24a' (Nat.lt_irrefl _)))
 refine Pz.told (A:=A16) (l:=[0,1]) hn16 Tryz.func24 (by kernel_rfl) (by kernel_rfl) (by kernel_rfl) (l1:=[4]) (v1:=[.own 0 l.length 0 (ps24 b r l l.length).length none]) (h1:=[psB l.length (ps24 b r l l.length)]) ?_ (by rw [r24,beq_self_eq_true,Nat.zero_add,bleT (Nat.le_refl _)]; rfl)
 refine Pz.seq (by kernel_rfl) (run24 (v1:=[.int .i64 r,.reg [.int .u8 b,idL l]]) (h1:=[]) (l1:=[1,2]) (by kernel_rfl)) (Pz.seq (by kernel_rfl) (run24 (v1:=[.int .i64 r,.reg [.int .u8 b,idL l],.nils]) (h1:=[]) (l1:=[1,2,5]) (by kernel_rfl)) (Pz.seq (by kernel_rfl) (Pz.seq (by kernel_rfl) (Pz.post (run24 (v1:=[.int .i64 r,.reg [.int .u8 b,idL l],.nils,.int .i64 0]) (h1:=[]) (l1:=[1,2,5,6]) (by kernel_rfl)) w24) (Pz.blk (id:=0) (e:=.exit 0) (by kernel_rfl) rfl hg)) (run24 (by kernel_rfl))))
theorem refPastT (hl:l.length<=1000000) (hr:0<=r/\r<=255):ToldOk P16 G16 24 [.agg [.int .u8 b,idL l],.int .i64 r] (psL (ps24 b r l l.length)):=by
 have t:=(refPast0 (b:=b) hl hr).frz
 simp only [Nat.zero_add] at t
 exact t.resTo (.newv _)
end
end Go.Ab

