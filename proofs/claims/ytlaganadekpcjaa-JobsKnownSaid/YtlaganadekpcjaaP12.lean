/- A part of the proof: nothing is assumed. -/
import Derived.Test.YtlaganadekpcjaaP10
import Derived.Test.YtlaganadekpcjaaP11
set_option linter.all false
namespace Go.Ab
open Go.Proofs
noncomputable def K17 (p1 p2 p3:List T->Prop) (r2 r3:T):Orc:=((noneO.add 25 (callP p1 (.int .i64 0))).add 26 (callP p2 r2)).add 27 (callP p3 r3)
def JL.snoc (L:JL) (a b d on:Int):JL:=⟨fun j=>if j<L.n then L.tm j else a,fun j=>if j<L.n then L.du j else b,fun j=>if j<L.n then L.af j else d,fun j=>if j<L.n then L.on j else on,L.n+1⟩
def prm (L:JL) (mm:Nat) (a d on:Int):Int:=(gvR (plst L (oN L) mm L.n) a d on mm).2.2
theorem snoc_get (L:JL) (a b d on:Int) (j:Nat):(if j<L.n then jcells (L.tm j) (L.du j) (L.af j) (L.on j) else jcells a b d on) = [.int .i64 ((L.snoc a b d on).tm j),.int .i64 ((L.snoc a b d on).du j),.int .i64 ((L.snoc a b d on).af j),.int .u32 ((L.snoc a b d on).on j)]:=by
 unfold JL.snoc
 by_cases q:j<L.n
 ·simp [q,jcells]
 ·simp [q,jcells]
set_option maxRecDepth 20000 in
theorem PromT (L:JL) (c:Option Nat) (mm:Nat) (a b d on:Int) (hL:L.Ok) (h8:L.n<=200) (hm:1<=mm/\mm<=16) (hab:∀ i,i<L.n->0<(abL (L.on i) mm).length) (hab2:0<(abL on mm).length)
 (ha:1<=a/\a<=100000) (hb:0<=b/\b<=100000) (hd:0<=d/\d<=100000) (hon:0<=on/\on<=7) :
 ToldOk P41 G41 17 [jv L c,.int .i64 mm,jT a b d on] (.tup [.int .i64 (prm L mm a d on),.int .i64 (if b<prm L mm a d on then 19 else 0)]):=by
 have hn:=hL.n
 have hs:(L.snoc a b d on).Ok:=by
  refine ⟨by show L.n+1<=256; omega,fun j hj=>?_,fun j hj=>?_,fun j hj=>?_,fun j hj=>?_⟩
  all_goals
   show _<=(if j<L.n then _ else _)/\(if j<L.n then _ else _)<=_
   by_cases q:j<L.n
   ·rw [if_pos q]; first | exact hL.tm j q | exact hL.du j q | exact hL.af j q | exact hL.on j q
   ·rw [if_neg q]; assumption
 have hcs:=fun c'=>chkT (L.snoc a b d on) c' mm hs hm fun i _=>by
  show 0<(abL (if i<L.n then _ else _) mm).length
  by_cases q:i<L.n
  ·rw [if_pos q]; exact hab i q
  ·rw [if_neg q]; exact hab2
 have hp:=planT L c mm hL hm hab
 have hg:=giveT a b d on mm (plst L (oN L) mm L.n) (some mm) L.n hm.2 (fun j hj=>by
  have:=plst_bd hL (o:=oN L) (mm:=mm) L.n (fun j hj=>oN_lt hj) j hj
  omega) (by omega) (by omega)
 have hview:∀ (m:Nat) (get:Nat->List T) (c':Option Nat),m = L.n+1->(∀ j,j<L.n+1->get j = if j<L.n then jcells (L.tm j) (L.du j) (L.af j) (L.on j) else jcells a b d on)->ToldOk P41 G41 25 [.view 4 m get c',.int .i64 mm] (.int .i64 0):=fun m get c' hm' hget=>by
  subst hm'
  exact (hcs c').sim (.cons (.view (.inl rfl) fun j hj=>by rw [hget j hj,snoc_get]; exact .refl _) (.cons (.refl _) .nil))
 unfold prm svT rvT at *
 generalize scells L (oN L) mm = y at *
 generalize plst L (oN L) mm L.n = rd at *
 generalize (gvR rd a d on mm).1 = x2 at *
 generalize (gvR rd a d on mm).2.1 = x3 at *
 generalize (gvR rd a d on mm).2.2 = x4 at *
 obtain ⟨p1,e1⟩:=told_pred P41 G41 25 (.int .i64 0)
 obtain ⟨p2,e2⟩:=told_pred P41 G41 26 (.tup [.new (.view 4 L.n y (some L.n)),.new (iv mm rd (some mm))])
 obtain ⟨p3,e3⟩:=told_pred P41 G41 27 (.agg [.int .i64 L.n,.int .i64 x2,.int .i64 x3,.int .i64 x4])
 refine stepL_told hm41 hn41 (K:=K17 p1 p2 p3 (.tup [.new (.view 4 L.n y (some L.n)),.new (iv mm rd (some mm))]) (.agg [.int .i64 L.n,.int .i64 x2,.int .i64 x3,.int .i64 x4])) (told_add (told_add (told_add none_ok (callP_told (told_predT e1))) (callP_told (told_predT e2))) (callP_told (told_predT e3))) (A:=A41) (m:=0) (by kernel_rfl) loops0 ?_
 refine Eq.trans (show stepL P41 G41 A41 (K17 p1 p2 p3 (.tup [.new (.view 4 L.n y (some L.n)),.new (iv mm rd (some mm))]) (.agg [.int .i64 L.n,.int .i64 x2,.int .i64 x3,.int .i64 x4])) 0 17 [] [jv L c,.int .i64 mm,jT a b d on] =
(
 bif decide (0<=IntKind.i64.wrap (Int.ofNat L.n+1))&&decide (IntKind.i64.wrap (Int.ofNat L.n+1) * (32:Int)<=(140737488355328:Int))&&decide (IntKind.i64.wrap (Int.ofNat L.n+1)<=(9223372036854775807:Int)) then
 bif L.n==(0:Nat) then
 bif Nat.ble 1 (IntKind.i64.wrap (Int.ofNat L.n+(1:Int))).toNat then
 bif Nat.ble 1 (IntKind.i64.wrap (Int.ofNat L.n+(1:Int))).toNat then
 bif propF p1 [bif Nat.ble 1 (IntKind.i64.wrap (Int.ofNat L.n+(1:Int))).toNat then .view 4 1 (fun j =>
 bif Nat.ble 0 (0+j)&&((0:Nat)+j).blt 1 then List.map plainOr ([[T.int .i64 a,T.int .i64 b,T.int .i64 d,T.int .u32 on]].getD (0+j - 0) [])
 else [.int .i64 0,.int .i64 0,.int .i64 0,.int .u32 0]) (some (IntKind.i64.wrap (Int.ofNat L.n+(1:Int))).toNat)
 else .undef,.int .i64 (.ofNat mm)] then
 bif propF p2 [jv L c,.int .i64 (.ofNat mm)] then
 bif propF p3 [.agg [.int .i64 a,.int .i64 b,.int .i64 d,.int .u32 on],.int .i64 (.ofNat L.n),.view 1 mm (fun j=>[.int .i64 (rd j)]) (some mm)] then
 bif decide (b<x4) then
 some (.tup [.int .i64 x4,.int .i64 19])
 else
 some (.tup [.int .i64 x4,.int .i64 0])
 else none else none else none else none else
 bif propF p1 [.view 4 1 (fun j =>
 bif ((0:Nat)+j).blt 0 then [.int .i64 0,.int .i64 0,.int .i64 0,.int .u32 0]
 else List.map plainOr ([[T.int .i64 a,T.int .i64 b,T.int .i64 d,T.int .u32 on]].getD (0+j - 0) []))
 none,.int .i64 (.ofNat mm)] then
 bif propF p2 [jv L c,.int .i64 (.ofNat mm)] then
 bif propF p3 [.agg [.int .i64 a,.int .i64 b,.int .i64 d,.int .u32 on],.int .i64 (.ofNat L.n),.view 1 mm (fun j=>[.int .i64 (rd j)]) (some mm)] then
 bif decide (b<x4) then
 some (.tup [.int .i64 x4,.int .i64 19])
 else
 some (.tup [.int .i64 x4,.int .i64 0])
 else none else none else none else
 bif (((0:Nat)+L.n) * (33:Nat)).ble 70368744177664 then
 bif ((0:Nat)+L.n).ble (IntKind.i64.wrap (Int.ofNat L.n+(1:Int))).toNat then
 bif ((0:Nat)+L.n).ble (IntKind.i64.wrap (Int.ofNat L.n+(1:Int))).toNat then
 bif ((0:Nat)+((0:Nat)+L.n)).ble (IntKind.i64.wrap (Int.ofNat L.n+(1:Int))).toNat then
 bif (((0:Nat)+L.n+(1:Nat)) * (33:Nat)).ble 70368744177664 then
 bif ((0:Nat)+L.n+(1:Nat)).ble (IntKind.i64.wrap (Int.ofNat L.n+(1:Int))).toNat then
 bif ((0:Nat)+((0:Nat)+L.n)+(1:Nat)).ble (IntKind.i64.wrap (Int.ofNat L.n+(1:Int))).toNat then
 bif propF p1 [bif ((0:Nat)+((0:Nat)+L.n+(1:Nat))).ble (IntKind.i64.wrap (Int.ofNat L.n+(1:Int))).toNat then .view 4 ((0:Nat)+L.n+1) (fun j =>
 bif ((0:Nat)+((0:Nat)+L.n)).ble (0+j)&&((0:Nat)+j).blt ((0:Nat)+((0:Nat)+L.n)+(1:Nat)) then List.map plainOr ([[T.int .i64 a,T.int .i64 b,T.int .i64 d,T.int .u32 on]].getD (0+j - ((0:Nat)+((0:Nat)+L.n))) [])
 else
 bif Nat.ble 0 (0+j)&&((0:Nat)+j).blt ((0:Nat)+L.n) then [.int .i64 (L.tm (0+j - 0)),.int .i64 (L.du (0+j - 0)),.int .i64 (L.af (0+j - 0)),.int .u32 (L.on (0+j - 0))]
 else [.int .i64 0,.int .i64 0,.int .i64 0,.int .u32 0]) (some (IntKind.i64.wrap (Int.ofNat L.n+(1:Int))).toNat)
 else .undef,.int .i64 (.ofNat mm)] then
 bif propF p2 [jv L c,.int .i64 (.ofNat mm)] then
 bif propF p3 [.agg [.int .i64 a,.int .i64 b,.int .i64 d,.int .u32 on],.int .i64 (.ofNat L.n),.view 1 mm (fun j=>[.int .i64 (rd j)]) (some mm)] then
 bif decide (b<x4) then
 some (.tup [.int .i64 x4,.int .i64 19])
 else
 some (.tup [.int .i64 x4,.int .i64 0])
 else none else none else none else none else
 bif propF p1 [bif ((0:Nat)+((0:Nat)+L.n+(1:Nat))).ble ((0:Nat)+L.n+1) then .view 4 ((0:Nat)+L.n+1) (fun j =>
 bif ((0:Nat)+j).blt ((0:Nat)+L.n) then
 bif Nat.ble 0 ((0:Nat)+(0+j))&&((0:Nat)+((0:Nat)+j)).blt ((0:Nat)+L.n) then [.int .i64 (L.tm ((0:Nat)+(0+j) - (0:Nat))),.int .i64 (L.du ((0:Nat)+(0+j) - (0:Nat))),.int .i64 (L.af ((0:Nat)+(0+j) - (0:Nat))),.int .u32 (L.on ((0:Nat)+(0+j) - (0:Nat)))]
 else [.int .i64 0,.int .i64 0,.int .i64 0,.int .u32 0]
 else List.map plainOr ([[T.int .i64 a,T.int .i64 b,T.int .i64 d,T.int .u32 on]].getD (0+j - ((0:Nat)+L.n)) [])) none else .undef,.int .i64 (.ofNat mm)] then
 bif propF p2 [jv L c,.int .i64 (.ofNat mm)] then
 bif propF p3 [.agg [.int .i64 a,.int .i64 b,.int .i64 d,.int .u32 on],.int .i64 (.ofNat L.n),.view 1 mm (fun j=>[.int .i64 (rd j)]) (some mm)] then
 bif decide (b<x4) then
 some (.tup [.int .i64 x4,.int .i64 19])
 else
 some (.tup [.int .i64 x4,.int .i64 0])
 else none else none else none else none else none else none else
 bif ((0:Nat)+((0:Nat)+L.n)).ble ((0:Nat)+L.n) then
 bif (((0:Nat)+L.n+(1:Nat)) * (33:Nat)).ble 70368744177664 then
 bif ((0:Nat)+((0:Nat)+L.n)+(1:Nat)).ble ((0:Nat)+L.n) then
 bif propF p1 [bif ((0:Nat)+((0:Nat)+L.n+(1:Nat))).ble ((0:Nat)+L.n) then .view 4 ((0:Nat)+L.n+1) (fun j =>
 bif ((0:Nat)+((0:Nat)+L.n)).ble (0+j)&&((0:Nat)+j).blt ((0:Nat)+((0:Nat)+L.n)+(1:Nat)) then List.map plainOr ([[T.int .i64 a,T.int .i64 b,T.int .i64 d,T.int .u32 on]].getD (0+j - ((0:Nat)+((0:Nat)+L.n))) [])
 else [.int .i64 (L.tm (0+j - 0)),.int .i64 (L.du (0+j - 0)),.int .i64 (L.af (0+j - 0)),.int .u32 (L.on (0+j - 0))]) none else .undef,.int .i64 (.ofNat mm)] then
 bif propF p2 [jv L c,.int .i64 (.ofNat mm)] then
 bif propF p3 [.agg [.int .i64 a,.int .i64 b,.int .i64 d,.int .u32 on],.int .i64 (.ofNat L.n),.view 1 mm (fun j=>[.int .i64 (rd j)]) (some mm)] then
 bif decide (b<x4) then
 some (.tup [.int .i64 x4,.int .i64 19])
 else
 some (.tup [.int .i64 x4,.int .i64 0])
 else none else none else none else
 bif propF p1 [bif ((0:Nat)+((0:Nat)+L.n+(1:Nat))).ble ((0:Nat)+L.n+1) then .view 4 ((0:Nat)+L.n+1) (fun j =>
 bif ((0:Nat)+j).blt ((0:Nat)+L.n) then [.int .i64 (L.tm ((0:Nat)+(0+j) - (0:Nat))),.int .i64 (L.du ((0:Nat)+(0+j) - (0:Nat))),.int .i64 (L.af ((0:Nat)+(0+j) - (0:Nat))),.int .u32 (L.on ((0:Nat)+(0+j) - (0:Nat)))]
 else List.map plainOr ([[T.int .i64 a,T.int .i64 b,T.int .i64 d,T.int .u32 on]].getD (0+j - ((0:Nat)+L.n)) [])) none else .undef,.int .i64 (.ofNat mm)] then
 bif propF p2 [jv L c,.int .i64 (.ofNat mm)] then
 bif propF p3 [.agg [.int .i64 a,.int .i64 b,.int .i64 d,.int .u32 on],.int .i64 (.ofNat L.n),.view 1 mm (fun j=>[.int .i64 (rd j)]) (some mm)] then
 bif decide (b<x4) then
 some (.tup [.int .i64 x4,.int .i64 19])
 else
 some (.tup [.int .i64 x4,.int .i64 0])
 else none else none else none else none else none else none else
 none) from by kernel_rfl) ?_
 have fin:True->(bif propF p2 [jv L c,.int .i64 mm] then bif propF p3 [jT a b d on,.int .i64 L.n,iv mm rd (some mm)] then bif decide (b<x4) then some (T.tup [T.int IntKind.i64 x4,T.int IntKind.i64 (19:Int)]) else some (T.tup [T.int IntKind.i64 x4,T.int IntKind.i64 (0:Int)]) else none else none) = some (T.tup [.int .i64 x4,.int .i64 (if b<x4 then 19 else 0)]):=by
  intro _
  refine bift (pred_yes e2 hp) (bift (pred_yes e3 hg) ?_)
  exact bifd (fun q=>by rw [if_pos q]) fun q=>by rw [if_neg q]
 rw [show IntKind.i64.wrap (Int.ofNat L.n+(1:Int)) = (L.n:Int)+1 from wr64 (by rw [ofNatE]; omega) (by rw [ofNatE]; omega),toNatE1]
 by_cases q0:L.n = 0
 ·(repeat (first | (refine bift (by (simp (disch:=omega) only [nbeq,nble,nblt,Bool.and_eq_true,decide_eq_true_eq,Nat.zero_add]; omega)) ?_) | (refine biff (by (simp (disch:=omega) only [nbeq,nble,nblt,Nat.zero_add]; omega)) ?_)))
  refine bift (pred_yes e1 ?_) (fin trivial)
  rw [show Nat.ble 1 (L.n+1) = true from bleT (by omega),cond_true]
  refine hview _ _ _ (by omega) fun j hj=>?_
  obtain rfl:j = 0:=by omega
  rw [if_neg (by omega)]
  rfl
 ·(repeat (first | (refine bift (by (simp (disch:=omega) only [nbeq,nble,nblt,Bool.and_eq_true,decide_eq_true_eq,Nat.zero_add]; omega)) ?_) | (refine biff (by (simp (disch:=omega) only [nbeq,nble,nblt,Nat.zero_add]; omega)) ?_)))
  refine bift (pred_yes e1 ?_) (fin trivial)
  rw [show Nat.ble (0+(0+L.n+1)) (L.n+1) = true from bleT (by omega),cond_true]
  refine hview _ _ _ (by omega) fun j hj=>?_
  simp only [Nat.zero_add,Nat.sub_zero]
  by_cases q:j<L.n
  ·rw [show Nat.ble L.n j = false from bleF (by omega),Bool.false_and,cond_false,show Nat.ble 0 j = true from bleT (by omega),bltT q,Bool.and_self,cond_true,if_pos q]
   rfl
  ·obtain rfl:j = L.n:=by omega
   rw [show Nat.ble L.n L.n = true from bleT (by omega),bltT (show L.n<L.n+1 by omega),Bool.and_self,cond_true,if_neg q,Nat.sub_self]
   rfl
open Go.Proofs
def onV (o:Nat):Nat:=if 1<o % 4 then 1+o % 3+4 * (o % 2) else 0
def exL:JL:=⟨fun j=>[4,2,3,1].getD j 0,fun j=>[4,3,8,6].getD j 0,fun _=>0,fun _=>0,4⟩
def uJ (t d a o:Nat):List T:=[.int .u8 t,.int .u8 d,.int .u8 a,.int .u8 o]
theorem onV_le (o:Nat):onV o<=7:=by
 unfold onV
 split <;> omega
theorem ofT (t d a o:Nat) (ht:t<256) (hd:d<256) (ha:a<256) (ho:o<256):ToldOk P41 G41 18 [.agg (uJ t d a o)] (jT (1+t:Nat) d a (onV o:Nat)):=by
 refine stepL_told hm41 hn41 none_ok (K:=noneO) (A:=A41) (m:=0) (by kernel_rfl) loops0 ?_
 refine Eq.trans (show stepL P41 G41 A41 noneO 0 18 [] [.agg (uJ t d a o)] =
(
 bif decide ((1:Int)<(Int.ofNat o).tmod 4) then
 some (.agg [.int .i64 (IntKind.i64.wrap (1+IntKind.i64.wrap (Int.ofNat t))),.int .i64 (IntKind.i64.wrap (Int.ofNat d)),.int .i64 (IntKind.i64.wrap (Int.ofNat a)),.int .u32 (IntKind.u32.wrap (IntKind.u8.wrap (IntKind.u8.wrap ((1:Int)+(Int.ofNat o).tmod 3)+IntKind.u8.wrap ((4:Int) * (Int.ofNat o).tmod 2))))])
 else
 some (.agg [.int .i64 (IntKind.i64.wrap (1+IntKind.i64.wrap (Int.ofNat t))),.int .i64 (IntKind.i64.wrap (Int.ofNat d)),.int .i64 (IntKind.i64.wrap (Int.ofNat a)),.int .u32 0])) from by kernel_rfl) ?_
 have e4:(Int.ofNat o).tmod (4:Int) = ((o % 4:Nat):Int):=rfl
 have e3:(Int.ofNat o).tmod (3:Int) = ((o % 3:Nat):Int):=rfl
 have e2:(Int.ofNat o).tmod (2:Int) = ((o % 2:Nat):Int):=rfl
 rw [e4,e3,e2]
 have w1:IntKind.i64.wrap (Int.ofNat t) = (t:Int):=wr64 (by rw [ofNatE]; omega) (by rw [ofNatE]; omega)
 have w2:IntKind.i64.wrap (Int.ofNat d) = (d:Int):=wr64 (by rw [ofNatE]; omega) (by rw [ofNatE]; omega)
 have w3:IntKind.i64.wrap (Int.ofNat a) = (a:Int):=wr64 (by rw [ofNatE]; omega) (by rw [ofNatE]; omega)
 have w4:IntKind.i64.wrap ((1:Int)+(t:Int)) = ((1+t:Nat):Int):=by rw [wr64 (by omega) (by omega)]; omega
 rw [w1,w2,w3,w4]
 unfold onV
 refine bifd (fun q=>?_) fun q=>?_
 ·rw [if_pos (by omega)]
  rw [show IntKind.u8.wrap ((1:Int)+((o % 3:Nat):Int)) = (1:Int)+((o % 3:Nat):Int) from wr8 (by omega) (by omega),
   show IntKind.u8.wrap ((4:Int) * ((o % 2:Nat):Int)) = (4:Int) * ((o % 2:Nat):Int) from wr8 (by omega) (by omega),
   show IntKind.u8.wrap ((1:Int)+((o % 3:Nat):Int)+(4:Int) * ((o % 2:Nat):Int)) = (1:Int)+((o % 3:Nat):Int)+(4:Int) * ((o % 2:Nat):Int) from wr8 (by omega) (by omega),
   show IntKind.u32.wrap ((1:Int)+((o % 3:Nat):Int)+(4:Int) * ((o % 2:Nat):Int)) = ((1+o % 3+4 * (o % 2):Nat):Int) by rw [wr32 (by omega) (by omega)]; omega]
  rfl
 ·rw [if_neg (by omega)]
  rfl
theorem exOk:exL.Ok:=by
 refine ⟨by decide,fun j hj=>?_,fun j hj=>?_,fun j hj=>⟨Int.le_refl 0,show (0:Int)<=100000 by decide⟩,fun j hj=>⟨Int.le_refl 0,show (0:Int)<=7 by decide⟩⟩
 all_goals
  have hj:j<4:=hj
  obtain rfl | rfl | rfl | rfl:j = 0 ∨ j = 1 ∨ j = 2 ∨ j = 3:=by omega
  all_goals decide
theorem exT:ToldOk P41 G41 21 [] (.new (jv exL (some 4))):=by
 have:=(stepL_told (args:=[]) hm41 hn41 none_ok (K:=noneO) (A:=A41) (m:=0) (f:=21) (by kernel_rfl) loops0 (show stepL P41 G41 A41 noneO 0 21 [] [] = some (.fresh true 4 4 (fun j=>[jcells 4 4 0 0,jcells 2 3 0 0,jcells 3 8 0 0,jcells 1 6 0 0].getD (0+j) []) 4 (some 4)) from by kernel_rfl)).frz
 refine this.resTo (.new (.view (.inl rfl) fun j hj=>?_))
 obtain rfl | rfl | rfl | rfl:j = 0 ∨ j = 1 ∨ j = 2 ∨ j = 3:=by omega
 all_goals exact .refl _
open Go.Proofs
def v15 (n:Nat) (x y:Nat->Int) (c:Option Nat) (i:Int):List T:=[iv n x (some n),iv n y c,.int .i64 i]
theorem l15 (n:Nat) (x y:Nat->Int) (c:Option Nat) (hn:n<=100000) (hxy:∀ j,j<n->x j = y j):LoopOk P41 G41 (A41 15) 15 4 (litS (v15 n x y c 0) [] (.exit 0) [.undef] []):=by
 refine loop_steps hm41 (by kernel_rfl) (fun i=>v15 n x y c i) (fun _=>[]) (n:=n) (fun i hi=>?_) ?_
 ·refine Step.mk0 (A:=A41) (m:=0) none_ok rfl rfl loops0 (h1:=[]) ?_ .nil
  refine Eq.trans (show iterR P41 G41 A41 noneO 0 15 [] 4 (v15 n x y c i) [] =
(
 bif decide (Int.ofNat i<Int.ofNat n) then
 bif decide (0<=Int.ofNat i)&&decide (Int.ofNat i<Int.ofNat n) then
 bif decide (0<=Int.ofNat i)&&decide (Int.ofNat i<Int.ofNat n) then
 bif !decide (x i = y i) then
 some ((.ret,[.bool false],[]))
 else
 some ((.normal,[.view 1 n (fun j=>[.int .i64 (x j)]) (some n),.view 1 n (fun j=>[.int .i64 (y j)]) c,.int .i64 (IntKind.i64.wrap (Int.ofNat i+1))],[]))
 else none else none else
 some ((.exit 0,[.undef],[]))) from by kernel_rfl) ?_
  rw [dT (hxy i hi)]
  (repeat (first | (refine bift (by first | assumption | omega | (simp (disch:=omega) only [wr64,wr8,wr16,wr32,ofNatE,toNatE,toNatE1,Bool.and_eq_true,Bool.or_eq_true,Bool.not_eq_true',decide_eq_true_eq,decide_eq_false_iff_not,nble,nblt,nbeq,Nat.zero_add,Nat.add_zero,Int.zero_add,Int.add_zero,List.length_cons,List.length_nil,true_and,and_true,Nat.reduceAdd,and_self]; done) | (simp (disch:=omega) only [wr64,wr8,wr16,wr32,ofNatE,toNatE,toNatE1,Bool.and_eq_true,Bool.or_eq_true,Bool.not_eq_true',decide_eq_true_eq,decide_eq_false_iff_not,nble,nblt,nbeq,Nat.zero_add,Nat.add_zero,Int.zero_add,Int.add_zero,List.length_cons,List.length_nil,true_and,and_true,Nat.reduceAdd,and_self]; omega)) ?_) | (refine biff (by first | assumption | (simp (disch:=omega) only [wr64,wr8,wr16,wr32,ofNatE,toNatE,toNatE1,Bool.and_eq_true,Bool.or_eq_true,Bool.not_eq_true',decide_eq_true_eq,decide_eq_false_iff_not,nble,nblt,nbeq,Nat.zero_add,Nat.add_zero,Int.zero_add,Int.add_zero,List.length_cons,List.length_nil,true_and,and_true,Nat.reduceAdd,and_self]; done) | (simp (disch:=omega) only [wr64,wr8,wr16,wr32,ofNatE,toNatE,toNatE1,Bool.and_eq_true,Bool.or_eq_true,Bool.not_eq_true',decide_eq_true_eq,decide_eq_false_iff_not,nble,nblt,nbeq,Nat.zero_add,Nat.add_zero,Int.zero_add,Int.add_zero,List.length_cons,List.length_nil,true_and,and_true,Nat.reduceAdd,and_self]; omega)) ?_)))
  first | rfl | (simp (disch:=omega) only [wr64,wr8,wr16,wr32,ofNatE,Nat.zero_add,bleT,bltT,dT,dF,Bool.true_and,Bool.and_true,Bool.and_self,cond_true,cond_false,Nat.sub_zero,beq_self_eq_true,Bool.not_true]; done) | (simp (disch:=omega) only [wr64,wr8,wr16,wr32,ofNatE,Nat.zero_add,bleT,bltT,dT,dF,Bool.true_and,Bool.and_true,Bool.and_self,cond_true,cond_false,Nat.sub_zero,beq_self_eq_true,Bool.not_true]; rfl)
 ·refine Last.mk0 (A:=A41) (m:=0) none_ok rfl rfl loops0 (h1:=[]) (by simp) ?_ .nil
  refine Eq.trans (show iterR P41 G41 A41 noneO 0 15 [] 4 (v15 n x y c (n:Int)) [] =
(
 bif decide (Int.ofNat n<Int.ofNat n) then
 bif decide (0<=Int.ofNat n)&&decide (Int.ofNat n<Int.ofNat n) then
 bif decide (0<=Int.ofNat n)&&decide (Int.ofNat n<Int.ofNat n) then
 bif !decide (x n = y n) then
 some ((.ret,[.bool false],[]))
 else
 some ((.normal,[.view 1 n (fun j=>[.int .i64 (x j)]) (some n),.view 1 n (fun j=>[.int .i64 (y j)]) c,.int .i64 (IntKind.i64.wrap (Int.ofNat n+1))],[]))
 else none else none else
 some ((.exit 0,[.undef],[]))) from by kernel_rfl) ?_
  (repeat (first | (refine bift (by first | assumption | omega | (simp (disch:=omega) only [wr64,wr8,wr16,wr32,ofNatE,toNatE,toNatE1,Bool.and_eq_true,Bool.or_eq_true,Bool.not_eq_true',decide_eq_true_eq,decide_eq_false_iff_not,nble,nblt,nbeq,Nat.zero_add,Nat.add_zero,Int.zero_add,Int.add_zero,List.length_cons,List.length_nil,true_and,and_true,Nat.reduceAdd,and_self]; done) | (simp (disch:=omega) only [wr64,wr8,wr16,wr32,ofNatE,toNatE,toNatE1,Bool.and_eq_true,Bool.or_eq_true,Bool.not_eq_true',decide_eq_true_eq,decide_eq_false_iff_not,nble,nblt,nbeq,Nat.zero_add,Nat.add_zero,Int.zero_add,Int.add_zero,List.length_cons,List.length_nil,true_and,and_true,Nat.reduceAdd,and_self]; omega)) ?_) | (refine biff (by first | assumption | (simp (disch:=omega) only [wr64,wr8,wr16,wr32,ofNatE,toNatE,toNatE1,Bool.and_eq_true,Bool.or_eq_true,Bool.not_eq_true',decide_eq_true_eq,decide_eq_false_iff_not,nble,nblt,nbeq,Nat.zero_add,Nat.add_zero,Int.zero_add,Int.add_zero,List.length_cons,List.length_nil,true_and,and_true,Nat.reduceAdd,and_self]; done) | (simp (disch:=omega) only [wr64,wr8,wr16,wr32,ofNatE,toNatE,toNatE1,Bool.and_eq_true,Bool.or_eq_true,Bool.not_eq_true',decide_eq_true_eq,decide_eq_false_iff_not,nble,nblt,nbeq,Nat.zero_add,Nat.add_zero,Int.zero_add,Int.add_zero,List.length_cons,List.length_nil,true_and,and_true,Nat.reduceAdd,and_self]; omega)) ?_)))
  first | rfl | (simp (disch:=omega) only [wr64,wr8,wr16,wr32,ofNatE,Nat.zero_add,bleT,bltT,dT,dF,Bool.true_and,Bool.and_true,Bool.and_self,cond_true,cond_false,Nat.sub_zero,beq_self_eq_true]; done) | (simp (disch:=omega) only [wr64,wr8,wr16,wr32,ofNatE,Nat.zero_add,bleT,bltT,dT,dF,Bool.true_and,Bool.and_true,Bool.and_self,cond_true,cond_false,Nat.sub_zero,beq_self_eq_true]; rfl)
theorem sameT (n:Nat) (x y:Nat->Int) (c:Option Nat) (hn:n<=100000) (hxy:∀ j,j<n->x j = y j):ToldOk P41 G41 15 [iv n x (some n),iv n y c] (.bool true):=by
 have hl:=l15 n x y c hn hxy
 refine stepL_told hm41 hn41 none_ok (K:=noneO) (A:=A41) (m:=0) (by kernel_rfl) (loops1 hl) ?_
 refine Eq.trans (show stepL P41 G41 A41 noneO 0 15 [(4,litS (v15 n x y c 0) [] (.exit 0) [.undef] [])] [iv n x (some n),iv n y c] =
(
 bif !decide (Int.ofNat n = Int.ofNat n) then
 some (.bool false)
 else
 bif !decide (Int.ofNat n = Int.ofNat n) then
 some (.bool false)
 else
 bif weakF [.view 1 n (fun j=>[.int .i64 (x j)]) (some n),.view 1 n (fun j=>[.int .i64 (y j)]) c,.int .i64 0] [] [.view 1 n (fun j=>[.int .i64 (x j)]) (some n),.view 1 n (fun j=>[.int .i64 (y j)]) c,.int .i64 0] [] then
 some (.bool true)
 else
 none) from by kernel_rfl) ?_
 rw [dT (rfl:Int.ofNat n = Int.ofNat n)]
 simp only [Bool.not_true,cond_false]
 exact bift (weakF_of ⟨rfl,.refl _⟩) rfl
open Go.Proofs
structure JR where
 t:Nat->Nat
 d:Nat->Nat
 a:Nat->Nat
 o:Nat->Nat
 n:Nat
def JR.v (R:JR) (c:Option Nat):T:=.view 4 R.n (fun j=>uJ (R.t j) (R.d j) (R.a j) (R.o j)) c
def JR.L (R:JR) (m:Nat):JL:=⟨fun j=>(1+R.t j:Nat),fun j=>(R.d j:Nat),fun j=>(R.a j:Nat),fun j=>(onV (R.o j):Nat),m⟩
def v9 (R:JR) (c:Option Nat) (x:T) (i:Int):List T:=[R.v c,x,.int .i64 i]
def jb (v nd:Nat) (get:Nat->List T):Blk:=⟨v,4,nd,get,true,false⟩
noncomputable def K9 (p:List T->Prop) (r:T):Orc:=noneO.add 18 (callP p r)
def gc (R:JR) (j:Nat):List T:=jcells (1+R.t j:Nat) (R.d j:Nat) (R.a j:Nat) (onV (R.o j):Nat)
structure JR.Ok (R:JR):Prop where
 t:∀ j,R.t j<256
 d:∀ j,R.d j<256
 a:∀ j,R.a j<256
 o:∀ j,R.o j<256
def tb9 (x:List T):Blk:=⟨0,4,1,fun j=>[x].getD j [],true,true⟩
theorem s9z (R:JR) (c:Option Nat) (hR:R.Ok) (hn:0<R.n):Step P41 G41 (A41 9) 9 3 0 (v9 R c .nils 0) [] (v9 R c (.own 0 0 0 1 none) 1) [jb 0 1 (fun j=>[gc R 0].getD (0+j) [])]:=by
 have ht:=ofT _ _ _ _ (hR.t 0) (hR.d 0) (hR.a 0) (hR.o 0)
 unfold gc
 generalize ((1+R.t 0:Nat):Int) = a at *
 generalize ((R.d 0:Nat):Int) = b at *
 generalize ((R.a 0:Nat):Int) = d at *
 generalize ((onV (R.o 0):Nat):Int) = on at *
 obtain ⟨p,e⟩:=told_pred P41 G41 18 (jT a b d on)
 refine Step.mkC (A:=A41) (m:=0) (told_add none_ok (callP_told (told_predT e))) rfl rfl loops0 [1] (K:=K9 p (jT a b d on)) (v2:=v9 R c (.own 0 0 0 1 none) 1) (h2:=[jb 0 1 (fun j=>[jcells a b d on].getD (0+j) [])])
  (v1:=v9 R c (.own 1 0 0 1 none) 1) (h1:=[tb9 (jcells a b d on),jb 0 1 (fun j=>[jcells a b d on].getD (0+j) [])]) (Eq.trans (show iterR P41 G41 A41 (K9 p (jT a b d on)) 0 9 [] 3 (v9 R c .nils 0) [] =
(
 bif decide (0<Int.ofNat R.n) then
 bif decide (0<Int.ofNat R.n) then
 bif propF p [.agg [.int .u8 (.ofNat (R.t (0:Nat))),.int .u8 (.ofNat (R.d (0:Nat))),.int .u8 (.ofNat (R.a (0:Nat))),.int .u8 (.ofNat (R.o (0:Nat)))]] then
 some ((.normal,[.view 4 R.n (fun j=>[.int .u8 (.ofNat (R.t j)),.int .u8 (.ofNat (R.d j)),.int .u8 (.ofNat (R.a j)),.int .u8 (.ofNat (R.o j))]) c,.own [Blk.mk 0 4 1 (fun j=>[[T.int .i64 a,T.int .i64 b,T.int .i64 d,T.int .u32 on]].getD j []) true true].length (0:Nat) (0:Nat) (1:Nat)
 none,.int .i64 1],[.mk 0 4 1 (fun j=>[[T.int .i64 a,T.int .i64 b,T.int .i64 d,T.int .u32 on]].getD j []) true true,.mk 0 4 1 (fun j=>[[T.int .i64 a,T.int .i64 b,T.int .i64 d,T.int .u32 on]].getD (0+j) []) true false]))
 else none else none else
 some ((.exit 0,[.nils],[]))) from by kernel_rfl) ?_) (by rfl) (by rfl) (by rfl) fun nt=>.same (.refl _)
 refine bift (by simp only [ofNatE,decide_eq_true_eq]; omega) ?_
 refine bift (by simp only [ofNatE,decide_eq_true_eq]; omega) ?_
 refine bift (pred_yes e ht) ?_
 first | rfl | (simp (disch:=omega) only [wr64,wr8,wr16,wr32,ofNatE]; done) | (simp (disch:=omega) only [wr64,wr8,wr16,wr32,ofNatE]; rfl)
def ap9 (get:Nat->List T) (i:Nat) (x:List T):Nat->List T:=fun j=>if j = i then x else get j
theorem s9a (R:JR) (c:Option Nat) (hR:R.Ok) (i v nd:Nat) (get:Nat->List T) (hn:i<R.n) (h40:i<40) (hnd:i<=nd) :
 ∃ v' nd' get',i+1<=nd'/\(∀ j,j<i+1->get' j = ap9 get i (gc R i) j)/\Step P41 G41 (A41 9) 9 3 0 (v9 R c (.own 0 v 0 i none) i) [jb v nd get] (v9 R c (.own 0 v' 0 (i+1) none) (i+1:Nat)) [jb v' nd' get']:=by
 have ht:=ofT _ _ _ _ (hR.t i) (hR.d i) (hR.a i) (hR.o i)
 unfold gc
 generalize ((1+R.t i:Nat):Int) = a at *
 generalize ((R.d i:Nat):Int) = b at *
 generalize ((R.a i:Nat):Int) = d at *
 generalize ((onV (R.o i):Nat):Int) = on at *
 obtain ⟨p,e⟩:=told_pred P41 G41 18 (jT a b d on)
 by_cases q:i+1<=nd
 ·refine ⟨v,nd,fun j=>bif Nat.ble (0+i) j&&Nat.blt j (0+i+1) then [jcells a b d on].getD (0+(j - (0+i))) [] else get j,q,fun j hj=>?_,Step.mkC (A:=A41) (m:=0) (told_add none_ok (callP_told (told_predT e))) rfl rfl loops0 [0] (K:=K9 p (jT a b d on)) (v2:=v9 R c (.own 0 v 0 (i+1) none) (i+1:Nat)) (h2:=[jb v nd (fun j=>bif Nat.ble (0+i) j&&Nat.blt j (0+i+1) then [jcells a b d on].getD (0+(j - (0+i))) [] else get j)])
   (v1:=v9 R c (.own 0 v 0 (i+1) none) (i+1:Nat)) (h1:=[jb v nd (fun j=>bif Nat.ble (0+i) j&&Nat.blt j (0+i+1) then [jcells a b d on].getD (0+(j - (0+i))) [] else get j),tb9 (jcells a b d on)]) (Eq.trans (show iterR P41 G41 A41 (K9 p (jT a b d on)) 0 9 [] 3 (v9 R c (.own 0 v 0 i none) i) [jb v nd get] =
(
 bif decide (Int.ofNat i<Int.ofNat R.n) then
 bif decide (Int.ofNat i<40) then
 bif decide (0<=Int.ofNat i)&&decide (Int.ofNat i<Int.ofNat R.n) then
 bif propF p [.agg [.int .u8 (.ofNat (R.t i)),.int .u8 (.ofNat (R.d i)),.int .u8 (.ofNat (R.a i)),.int .u8 (.ofNat (R.o i))]] then
 bif v==v then
 bif ((0:Nat)+i).ble nd then
 bif ((i+(1:Nat)) * (33:Nat)).ble 70368744177664 then
 bif ((0:Nat)+i+(1:Nat)).ble nd then
 some ((.normal,[.view 4 R.n (fun j=>[.int .u8 (.ofNat (R.t j)),.int .u8 (.ofNat (R.d j)),.int .u8 (.ofNat (R.a j)),.int .u8 (.ofNat (R.o j))]) c,.own 0 v 0 (i+1)
 none,.int .i64 (IntKind.i64.wrap (Int.ofNat i+1))],[.mk v 4 nd (fun j =>
 bif ((0:Nat)+i).ble j&&j.blt (0+i+1) then [[T.int .i64 a,T.int .i64 b,T.int .i64 d,T.int .u32 on]].getD ((0:Nat)+(j - (0+i))) []
 else get j) true false,.mk 0 4 1 (fun j=>[[T.int .i64 a,T.int .i64 b,T.int .i64 d,T.int .u32 on]].getD j []) true true]))
 else
 some ((.normal,[.view 4 R.n (fun j=>[.int .u8 (.ofNat (R.t j)),.int .u8 (.ofNat (R.d j)),.int .u8 (.ofNat (R.a j)),.int .u8 (.ofNat (R.o j))]) c,.own 0 (v+1) (0:Nat) (i+1)
 none,.int .i64 (IntKind.i64.wrap (Int.ofNat i+1))],[.mk (v+1) (4:Nat) (i+1) (fun j =>
 bif j.blt i then get (0+j)
 else [[T.int .i64 a,T.int .i64 b,T.int .i64 d,T.int .u32 on]].getD ((0:Nat)+(j - i)) []) true false,.mk 0 4 1 (fun j=>[[T.int .i64 a,T.int .i64 b,T.int .i64 d,T.int .u32 on]].getD j []) true true]))
 else none else none else none else none else none else
 some ((.exit 0,[.own 0 v 0 i
 none],[.mk v 4 nd get true false]))
 else
 some ((.exit 0,[.own 0 v 0 i
 none],[.mk v 4 nd get true false]))) from by kernel_rfl) ?_) (by rfl) (by rfl) (by rfl) fun nt=>.same (.refl _)⟩
  ·unfold ap9
   simp only
   by_cases qj:j = i
   ·subst qj
    rw [if_pos rfl,Nat.zero_add,show Nat.ble j j = true from bleT (by omega),bltT (show j<j+1 by omega),Nat.sub_self]
    rfl
   ·rw [if_neg qj,Nat.zero_add,show Nat.ble i j = false from bleF (by omega)]
    rfl
  ·refine bift (by simp only [ofNatE,decide_eq_true_eq]; omega) ?_
   refine bift (by simp only [ofNatE,decide_eq_true_eq]; omega) ?_
   refine bift (by simp only [ofNatE,Bool.and_eq_true,decide_eq_true_eq]; omega) ?_
   refine bift (pred_yes e ht) ?_
   refine bift (beq_self_eq_true _) ?_
   refine bift (bleT (by omega)) ?_
   refine bift (bleT (by omega)) ?_
   refine bift (bleT (by omega)) ?_
   first | rfl | (simp (disch:=omega) only [wr64,wr8,wr16,wr32,ofNatE]; done) | (simp (disch:=omega) only [wr64,wr8,wr16,wr32,ofNatE]; rfl)
 ·refine ⟨v+1,i+1,fun j=>bif Nat.blt j i then get (0+j) else [jcells a b d on].getD (0+(j - i)) [],Nat.le_refl _,fun j hj=>?_,Step.mkC (A:=A41) (m:=0) (told_add none_ok (callP_told (told_predT e))) rfl rfl loops0 [0] (K:=K9 p (jT a b d on)) (v2:=v9 R c (.own 0 (v+1) 0 (i+1) none) (i+1:Nat)) (h2:=[jb (v+1) (i+1) (fun j=>bif Nat.blt j i then get (0+j) else [jcells a b d on].getD (0+(j - i)) [])])
   (v1:=v9 R c (.own 0 (v+1) 0 (i+1) none) (i+1:Nat)) (h1:=[jb (v+1) (i+1) (fun j=>bif Nat.blt j i then get (0+j) else [jcells a b d on].getD (0+(j - i)) []),tb9 (jcells a b d on)]) (Eq.trans (show iterR P41 G41 A41 (K9 p (jT a b d on)) 0 9 [] 3 (v9 R c (.own 0 v 0 i none) i) [jb v nd get] =
(
 bif decide (Int.ofNat i<Int.ofNat R.n) then
 bif decide (Int.ofNat i<40) then
 bif decide (0<=Int.ofNat i)&&decide (Int.ofNat i<Int.ofNat R.n) then
 bif propF p [.agg [.int .u8 (.ofNat (R.t i)),.int .u8 (.ofNat (R.d i)),.int .u8 (.ofNat (R.a i)),.int .u8 (.ofNat (R.o i))]] then
 bif v==v then
 bif ((0:Nat)+i).ble nd then
 bif ((i+(1:Nat)) * (33:Nat)).ble 70368744177664 then
 bif ((0:Nat)+i+(1:Nat)).ble nd then
 some ((.normal,[.view 4 R.n (fun j=>[.int .u8 (.ofNat (R.t j)),.int .u8 (.ofNat (R.d j)),.int .u8 (.ofNat (R.a j)),.int .u8 (.ofNat (R.o j))]) c,.own 0 v 0 (i+1)
 none,.int .i64 (IntKind.i64.wrap (Int.ofNat i+1))],[.mk v 4 nd (fun j =>
 bif ((0:Nat)+i).ble j&&j.blt (0+i+1) then [[T.int .i64 a,T.int .i64 b,T.int .i64 d,T.int .u32 on]].getD ((0:Nat)+(j - (0+i))) []
 else get j) true false,.mk 0 4 1 (fun j=>[[T.int .i64 a,T.int .i64 b,T.int .i64 d,T.int .u32 on]].getD j []) true true]))
 else
 some ((.normal,[.view 4 R.n (fun j=>[.int .u8 (.ofNat (R.t j)),.int .u8 (.ofNat (R.d j)),.int .u8 (.ofNat (R.a j)),.int .u8 (.ofNat (R.o j))]) c,.own 0 (v+1) (0:Nat) (i+1)
 none,.int .i64 (IntKind.i64.wrap (Int.ofNat i+1))],[.mk (v+1) (4:Nat) (i+1) (fun j =>
 bif j.blt i then get (0+j)
 else [[T.int .i64 a,T.int .i64 b,T.int .i64 d,T.int .u32 on]].getD ((0:Nat)+(j - i)) []) true false,.mk 0 4 1 (fun j=>[[T.int .i64 a,T.int .i64 b,T.int .i64 d,T.int .u32 on]].getD j []) true true]))
 else none else none else none else none else none else
 some ((.exit 0,[.own 0 v 0 i
 none],[.mk v 4 nd get true false]))
 else
 some ((.exit 0,[.own 0 v 0 i
 none],[.mk v 4 nd get true false]))) from by kernel_rfl) ?_) (by rfl) (by rfl) (by rfl) fun nt=>.same (.refl _)⟩
  ·unfold ap9
   simp only
   by_cases qj:j = i
   ·subst qj
    rw [if_pos rfl,bltF (show j<=j by omega),Nat.sub_self]
    rfl
   ·rw [if_neg qj,bltT (show j<i by omega),Nat.zero_add]
    rfl
  ·refine bift (by simp only [ofNatE,decide_eq_true_eq]; omega) ?_
   refine bift (by simp only [ofNatE,decide_eq_true_eq]; omega) ?_
   refine bift (by simp only [ofNatE,Bool.and_eq_true,decide_eq_true_eq]; omega) ?_
   refine bift (pred_yes e ht) ?_
   refine bift (beq_self_eq_true _) ?_
   refine bift (bleT (by omega)) ?_
   refine bift (bleT (by omega)) ?_
   refine biff (by rw [nble]; omega) ?_
   first | rfl | (simp (disch:=omega) only [wr64,wr8,wr16,wr32,ofNatE]; done) | (simp (disch:=omega) only [wr64,wr8,wr16,wr32,ofNatE]; rfl)
end Go.Ab

