/- A part of the proof: nothing is assumed. -/
import Derived.Test.YthbieakinbpgkaaP5
import Derived.WalkKit
import Derived.Deep.RegionHeld3
import Derived.Shelf.SlSortCmp.NoneTotal
import Derived.Ground.SlsfProg
import Derived.Shelf.SlIterI.Sorted
import Derived.Ground.GgzProg
import Derived.Shelf.SortM.Plain
import Derived.Shelf.SortM.SortNone
import Derived.Ground.SlgmProg
import Derived.Test.YthbieakinbpgkaaProg
import Derived.Test.YthbieakinbpgkaaP11
import Derived.Test.YthbieakinbpgkaaP12
import Derived.Test.YthbieakinbpgkaaP9
import Derived.Shelf.SlIterI.Collect
import Derived.Test.YthbieakinbpgkaaP8
set_option linter.all false
namespace Go.Ab
open Go.Proofs Go.RowKit
def cmpI (x y:Int):Int:=if x<y then -1 else if y<x then 1 else 0
set_option maxRecDepth 100000 in
theorem nan_walk (x:Int) (w:World):Calls P42 51 #[.int .i64 x] w fun e w'=>e = .returned (.bool false)/\w' = w:=by
 go_enter Try.func51,Try.ntmps51
 go_wp2
 go_ret
 exact ⟨by simp,rfl⟩
set_option maxRecDepth 100000 in
theorem compare_walk (x y:Int) (w:World):Calls P42 43 #[.int .i64 x,.int .i64 y] w fun e w'=>e = .returned (.int .i64 (cmpI x y))/\w' = w:=by
 go_enter Try.func43,Try.ntmps43
 go_wp2_with (go_at_call 51; refine (nan_walk _ _).mono ?_; rintro e w' ⟨rfl,rfl⟩)
 all_goals (go_ret; refine ⟨?_,rfl⟩; unfold cmpI; (repeat' split) <;> first | rfl | (exfalso; omega))
def orI (x y:Int):Int:=if x ≠ 0 then x else y
theorem orI0 (y:Int):orI 0 y = y:=rfl
set_option maxRecDepth 100000 in
theorem or_walk (x y:Int) (b:Nat) (w:World) (hx:w.cell? ⟨b,0,none⟩ = some (.int .i64 x)) (hy:w.cell? ⟨b,1,none⟩ = some (.int .i64 y)):Calls P42 42 #[.slice (some ⟨b,0,none⟩) 2 2] w fun e w'=>e = .returned (.int .i64 (orI x y))/\w' = w:=by
 go_enter Try.func42,Try.ntmps42
 go_wp2
 go_loop [8] (fun i=>∃ k:Nat,k<=2/\i = .int .i64 k/\(1<=k->x = 0)/\(2<=k->y = 0)) (fun i=>2 - (RowKit.intOf i).toNat)
 case atStart=>exact ⟨0,by omega,rfl,by omega,by omega⟩
 case round =>
  obtain ⟨k,hk,rfl,h1,h2⟩:=hrel
  by_cases k0:k = 0
  ·subst k0
   go_wp2
   ·rename_i hb _
    go_ret
    refine ⟨?_,rfl⟩
    show Ending.returned (.int .i64 x) = _
    unfold orI
    rw [if_pos (by simpa using hb)]
   ·rename_i hb
    go_round
    case rel=>exact ⟨1,by omega,rfl,fun _=>by simpa using hb,by omega⟩
    case measure=>simp [RowKit.intOf]
  ·have x0:=h1 (by omega)
   subst x0
   by_cases k1:k = 1
   ·subst k1
    go_wp2
    ·rename_i hb _
     go_ret
     refine ⟨?_,rfl⟩
     show Ending.returned (.int .i64 y) = _
     rw [orI0]
    ·rename_i hb
     go_round
     case rel=>exact ⟨2,by omega,rfl,fun _=>trivial,fun _=>by simpa using hb⟩
     case measure=>simp [RowKit.intOf]
   ·have k2:k = 2:=by omega
    have y0:=h2 (by omega)
    subst k2 y0
    go_wp2
    go_ret
    refine ⟨?_,rfl⟩
    show Ending.returned (.int .i64 0) = _
    rw [orI0]
def Grows (W w':World):Prop:=∃ q os',w' = Go.Sort.grow (W.drewN q) os'
theorem Grows.drew {W w':World} (h:Grows W w'):Grows W w'.drew:=by
 obtain ⟨q,os,rfl⟩:=h
 exact ⟨q+1,os,rfl⟩
theorem Grows.alloc {W w':World} (h:Grows W w') (o:Obj):Grows W (w'.alloc o):=by
 obtain ⟨q,os,rfl⟩:=h
 exact ⟨q,os.push o,by simp [Go.Sort.grow,World.alloc,World.drewN]⟩
theorem Grows.refl (W:World):Grows W W:=⟨0,#[],by simp [Go.Sort.grow,World.drewN]⟩
attribute [local simp] Grows.drew Grows.alloc
set_option maxRecDepth 100000 in
theorem comp_walk (x y:Int × Int × Int) (W:World):Calls P42 29 #[.agg #[.int .i64 x.1,.int .i64 x.2.1,.int .i64 x.2.2],.agg #[.int .i64 y.1,.int .i64 y.2.1,.int .i64 y.2.2]] W fun e w'=>e = .returned (.int .i64 (orI (cmpI x.1 y.1) (cmpI x.2.1 y.2.1)))/\Grows W w':=by
 have hcon:=fun x y W'=>compare_walk x y W'
 have hor:=fun x y b W' hx hy=>or_walk x y b W' hx hy
 generalize cmpI = cm at hcon ⊢
 generalize orI = oi at hor ⊢
 obtain ⟨x1,x2,x3⟩:=x
 obtain ⟨y1,y2,y3⟩:=y
 simp only
 have hg:Grows W ((W.alloc (.cells #[.int .i64 x1,.int .i64 x2,.int .i64 x3] 29)).alloc (.cells #[.int .i64 y1,.int .i64 y2,.int .i64 y3] 29)):=((Grows.refl W).alloc _).alloc _
 go_enter Try.func29,Try.ntmps29
 go_wp2_with (go_at_call 43; refine (hcon _ _ _).mono ?_; rintro e w' ⟨rfl,rfl⟩)
 go_region_held3 (fun w'=>w'.cell? ⟨W.heap.size,0,none⟩ = some (.int .i64 x1)/\w'.cell? ⟨W.heap.size,1,none⟩ = some (.int .i64 x2)/\w'.cell? ⟨W.heap.size+1,0,none⟩ = some (.int .i64 y1)/\w'.cell? ⟨W.heap.size+1,1,none⟩ = some (.int .i64 y2)/\Grows W w')
  (go_keep)
  (first
   | (go_at_call 43; refine (hcon _ _ _).mono ?_; rintro e w' ⟨rfl,rfl⟩)
   | (go_at_call 42; refine (hor (cm x1 y1) (cm x2 y2) _ _ ?_ ?_).mono ?_; (simp [go_sem,World.cell?_alloc_at]); (simp [go_sem,World.cell?_alloc_at]); rintro e w' ⟨rfl,rfl⟩))
 all_goals go_wp2
 all_goals (go_ret; refine ⟨rfl,?_⟩; go_keep)
end Go.Ab

namespace Go.Proofs
open Go.Shelf
def sort42_ren:Go.Shelf.Ren:=⟨fun | 6=>39 | 15=>50 | 14=>49 | 28=>62 | 29=>63 | 20=>54 | 21=>55 | 22=>56 | 23=>57 | 24=>58 | 25=>59 | 26=>60 | 27=>61 | 46=>73 | 47=>74 | 48=>75 | 49=>76 | 50=>77 | 57=>81 | n=>n,fun | 22=>25 | 24=>29 | 25=>67 | 3=>3 | 39=>83 | 0=>0 | 53=>101 | 55=>103 | 4=>4 | 46=>95 | 45=>94 | 50=>68 | 5=>5 | 9=>9 | 66=>110 | 70=>114 | 76=>118 | 77=>119 | n=>n,fun | n=>n⟩
theorem sort42:Go.Proofs.SlLaysF0.n6 Try.prog sort42_ren:={
 mixed:=by kernel_rfl
 f6:=⟨Try.f39.name,by decide,Try.func39.trans (congrArg some (by kernel_rfl))⟩
 f14:=⟨Try.f49.name,by decide,Try.func49.trans (congrArg some (by kernel_rfl))⟩
 f15:=Try.func50.trans (congrArg some (by kernel_rfl))
 f20:=⟨Try.f54.name,by decide,Try.func54.trans (congrArg some (by kernel_rfl))⟩
 f21:=⟨Try.f55.name,by decide,Try.func55.trans (congrArg some (by kernel_rfl))⟩
 f22:=⟨Try.f56.name,by decide,Try.func56.trans (congrArg some (by kernel_rfl))⟩
 f23:=⟨Try.f57.name,by decide,Try.func57.trans (congrArg some (by kernel_rfl))⟩
 f24:=⟨Try.f58.name,by decide,Try.func58.trans (congrArg some (by kernel_rfl))⟩
 f25:=⟨Try.f59.name,by decide,Try.func59.trans (congrArg some (by kernel_rfl))⟩
 f26:=⟨Try.f60.name,by decide,Try.func60.trans (congrArg some (by kernel_rfl))⟩
 f27:=⟨Try.f61.name,by decide,Try.func61.trans (congrArg some (by kernel_rfl))⟩
 f28:=Try.func62.trans (congrArg some (by kernel_rfl))
 f29:=Try.func63.trans (congrArg some (by kernel_rfl))
 f46:=⟨Try.f73.name,by decide,Try.func73.trans (congrArg some (by kernel_rfl))⟩
 f47:=Try.func74.trans (congrArg some (by kernel_rfl))
 f48:=Try.func75.trans (congrArg some (by kernel_rfl))
 f49:=⟨Try.f76.name,by decide,Try.func76.trans (congrArg some (by kernel_rfl))⟩
 f50:=⟨Try.f77.name,by decide,Try.func77.trans (congrArg some (by kernel_rfl))⟩
 f57:=⟨Try.f81.name,by decide,Try.func81.trans (congrArg some (by kernel_rfl))⟩
 t0:=Try.underlying0
 a0:=Try.isAgg0
 z0:=Try.sizeOf0
 v0:=Try.zeroValue0
 t3:=Try.underlying3
 a3:=Try.isAgg3
 z3:=Try.sizeOf3
 v3:=Try.zeroValue3
 t4:=Try.underlying4
 a4:=Try.isAgg4
 z4:=Try.sizeOf4
 v4:=Try.zeroValue4
 t5:=Try.underlying5
 a5:=Try.isAgg5
 z5:=Try.sizeOf5
 v5:=Try.zeroValue5
 t9:=Try.underlying9
 a9:=Try.isAgg9
 z9:=Try.sizeOf9
 v9:=Try.zeroValue9
 t22:=Try.underlying25
 a22:=Try.isAgg25
 z22:=Try.sizeOf25
 v22:=Try.zeroValue25
 t25:=Try.underlying67
 a25:=Try.isAgg67
 z25:=Try.sizeOf67
 v25:=Try.zeroValue67
 t39:=Try.underlying83
 a39:=Try.isAgg83
 z39:=Try.sizeOf83
 v39:=Try.zeroValue83
 t45:=Try.underlying94
 a45:=Try.isAgg94
 z45:=Try.sizeOf94
 v45:=Try.zeroValue94
 t46:=Try.underlying95
 a46:=Try.isAgg95
 z46:=Try.sizeOf95
 v46:=Try.zeroValue95
 t50:=Try.underlying68
 a50:=Try.isAgg68
 z50:=Try.sizeOf68
 v50:=Try.zeroValue68
 t53:=Try.underlying101
 a53:=Try.isAgg101
 z53:=Try.sizeOf101
 v53:=Try.zeroValue101
 t55:=Try.underlying103
 a55:=Try.isAgg103
 z55:=Try.sizeOf103
 v55:=Try.zeroValue103
 t66:=Try.underlying110
 a66:=Try.isAgg110
 z66:=Try.sizeOf110
 v66:=Try.zeroValue110
 t70:=Try.underlying114
 a70:=Try.isAgg114
 z70:=Try.sizeOf114
 v70:=Try.zeroValue114
 t76:=Try.underlying118
 a76:=Try.isAgg118
 z76:=Try.sizeOf118
 v76:=Try.zeroValue118
 t77:=Try.underlying119
 a77:=Try.isAgg119
 z77:=Try.sizeOf119
 v77:=Try.zeroValue119 }
def sorted42_ren:Go.Shelf.Ren:=⟨fun | 6=>35 | 8=>45 | 9=>46 | 11=>52 | 13=>50 | 12=>53 | 23=>62 | 24=>63 | 14=>64 | 15=>65 | 16=>66 | 17=>67 | 18=>68 | 19=>69 | 20=>70 | 21=>71 | 22=>72 | 25=>78 | 26=>74 | 27=>75 | 28=>79 | 29=>80 | 30=>51 | 31=>82 | n=>n,fun | 26=>3 | 28=>77 | 24=>40 | 0=>0 | 3=>3 | 37=>83 | 48=>101 | 50=>103 | 4=>4 | 40=>95 | 39=>94 | 45=>68 | 5=>5 | 9=>9 | 51=>110 | 55=>114 | 57=>118 | 58=>119 | 33=>86 | n=>n,fun | n=>n⟩
theorem sorted42:Go.Proofs.SlLaysZI.n6 Try.prog sorted42_ren:={
 mixed:=by kernel_rfl
 f6:=⟨Try.f35.name,by decide,Try.func35.trans (congrArg some (by kernel_rfl))⟩
 f8:=⟨Try.f45.name,by decide,Try.func45.trans (congrArg some (by kernel_rfl))⟩
 f11:=⟨Try.f52.name,by decide,Try.func52.trans (congrArg some (by kernel_rfl))⟩
 t0:=Try.underlying0
 a0:=Try.isAgg0
 z0:=Try.sizeOf0
 v0:=Try.zeroValue0
 t24:=Try.underlying40
 a24:=Try.isAgg40
 z24:=Try.sizeOf40
 v24:=Try.zeroValue40
 t26:=Try.underlying3
 a26:=Try.isAgg3
 z26:=Try.sizeOf3
 v26:=Try.zeroValue3
 t28:=Try.underlying77
 a28:=Try.isAgg77
 z28:=Try.sizeOf77
 v28:=Try.zeroValue77
 i26:=by kernel_rfl }
def keysN42_ren:Go.Shelf.Ren:=⟨fun | 10=>47 | n=>n,fun | 33=>86 | 23=>62 | 0=>0 | 4=>4 | 26=>3 | 3=>3 | n=>n,fun | n=>n⟩
theorem keysN42:Go.Proofs.SlLaysZI.n10 Try.prog keysN42_ren:={
 mixed:=by kernel_rfl
 f10:=⟨Try.f47.name,by decide,Try.func47.trans (congrArg some (by kernel_rfl))⟩
 t0:=Try.underlying0
 a0:=Try.isAgg0
 z0:=Try.sizeOf0
 v0:=Try.zeroValue0
 t4:=Try.underlying4
 a4:=Try.isAgg4
 z4:=Try.sizeOf4
 v4:=Try.zeroValue4
 t23:=Try.underlying62
 a23:=Try.isAgg62
 z23:=Try.sizeOf62
 v23:=Try.zeroValue62
 t26:=Try.underlying3
 a26:=Try.isAgg3
 z26:=Try.sizeOf3
 v26:=Try.zeroValue3
 t33:=Try.underlying86
 a33:=Try.isAgg86
 z33:=Try.sizeOf86
 v33:=Try.zeroValue86 }
def sortI42_ren:Go.Shelf.Ren:=⟨fun | 5=>46 | 8=>50 | 7=>53 | 19=>62 | 20=>63 | 10=>64 | 11=>65 | 12=>66 | 13=>67 | 14=>68 | 15=>69 | 16=>70 | 17=>71 | 18=>72 | 30=>78 | 31=>74 | 32=>75 | 33=>79 | 34=>80 | 35=>51 | 40=>82 | n=>n,fun | 23=>40 | 25=>3 | 3=>3 | 32=>83 | 22=>40 | 0=>0 | 44=>101 | 46=>103 | 4=>4 | 36=>95 | 35=>94 | 41=>68 | 5=>5 | 9=>9 | 53=>110 | 57=>114 | 63=>118 | 64=>119 | n=>n,fun | n=>n⟩
theorem sortI42:Go.Proofs.SlLaysM.n5 Try.prog sortI42_ren:={
 mixed:=by kernel_rfl
 f5:=⟨Try.f46.name,by decide,Try.func46.trans (congrArg some (by kernel_rfl))⟩
 f7:=⟨Try.f53.name,by decide,Try.func53.trans (congrArg some (by kernel_rfl))⟩
 f8:=Try.func50.trans (congrArg some (by kernel_rfl))
 f10:=⟨Try.f64.name,by decide,Try.func64.trans (congrArg some (by kernel_rfl))⟩
 f11:=⟨Try.f65.name,by decide,Try.func65.trans (congrArg some (by kernel_rfl))⟩
 f12:=⟨Try.f66.name,by decide,Try.func66.trans (congrArg some (by kernel_rfl))⟩
 f13:=⟨Try.f67.name,by decide,Try.func67.trans (congrArg some (by kernel_rfl))⟩
 f14:=⟨Try.f68.name,by decide,Try.func68.trans (congrArg some (by kernel_rfl))⟩
 f15:=⟨Try.f69.name,by decide,Try.func69.trans (congrArg some (by kernel_rfl))⟩
 f16:=⟨Try.f70.name,by decide,Try.func70.trans (congrArg some (by kernel_rfl))⟩
 f17:=⟨Try.f71.name,by decide,Try.func71.trans (congrArg some (by kernel_rfl))⟩
 f18:=⟨Try.f72.name,by decide,Try.func72.trans (congrArg some (by kernel_rfl))⟩
 f19:=Try.func62.trans (congrArg some (by kernel_rfl))
 f20:=Try.func63.trans (congrArg some (by kernel_rfl))
 f30:=⟨Try.f78.name,by decide,Try.func78.trans (congrArg some (by kernel_rfl))⟩
 f31:=Try.func74.trans (congrArg some (by kernel_rfl))
 f32:=Try.func75.trans (congrArg some (by kernel_rfl))
 f33:=⟨Try.f79.name,by decide,Try.func79.trans (congrArg some (by kernel_rfl))⟩
 f34:=⟨Try.f80.name,by decide,Try.func80.trans (congrArg some (by kernel_rfl))⟩
 f35:=⟨Try.f51.name,by decide,Try.func51.trans (congrArg some (by kernel_rfl))⟩
 f40:=⟨Try.f82.name,by decide,Try.func82.trans (congrArg some (by kernel_rfl))⟩
 t0:=Try.underlying0
 a0:=Try.isAgg0
 z0:=Try.sizeOf0
 v0:=Try.zeroValue0
 t3:=Try.underlying3
 a3:=Try.isAgg3
 z3:=Try.sizeOf3
 v3:=Try.zeroValue3
 t4:=Try.underlying4
 a4:=Try.isAgg4
 z4:=Try.sizeOf4
 v4:=Try.zeroValue4
 t5:=Try.underlying5
 a5:=Try.isAgg5
 z5:=Try.sizeOf5
 v5:=Try.zeroValue5
 t9:=Try.underlying9
 a9:=Try.isAgg9
 z9:=Try.sizeOf9
 v9:=Try.zeroValue9
 t22:=Try.underlying40
 a22:=Try.isAgg40
 z22:=Try.sizeOf40
 v22:=Try.zeroValue40
 t23:=Try.underlying40
 a23:=Try.isAgg40
 z23:=Try.sizeOf40
 v23:=Try.zeroValue40
 t25:=Try.underlying3
 a25:=Try.isAgg3
 z25:=Try.sizeOf3
 v25:=Try.zeroValue3
 t32:=Try.underlying83
 a32:=Try.isAgg83
 z32:=Try.sizeOf83
 v32:=Try.zeroValue83
 t35:=Try.underlying94
 a35:=Try.isAgg94
 z35:=Try.sizeOf94
 v35:=Try.zeroValue94
 t36:=Try.underlying95
 a36:=Try.isAgg95
 z36:=Try.sizeOf95
 v36:=Try.zeroValue95
 t41:=Try.underlying68
 a41:=Try.isAgg68
 z41:=Try.sizeOf68
 v41:=Try.zeroValue68
 t44:=Try.underlying101
 a44:=Try.isAgg101
 z44:=Try.sizeOf101
 v44:=Try.zeroValue101
 t46:=Try.underlying103
 a46:=Try.isAgg103
 z46:=Try.sizeOf103
 v46:=Try.zeroValue103
 t53:=Try.underlying110
 a53:=Try.isAgg110
 z53:=Try.sizeOf110
 v53:=Try.zeroValue110
 t57:=Try.underlying114
 a57:=Try.isAgg114
 z57:=Try.sizeOf114
 v57:=Try.zeroValue114
 t63:=Try.underlying118
 a63:=Try.isAgg118
 z63:=Try.sizeOf118
 v63:=Try.zeroValue118
 t64:=Try.underlying119
 a64:=Try.isAgg119
 z64:=Try.sizeOf119
 v64:=Try.zeroValue119 }
end Go.Proofs

namespace Go.Ab
open Go.Proofs
def rowB (ver n:Nat) (f:Nat->Hld):Blk:=⟨ver,3,n,fun j=>(f j).c,true,false,none⟩
def v25a (n:Nat):List T:=[.nils,.own 0 0 0 n none,.int .i64 n,.int .i64 0]
def v25b (n k i:Nat):List T:=[.own 1 k 0 (k+1) none,.own 0 0 0 n none,.int .i64 n,.int .i64 i]
noncomputable def K25i (p:List T->T->Prop) (z:Int):Orc:=noneO.add 29 (callF p fun _=>some (.int .i64 z))
noncomputable def K25 (p:List T->T->Prop) (q:List T->Heap->T->Heap->Prop) (n:Nat) (F S:Nat->Hld):Orc:=(noneO.add 38 (callF p fun _=>some (.fresh true 3 n (fun j=>(F j).c) n none))).addRef 39 (refF q fun _ _=>some (.tup [],[rowB 0 n S]))
def lastH (L:List Hld):Hld:=L.getD (L.length - 1) hd0
def mgStep (L:List Hld) (h:Hld):List Hld:=if L ≠ []/\cmpH (lastH L) h = 0 then L.set (L.length - 1) ⟨(lastH L).o,(lastH L).a,IntKind.i64.wrap ((lastH L).l+h.l)⟩ else L ++ [h]
def mgTo (S:Nat->Hld):Nat->List Hld
 | 0=>[]
 | i+1=>mgStep (mgTo S i) (S i)
theorem mgStep_len (L:List Hld) (h:Hld):(mgStep L h).length<=L.length+1/\L.length<=(mgStep L h).length/\0<(mgStep L h).length:=by
 unfold mgStep
 split
 ·rename_i q
  have:=List.length_pos_iff.2 q.1
  simp; omega
 ·simp
theorem mgTo_len (S:Nat->Hld):∀ i,(mgTo S i).length<=i/\(0<i->0<(mgTo S i).length)
 | 0=>⟨Nat.le_refl _,fun h=>absurd h (Nat.lt_irrefl _)⟩
 | i+1=>by
  have h1:=mgTo_len S i
  have h2:=mgStep_len (mgTo S i) (S i)
  exact ⟨by simp only [mgTo]; omega,fun _=>h2.2.2⟩
def lstF (L:List Hld):Nat->Hld:=fun j=>L.getD j hd0
def vs25 (n:Nat) (S:Nat->Hld):Nat->List T
 | 0=>v25a n
 | i+1=>v25b n ((mgTo S (i+1)).length - 1) (i+1)
def hh25 (n:Nat) (S:Nat->Hld):Nat->Heap
 | 0=>[rowB 0 n S]
 | i+1=>[rowB 0 n S,rowB ((mgTo S (i+1)).length - 1) ((mgTo S (i+1)).length - 1+1) (lstF (mgTo S (i+1)))]
theorem i25a (n:Nat) (S:Nat->Hld) (p:List T->T->Prop) (z:Int):iterR P42 G42 A42 (K25i p z) 0 25 [] 5 (v25a n) [rowB 0 n S] =
(
 bif decide (0<Int.ofNat n) then
 bif decide (0<Int.ofNat n) then
 bif Nat.blt 0 n then
 some ((.normal,[.own 2 0 0 1
 none,.own 0 0 0 n
 none,.int .i64 (.ofNat n),.int .i64 1],[rowB (0:Nat) n S,.mk 0 3 1 (fun j=>[(S (0:Nat)).c].getD j []) true true
 none,.mk 0 3 1 (fun j=>[(S (0:Nat)).c].getD (0+j) []) true false
 none]))
 else none else none else
 some ((.exit 0,[.nils],[rowB (0:Nat) n S]))):=by kernel_rfl
theorem i25b (n k i:Nat) (S L:Nat->Hld) (p:List T->T->Prop) (z:Int):iterR P42 G42 A42 (K25i p z) 0 25 [] 5 (v25b n k i) [rowB 0 n S,rowB k (k+1) L] =
(
 bif decide (Int.ofNat i<Int.ofNat n) then
 bif decide (0<=Int.ofNat i)&&decide (Int.ofNat i<Int.ofNat n) then
 bif ((0:Nat)+i).blt n then
 bif k==k&&true then
 bif decide (0<Int.ofNat (k+1)) then
 bif k==k&&true then
 bif decide (0<=IntKind.i64.wrap (Int.ofNat (k+1) - (1:Int)))&&decide (IntKind.i64.wrap (Int.ofNat (k+1) - (1:Int))<Int.ofNat (k+1)) then
 bif k==k&&true then
 bif ((0:Nat)+(IntKind.i64.wrap (Int.ofNat (k+(1:Nat)) - (1:Int))).toNat).blt (k+1) then
 bif decF (p [.agg (L ((0:Nat)+(IntKind.i64.wrap (Int.ofNat (k+(1:Nat)) - (1:Int))).toNat)).c,.agg (S ((0:Nat)+i)).c] (.int .i64 z)) then
 bif decide (z = 0) then
 bif k==k&&true then
 bif decide (0<=IntKind.i64.wrap (Int.ofNat (k+1) - (1:Int)))&&decide (IntKind.i64.wrap (Int.ofNat (k+1) - (1:Int))<Int.ofNat (k+1)) then
 bif k==k&&true then
 bif k==k&&true then
 bif ((0:Nat)+(IntKind.i64.wrap (Int.ofNat (k+(1:Nat)) - (1:Int))).toNat).blt (k+1) then
 bif k==k&&true then
 bif decide (0<=IntKind.i64.wrap (Int.ofNat (k+1) - (1:Int)))&&decide (IntKind.i64.wrap (Int.ofNat (k+1) - (1:Int))<Int.ofNat (k+1)) then
 bif k==k&&true then
 bif k==k&&true then
 bif ((0:Nat)+(IntKind.i64.wrap (Int.ofNat (k+(1:Nat)) - (1:Int))).toNat).blt (k+1)&&true&&true&&true then
 some ((.normal,[.own 1 k 0 (k+1)
 none,.own 0 0 0 n
 none,.int .i64 (.ofNat n),.int .i64 (IntKind.i64.wrap (Int.ofNat i+1))],[rowB (0:Nat) n S,.mk k 3 (k+1) (fun e=>[.int .i64 (bif e==(0:Nat)+(IntKind.i64.wrap (Int.ofNat (k+(1:Nat)) - (1:Int))).toNat then (L ((0:Nat)+(IntKind.i64.wrap (Int.ofNat (k+(1:Nat)) - (1:Int))).toNat)).o
 else (L e).o),.int .i64 (bif e==(0:Nat)+(IntKind.i64.wrap (Int.ofNat (k+(1:Nat)) - (1:Int))).toNat then (L ((0:Nat)+(IntKind.i64.wrap (Int.ofNat (k+(1:Nat)) - (1:Int))).toNat)).a
 else (L e).a),.int .i64 (bif e==(0:Nat)+(IntKind.i64.wrap (Int.ofNat (k+(1:Nat)) - (1:Int))).toNat then IntKind.i64.wrap ((L ((0:Nat)+(IntKind.i64.wrap (Int.ofNat (k+(1:Nat)) - (1:Int))).toNat)).l+(S ((0:Nat)+i)).l)
 else (L e).l)]) true false
 none]))
 else none else none else none else none else none else none else none else none else none else none else
 bif k==k&&true then
 bif ((0:Nat)+(k+(1:Nat))).ble (k+1) then
 bif ((k+(1:Nat)+(1:Nat)) * (25:Nat)).ble 70368744177664 then
 bif ((0:Nat)+(k+(1:Nat))+(1:Nat)).ble (k+1) then
 some ((.normal,[.own 1 k 0 (k+1+(1:Nat))
 none,.own 0 0 0 n
 none,.int .i64 (.ofNat n),.int .i64 (IntKind.i64.wrap (Int.ofNat i+1))],[rowB (0:Nat) n S,.mk k 3 (k+1) (fun j =>
 bif ((0:Nat)+(k+(1:Nat))).ble j&&j.blt ((0:Nat)+(k+1)+(1:Nat)) then [(S ((0:Nat)+i)).c].getD ((0:Nat)+(j - ((0:Nat)+(k+1)))) []
 else (L j).c) true false
 none,.mk 0 3 1 (fun j=>[(S ((0:Nat)+i)).c].getD j []) true true
 none]))
 else
 some ((.normal,[.own 1 (k+1) (0:Nat) (k+1+(1:Nat))
 none,.own 0 0 0 n
 none,.int .i64 (.ofNat n),.int .i64 (IntKind.i64.wrap (Int.ofNat i+1))],[rowB (0:Nat) n S,.mk (k+1) (3:Nat) (k+1+(1:Nat)) (fun j =>
 bif j.blt (k+1) then (L ((0:Nat)+j)).c
 else [(S ((0:Nat)+i)).c].getD ((0:Nat)+(j - (k+1))) []) true false
 none,.mk 0 3 1 (fun j=>[(S ((0:Nat)+i)).c].getD j []) true true
 none]))
 else none else none else none else none else none else none else none else none else
 bif k==k&&true then
 bif ((0:Nat)+(k+(1:Nat))).ble (k+1) then
 bif ((k+(1:Nat)+(1:Nat)) * (25:Nat)).ble 70368744177664 then
 bif ((0:Nat)+(k+(1:Nat))+(1:Nat)).ble (k+1) then
 some ((.normal,[.own 1 k 0 (k+1+(1:Nat))
 none,.own 0 0 0 n
 none,.int .i64 (.ofNat n),.int .i64 (IntKind.i64.wrap (Int.ofNat i+1))],[rowB (0:Nat) n S,.mk k 3 (k+1) (fun j =>
 bif ((0:Nat)+(k+(1:Nat))).ble j&&j.blt ((0:Nat)+(k+1)+(1:Nat)) then [(S ((0:Nat)+i)).c].getD ((0:Nat)+(j - ((0:Nat)+(k+1)))) []
 else (L j).c) true false
 none,.mk 0 3 1 (fun j=>[(S ((0:Nat)+i)).c].getD j []) true true
 none]))
 else
 some ((.normal,[.own 1 (k+1) (0:Nat) (k+1+(1:Nat))
 none,.own 0 0 0 n
 none,.int .i64 (.ofNat n),.int .i64 (IntKind.i64.wrap (Int.ofNat i+1))],[rowB (0:Nat) n S,.mk (k+1) (3:Nat) (k+1+(1:Nat)) (fun j =>
 bif j.blt (k+1) then (L ((0:Nat)+j)).c
 else [(S ((0:Nat)+i)).c].getD ((0:Nat)+(j - (k+1))) []) true false
 none,.mk 0 3 1 (fun j=>[(S ((0:Nat)+i)).c].getD j []) true true
 none]))
 else none else none else none else none else none else none else
 some ((.exit 0,[.own 1 k 0 (k+1)
 none],[rowB (0:Nat) n S,rowB k (k+1) L]))):=by kernel_rfl
theorem k25 (n m k N:Nat) (f g F S L:Nat->Hld) (c d:Option Nat) (p:List T->T->Prop) (q:List T->Heap->T->Heap->Prop):stepL P42 G42 A42 (K25 p q N F S) 0 25 [(5,litS (v25a N) [rowB 0 N S] (.exit 0) [.own 1 k 0 (k+1) none] [rowB 0 N S,rowB k (k+1) L])] [hV n f c,hV m g d] =
(
 bif decF (p [two38 n m f g c d] (.fresh true (3:Nat) N (fun j=>(F j).c) N
 none)) then
 bif decF (q [.own 0 0 0 N
 none,.fn (29:Nat) []] [rowB (0:Nat) N F] (.tup []) [rowB (0:Nat) N S]) then
 bif weakF (v25a N) [rowB (0:Nat) N S] (v25a N) [rowB (0:Nat) N S] then
 some (bif k==k&&((0:Nat)+(k+(1:Nat))).ble (k+1) then .fresh true (3:Nat) (k+1) (fun j=>(L ((0:Nat)+j)).c) (k+1) none else .undef)
 else none else none else
 none):=by kernel_rfl
theorem loop25 (n:Nat) (S:Nat->Hld) (h0:0<n) (hn:n<=900000):LoopOk P42 G42 (A42 25) 25 5 (litS (v25a n) [rowB 0 n S] (.exit 0) [.own 1 ((mgTo S n).length - 1) 0 ((mgTo S n).length - 1+1) none] [rowB 0 n S,rowB ((mgTo S n).length - 1) ((mgTo S n).length - 1+1) (lstF (mgTo S n))]):=by
 obtain ⟨p,hp⟩:=is_val P42 G42 29
 refine loop_steps hm42 (by kernel_rfl) (vs25 n S) (hh25 n S) (n:=n) (fun i hi=>?_) ?_
 ·cases i with
  | zero =>
   refine Step.mkC (A:=A42) (m:=0) (K:=K25i p 0) (told_add none_ok (callF_told hp)) rfl rfl loops0 [0,2] (v1:=[.own 2 0 0 1 none,.own 0 0 0 n none,.int .i64 n,.int .i64 1]) (h1:=[rowB 0 n S,⟨0,3,1,fun j=>[(S 0).c].getD j [],true,true,none⟩,⟨0,3,1,fun j=>[(S 0).c].getD (0+j) [],true,false,none⟩]) ?_ (by kernel_rfl) (v2:=v25b n 0 1) (by rfl) rfl fun nt=>.same (.cons ⟨rfl,rfl,rfl,id,fun _ _=>rfl⟩ (.cons ⟨rfl,rfl,rfl,id,fun j hj=>?_⟩ .nil))
   ·show iterR P42 G42 A42 (K25i p 0) 0 25 [] 5 (v25a n) [rowB 0 n S] = _
    rw [i25a]
    exact BT (BT (BT rfl))
   ·obtain rfl:j = 0:=by have:j<1:=hj; omega
    rfl
  | succ i =>
   have hl:=mgTo_len S (i+1)
   have hpos:=hl.2 (by omega)
   have hstep:mgTo S (i+1+1) = mgStep (mgTo S (i+1)) (S (i+1)):=rfl
   have e0:vs25 n S (i+1) = v25b n ((mgTo S (i+1)).length - 1) (i+1):=rfl
   have e1:vs25 n S (i+1+1) = v25b n ((mgTo S (i+1+1)).length - 1) (i+1+1):=rfl
   have e2:hh25 n S (i+1) = [rowB 0 n S,rowB ((mgTo S (i+1)).length - 1) ((mgTo S (i+1)).length - 1+1) (lstF (mgTo S (i+1)))]:=rfl
   have e3:hh25 n S (i+1+1) = [rowB 0 n S,rowB ((mgTo S (i+1+1)).length - 1) ((mgTo S (i+1+1)).length - 1+1) (lstF (mgTo S (i+1+1)))]:=rfl
   rw [e0,e1,e2,e3,hstep]
   generalize mgTo S (i+1) = L at *
   obtain ⟨k,hk⟩:∃ k,L.length = k+1:=⟨L.length - 1,by omega⟩
   have hk1:L.length - 1 = k:=by omega
   have t:=cmpHT (lastH L) (S (i+1))
   have ew:IntKind.i64.wrap (Int.ofNat (k+1) - (1:Int)) = Int.ofNat k:=by
    rw [wr64 (x:=Int.ofNat (k+1) - 1) (by show (_:Int)<=((k+1:Nat):Int) - 1; omega) (by show ((k+1:Nat):Int) - 1<=_; omega)]
    show ((k+1:Nat):Int) - 1 = (k:Int); omega
   have et:(Int.ofNat k).toNat = k:=rfl
   have elast:lstF L k = lastH L:=by rw [lastH,hk1]; rfl
   rw [hk1]
   by_cases hz:cmpH (lastH L) (S (i+1)) = 0
   ·have hm:mgStep L (S (i+1)) = L.set k ⟨(lastH L).o,(lastH L).a,IntKind.i64.wrap ((lastH L).l+(S (i+1)).l)⟩:=by
     unfold mgStep
     rw [if_pos ⟨List.length_pos_iff.1 hpos,hz⟩,hk1]
    have hml:(mgStep L (S (i+1))).length - 1 = k:=by rw [hm,List.length_set]; omega
    rw [hml,hm]
    rw [hz] at t
    refine Step.mk0 (A:=A42) (m:=0) (K:=K25i p 0) (told_add none_ok (callF_told hp)) rfl rfl loops0 (h1:=[rowB 0 n S,⟨k,3,k+1,fun e=>[.int .i64 (bif e==k then (lastH L).o else (lstF L e).o),.int .i64 (bif e==k then (lastH L).a else (lstF L e).a),.int .i64 (bif e==k then IntKind.i64.wrap ((lastH L).l+(S (i+1)).l) else (lstF L e).l)],true,false,none⟩]) ?_ (.cons ⟨rfl,rfl,rfl,id,fun _ _=>rfl⟩ (.cons ⟨rfl,rfl,rfl,id,fun j hj=>?_⟩ .nil))
    ·rw [i25b,ew,et,up1 (by omega)]
     simp only [Nat.zero_add]
     rw [elast]
     refine BT (BT (BT (BT (BT (BT (BT (BT (BT (bift (callF_yes hp t) (bift rfl (BT (BT (BT (BT (BT (BT (BT (BT (BT (BT ?_))))))))))))))))))))
     rfl
    ·have hj:j<k+1:=hj
     show (lstF (L.set k ⟨(lastH L).o,(lastH L).a,IntKind.i64.wrap ((lastH L).l+(S (i+1)).l)⟩) j).c = _
     by_cases q:j = k
     ·subst q
      have e:∀ X,lstF (L.set j X) j = X:=fun X=>by simp [lstF,hk]
      rw [e]
      simp [Hld.c]
     ·have e:∀ X,lstF (L.set k X) j = lstF L j:=fun X=>by
       simp only [lstF,List.getD_eq_getElem?_getD,List.getElem?_set_ne (fun h=>q h.symm)]
      have hq:(j==k) = false:=by simp [q]
      rw [e]
      simp only [hq,cond_false]
      rfl
   ·have hm:mgStep L (S (i+1)) = L ++ [S (i+1)]:=by
     unfold mgStep
     rw [if_neg fun h=>hz h.2]
    have hml:(mgStep L (S (i+1))).length - 1 = k+1:=by rw [hm]; simp; omega
    rw [hml,hm]
    refine Step.mk (A:=A42) (m:=0) (K:=K25i p (cmpH (lastH L) (S (i+1)))) (told_add none_ok (callF_told hp)) rfl rfl loops0 2 (by show 1<=2; decide) (h1:=[rowB 0 n S,⟨k+1,3,k+1+1,fun j=>bif Nat.blt j (k+1) then (lstF L j).c else [(S (i+1)).c].getD (0+(j - (k+1))) [],true,false,none⟩,⟨0,3,1,fun j=>[(S (i+1)).c].getD j [],true,true,none⟩]) (vs':=v25b n (k+1) (i+1+1)) ?_ (by rfl) (.cons ⟨rfl,rfl,rfl,id,fun _ _=>rfl⟩ (.cons ⟨rfl,rfl,rfl,id,fun j hj=>?_⟩ .nil))
    ·rw [i25b,ew,et,up1 (by omega)]
     simp only [Nat.zero_add]
     rw [elast]
     refine BT (BT (BT (BT (BT (BT (BT (BT (BT (bift (callF_yes hp t) (biff (by simpa using hz) (BT (BT (BT (BF ?_))))))))))))))
     rfl
    ·have hj:j<k+1+1:=hj
     show (lstF (L ++ [S (i+1)]) j).c = _
     by_cases q:j<k+1
     ·have e:lstF (L ++ [S (i+1)]) j = lstF L j:=by
       simp only [lstF,List.getD_eq_getElem?_getD,List.getElem?_append_left (show j<L.length by omega)]
      rw [e]
      simp only [show Nat.blt j (k+1) = true from Nat.ble_eq_true_of_le q,cond_true]
     ·obtain rfl:j = k+1:=by omega
      have e:lstF (L ++ [S (i+1)]) (k+1) = S (i+1):=by
       simp only [lstF,List.getD_eq_getElem?_getD]
       rw [List.getElem?_append_right (by omega),hk,Nat.sub_self]
       rfl
      have hf:Nat.blt (k+1) (k+1) = false:=by rw [← Bool.not_eq_true,Nat.blt_eq]; omega
      rw [e]
      simp only [hf,cond_false,Nat.sub_self,Nat.zero_add]
      rfl
 ·obtain ⟨i,rfl⟩:∃ i,n = i+1:=⟨n - 1,by omega⟩
  refine Last.mk0 (A:=A42) (m:=0) (K:=K25i p 0) (told_add none_ok (callF_told hp)) rfl rfl loops0 (h1:=hh25 (i+1) S (i+1)) (by simp) ?_ (.refl _)
  show iterR P42 G42 A42 (K25i p 0) 0 25 [] 5 (v25b (i+1) ((mgTo S (i+1)).length - 1) (i+1)) [rowB 0 (i+1) S,rowB ((mgTo S (i+1)).length - 1) ((mgTo S (i+1)).length - 1+1) (lstF (mgTo S (i+1)))] = _
  rw [i25b]
  exact BF rfl
open Go.Proofs Go.Shelf Go.RowKit Go.Sort
instance:Inhabited Hld:=⟨hd0⟩
def zsH (x:Hld):List Int:=[x.o,x.a,x.l]
def srt42 (d:Array Hld):Array Hld:=pdq (ltOf cmpH) d 0 d.size (Lib.bitLen d.size) true true
theorem cmpH_lt (x y:Hld):cmpH x y<0 ↔ x.o<y.o ∨ (x.o = y.o/\x.a<y.a):=by
 unfold cmpH cmpIF
 by_cases h1:x.o<y.o
 ·simp [h1]
 ·by_cases h2:y.o<x.o
  ·simp [h1,h2]; omega
  ·have h3:x.o = y.o:=by omega
   by_cases h4:x.a<y.a
   ·simp [h3,h4]
   ·by_cases h5:y.a<x.a
    ·simp [h3,h4,h5]
    ·simp [h3,h4,h5]
theorem cmpH_0 (x y:Hld):cmpH x y = 0 ↔ x.o = y.o/\x.a = y.a:=by
 unfold cmpH cmpIF
 by_cases h1:x.o<y.o
 ·simp [h1]; omega
 ·by_cases h2:y.o<x.o
  ·simp [h1,h2]; omega
  ·have h3:x.o = y.o:=by omega
   by_cases h4:x.a<y.a
   ·simp [h3,h4]; omega
   ·by_cases h5:y.a<x.a
    ·simp [h3,h4,h5]; omega
    ·simp [h3,h4,h5]; omega
theorem swoH:SWO (ltOf cmpH) where
 irrefl x:=by simp only [ltOf,decide_eq_false_iff_not,cmpH_lt]; omega
 trans x y z h1 h2:=by simp only [ltOf,decide_eq_true_eq,cmpH_lt] at *; omega
 ntrans x y z h1 h2:=by simp only [ltOf,decide_eq_false_iff_not,cmpH_lt] at *; omega
theorem sorts42:SortsK P42 39 29 zsH 3 srt42:=by
 intro blk off cap d w hH hblk hsz
 have eg:∀ args w,(callFunc 29 args).run P42 w = .ok (.enter 29 args) w:=enters_of Try.func29 (by kernel_rfl) rfl
 exact AnyQ.slices_SortFunc_eq sort42 3 Try.isAgg29 Try.sizeOf29 (encK zsH) (fun _=>rfl) (fun x v hv=>by simp [encK,zsH] at hv; rcases hv with rfl | rfl | rfl <;> rfl) cmpH swoH 29 #[] blk off cap d w eg
  (fun m os dk _ x y=>comp_walk (x.o,x.a,x.l) (y.o,y.a,y.l) _) hH hblk hsz
theorem srt42_is (d:Array Hld):PermIn 0 d.size d (srt42 d)/\SortedIn (ltOf cmpH) 0 d.size (srt42 d):=pdq_sorts (ltOf cmpH) swoH d 0 d.size (Lib.bitLen d.size) true true (Nat.zero_le _) (Nat.le_refl _) (Or.inl rfl)
def catF (n:Nat) (f g:Nat->Hld) (j:Nat):Hld:=bif Nat.blt j n then f j else g (j - n)
def srtF (n m:Nat) (f g:Nat->Hld) (j:Nat):Hld:=(srt42 ((List.range (n+m)).map (catF n f g)).toArray)[j]!
def mgF (n m:Nat) (f g:Nat->Hld):List Hld:=mgTo (srtF n m f g) (n+m)
noncomputable def K25z (p q:List T->T->Prop):Orc:=(noneO.add 38 (callF p fun _=>some .nils)).add 39 (callF q fun _=>some (.tup []))
theorem k38z (f g:Nat->Hld) (c d:Option Nat):stepV P42 G42 A42 (noneO.inl P42 G42 A42 noneO 0 48) 3 38 [two38 0 0 f g c d] =
(
 some (.nils)):=by kernel_rfl
theorem k25z (f g:Nat->Hld) (c d:Option Nat) (p q:List T->T->Prop):stepV P42 G42 A42 (K25z p q) 1 25 [hV 0 f c,hV 0 g d] =
(
 bif decF (p [two38 (0:Nat) (0:Nat) f g c d] .nils) then
 bif decF (q [.nils,.fn (29:Nat) []] (.tup [])) then
 some (.nils)
 else none else
 none):=by kernel_rfl
theorem sortR (n:Nat) (F:Nat->Hld) (h0:0<n) (hn:n<=900000):ToldRef P42 G42 39 [.own 0 0 0 n none,.fn 29 []] [rowB 0 n F] (.tup []) [rowB 0 n fun j=>(srt42 ((List.range n).map F).toArray)[j]!] :=
 sortK_ref (k:=3) (zs:=zsH) (fun _=>rfl) (fun d=>(srt42_is d).1.1) sorts42 ⟨Try.f39,Try.func39,by kernel_rfl,by kernel_rfl⟩ (i:=0) (b:=rowB 0 n F) rfl rfl rfl h0 (by show n<_; omega) (x:=F) (fun j _=>rfl)
theorem mergeP (n m:Nat) (f g:Nat->Hld) (c d:Option Nat) (hn:n<=400000) (hm:m<=400000) (h0:0<n+m):ToldOk P42 G42 25 [hV n f c,hV m g d] (.fresh true 3 (mgF n m f g).length (fun j=>(lstF (mgF n m f g) j).c) (mgF n m f g).length none):=by
 obtain ⟨p,hp⟩:=is_val P42 G42 38
 obtain ⟨q,hq⟩:=is_ref P42 G42 39
 have t1:=concT n m f g c d hn hm h0
 have e:(fun j=>bif Nat.blt j n then (f j).c else (g (j - n)).c) = fun j=>(catF n f g j).c:=by
  funext j
  unfold catF
  cases Nat.blt j n <;> rfl
 rw [e] at t1
 have t2:=sortR (n+m) (catF n f g) h0 (by omega)
 have hl:=(mgTo_len (srtF n m f g) (n+m)).2 h0
 obtain ⟨k,hk⟩:∃ k,(mgF n m f g).length = k+1:=⟨(mgF n m f g).length - 1,by show (mgTo _ _).length = (mgTo _ _).length - 1+1; omega⟩
 have l1:=loop25 (n+m) (srtF n m f g) h0 (by omega)
 have hk':(mgTo (srtF n m f g) (n+m)).length = k+1:=hk
 rw [hk',show k+1 - 1 = k by omega] at l1
 rw [hk]
 refine stepL_told hm42 hn42 (told_addRef (told_add none_ok (callF_told hp)) (refF_told hq)) (K:=K25 p q (n+m) (catF n f g) (srtF n m f g)) (A:=A42) (m:=0) (by kernel_rfl) (loops1 l1) ?_
 rw [k25]
 refine bift (callF_yes hp t1) (bift (refF_yes hq t2) (bift (weakF_of ⟨rfl,.refl _⟩) ?_))
 rw [Nat.zero_add,bleT (Nat.le_refl _),beq_self_eq_true]
 simp only [Nat.zero_add]
 rfl
theorem mergeZ (f g:Nat->Hld) (c d:Option Nat):ToldOk P42 G42 25 [hV 0 f c,hV 0 g d] .nils:=by
 obtain ⟨p,hp⟩:=is_val P42 G42 38
 obtain ⟨q,hq⟩:=is_val P42 G42 39
 have t1:ToldOk P42 G42 38 [two38 0 0 f g c d] .nils:=stepV_told hm42 hn42 (told_inl hm42 hn42 none_ok none_ok) (K:=noneO.inl P42 G42 A42 noneO 0 48) (A:=A42) (m:=3) (k38z f g c d)
 have t2:ToldOk P42 G42 39 [.nils,.fn 29 []] (.tup []):=by
  refine ⟨⟨Try.f39,Try.func39,by kernel_rfl,by kernel_rfl⟩,fun w U cargs hU hgl ha=>?_⟩
  obtain ⟨v0,a1,a2⟩:=ha.2 0 _ rfl
  obtain ⟨v1,a3,a4⟩:=ha.2 1 _ rfl
  have hc2:cargs = #[v0,v1]:=by
   have hs:cargs.size = 2:=ha.1.symm
   refine Array.ext (by simp [hs]) fun k h1 h2=>?_
   match k,h1 with
   | 0,_=>simpa [Array.getElem?_eq_getElem (show 0<cargs.size by omega)] using a1
   | 1,_=>simpa [Array.getElem?_eq_getElem (show 1<cargs.size by omega)] using a3
   | k+2,h1=>omega
  subst hc2
  cases a2
  refine (AnyF.slices_SortFunc_none sort42 none 0 v1 w).mono fun e' w' ⟨h1,h2⟩=>⟨_,h1,?_⟩
  subst h2
  exact ⟨⟨RowKit.Below.refl _ _,Nat.le_refl _⟩,U,[],fun _ h=>h,fun b h=>⟨.inl h,hU b h⟩,List.nodup_nil,fun b h=>(by cases h),#[],rfl,.nil⟩
 refine stepV_told hm42 hn42 (told_add (told_add none_ok (callF_told hp)) (callF_told hq)) (K:=K25z p q) (A:=A42) (m:=1) ?_
 rw [k25z]
 exact bift (callF_yes hp t1) (bift (callF_yes hq t2) rfl)
open Go.Proofs
def stV (cs:List Cne) (hs:List Hld):T:=.agg [cnV cs (some cs.length),hdV hs (some hs.length)]
def stN (cs:List Cne) (hs:List Hld):T:=.agg [.new (cnV cs (some cs.length)),.new (hdV hs (some hs.length))]
def stF (cs:List Cne) (hs:List Hld):T:=.agg [.fresh true 2 cs.length (fun j=>(cs.getD j cn0).c) cs.length (some cs.length),.fresh true 3 hs.length (fun j=>(hs.getD j hd0).c) hs.length (some hs.length)]
def mgL (a b:List Hld):List Hld:=mgF a.length b.length (lstF a) (lstF b)
def v8a (cs:List Cne) (hs l:List Hld) (i:Nat):List T:=[hdV l none,.reg [cnV cs none,hdV hs none],.reg [.nils,.nils],hdV l none,.int .i64 l.length,.int .i64 i]
def v8b (cs:List Cne) (hs l:List Hld) (i:Nat):List T:=[.reg [cnV cs none,hdV hs none],.reg [.nils,.nils],hdV l none,hdV l none,.int .i64 l.length,.int .i64 i]
noncomputable def K8a (p:List T->T->Prop) (b:Bool):Orc:=noneO.add 21 (callF p fun _=>some (.bool b))
noncomputable def K8 (p10 p22 p25 p26:List T->T->Prop) (q23 q24:List T->Heap->T->Heap->Prop) (E:Int) (s s2:Sm) (b:Bool) (M:List Hld) (cs:List Cne):Orc :=
 (((((noneO.add 10 (callF p10 fun _=>some (.int .i64 E))).add 22 (callF p22 fun _=>some (.freshm s.m))).add 25 (callF p25 fun _=>some (hdV M none))).add 26 (callF p26 fun _=>some (stF cs M))).addRef 23 (refF q23 fun _ _=>some (.tup [],[mapBlk 0 s2.m]))).addRef 24 (refF q24 fun _ h=>some (.bool b,h))
noncomputable def l8 (x y:List T->Heap->Ex->List T->Heap->Prop) (cs:List Cne) (hs l M:List Hld) (b1 b2:Bool) (hp:Heap):List (Nat × (List T->Heap->LT)) :=
 [(5,loopF x (.ite b1 (.ret (.exit 0) [hdV l none,.reg [cnV cs none,hdV hs none],.reg [.nils,.nils],.undef] []) (.ret .ret [hdV l none,.reg [cnV cs none,hdV hs none],.reg [.nils,.nils],.int .i64 1] []))),
  (16,loopF y (.ite b2 (.ret (.exit 2) [.reg [cnV cs none,hdV hs none],.reg [.nils,.nils],.undef,hdV M none] hp) (.ret .ret [.reg [cnV cs none,hdV hs none],.reg [.nils,.nils],.int .i64 3,hdV M none] hp)))]
theorem i8a (cs:List Cne) (hs l:List Hld) (i:Nat) (b:Bool) (p:List T->T->Prop):iterR P42 G42 A42 (K8a p b) 0 8 [] 5 (v8a cs hs l i) [] =
(
 bif decide (Int.ofNat i<Int.ofNat l.length) then
 bif decide (0<=Int.ofNat i)&&decide (Int.ofNat i<Int.ofNat l.length) then
 bif decF (p [.agg (l.getD i (Hld.mk (0:Int) (0:Int) (0:Int))).c] (.bool b)) then
 bif b then
 some ((.normal,[hdV l
 none,.reg [cnV cs
 none,hdV hs
 none],.reg [.nils,.nils],hdV l
 none,.int .i64 (.ofNat l.length),.int .i64 (IntKind.i64.wrap (Int.ofNat i+1))],[]))
 else
 some ((.ret,[hdV l
 none,.reg [cnV cs
 none,hdV hs
 none],.reg [.nils,.nils],.int .i64 1],[]))
 else none else none else
 some ((.exit 0,[hdV l
 none,.reg [cnV cs
 none,hdV hs
 none],.reg [.nils,.nils],.undef],[]))):=by kernel_rfl
theorem i8b (cs:List Cne) (hs l:List Hld) (i:Nat) (s:Sm):iterR P42 G42 A42 noneO 0 8 [] 16 (v8b cs hs l i) [mapBlk 0 s.m] =
(
 bif decide (Int.ofNat i<Int.ofNat l.length) then
 bif decide (0<=Int.ofNat i)&&decide (Int.ofNat i<Int.ofNat l.length) then
 bif decide ((1000000000:Int)<(l.getD i (Hld.mk (0:Int) (0:Int) (0:Int))).l) then
 some ((.ret,[.reg [cnV cs
 none,hdV hs
 none],.reg [.nils,.nils],.int .i64 3,hdV l
 none],[.mk 0 0 0 (fun x=>[]) false false (some (MapD.mk (KS.int IntKind.i64) IntKind.i64 s.has s.val s.born s.clock
 none))]))
 else
 some ((.normal,[.reg [cnV cs
 none,hdV hs
 none],.reg [.nils,.nils],hdV l
 none,hdV l
 none,.int .i64 (.ofNat l.length),.int .i64 (IntKind.i64.wrap (Int.ofNat i+1))],[.mk 0 0 0 (fun x=>[]) false false (some (MapD.mk (KS.int IntKind.i64) IntKind.i64 s.has s.val s.born s.clock
 none))]))
 else none else
 some ((.exit 2,[.reg [cnV cs
 none,hdV hs
 none],.reg [.nils,.nils],.undef,hdV l
 none],[.mk 0 0 0 (fun x=>[]) false false (some (MapD.mk (KS.int IntKind.i64) IntKind.i64 s.has s.val s.born s.clock
 none))]))):=by kernel_rfl
theorem k8 (cs:List Cne) (hs l M:List Hld) (E:Int) (s s2:Sm) (b b1 b2:Bool) (p10 p22 p25 p26:List T->T->Prop) (q23 q24:List T->Heap->T->Heap->Prop) (x y:List T->Heap->Ex->List T->Heap->Prop):stepL P42 G42 A42 (K8 p10 p22 p25 p26 q23 q24 E s s2 b M cs) 0 8 (l8 x y cs hs l M b1 b2 [mapBlk 0 s2.m]) [.agg [cnV cs none,hdV hs none],hdV l none] =
(
 bif decF (p10 [.agg [cnV cs
 none,hdV hs
 none]] (.int .i64 E)) then
 bif !decide (E = 0) then
 some (.tup [.agg [.nils,.nils],.int .i64 E])
 else
 bif b1 then
 bif decF (x (v8a cs hs l (nat_lit 0)) [] (.exit 0) [hdV l
 none,.reg [cnV cs
 none,hdV hs
 none],.reg [.nils,.nils],.undef] []) then
 bif decF (p22 [.agg [cnV cs
 none,hdV hs
 none]] (T.freshm (MapD.mk (KS.int IntKind.i64) IntKind.i64 s.has s.val s.born s.clock
 none))) then
 bif decF (q23 [T.mp (0:Nat) (0:Nat),hdV l
 none] [.mk 0 0 0 (fun x=>[]) false false (some (MapD.mk (KS.int IntKind.i64) IntKind.i64 s.has s.val s.born s.clock
 none))] (.tup []) [.mk 0 0 0 (fun x=>[]) false false (some (MapD.mk (KS.int IntKind.i64) IntKind.i64 s2.has s2.val s2.born s2.clock
 none))]) then
 bif decF (q24 [T.mp (0:Nat) (0:Nat)] [.mk 0 0 0 (fun x=>[]) false false (some (MapD.mk (KS.int IntKind.i64) IntKind.i64 s2.has s2.val s2.born s2.clock
 none))] (.bool b) [.mk 0 0 0 (fun x=>[]) false false (some (MapD.mk (KS.int IntKind.i64) IntKind.i64 s2.has s2.val s2.born s2.clock
 none))]) then
 bif b then
 some (.tup [.agg [.nils,.nils],.int .i64 18])
 else
 bif decF (p25 [hdV hs
 none,hdV l
 none] (hdV M
 none)) then
 bif b2 then
 bif decF (y (v8b cs hs M (nat_lit 0)) [.mk 0 0 0 (fun x=>[]) false false (some (MapD.mk (KS.int IntKind.i64) IntKind.i64 s2.has s2.val s2.born s2.clock
 none))] (.exit 2) [.reg [cnV cs
 none,hdV hs
 none],.reg [.nils,.nils],.undef,hdV M
 none] [.mk 0 0 0 (fun x=>[]) false false (some (MapD.mk (KS.int IntKind.i64) IntKind.i64 s2.has s2.val s2.born s2.clock
 none))]) then
 bif decide (512<Int.ofNat M.length) then
 some (.tup [.agg [.nils,.nils],.int .i64 9])
 else
 bif decF (p26 [cnV cs
 none,hdV M
 none] (stF cs M)) then
 some (.tup [.agg [bif ((0:Nat)+cs.length).ble cs.length then .fresh true (2:Nat) cs.length (fun j=>(cs.getD ((0:Nat)+j) (Cne.mk (0:Int) (0:Int))).c) cs.length (some cs.length)
 else .undef,
 bif ((0:Nat)+M.length).ble M.length then .fresh true (3:Nat) M.length (fun j=>(M.getD ((0:Nat)+j) (Hld.mk (0:Int) (0:Int) (0:Int))).c) M.length (some M.length)
 else .undef],.int .i64 0])
 else none else none else
 bif decF (y (v8b cs hs M (nat_lit 0)) [.mk 0 0 0 (fun x=>[]) false false (some (MapD.mk (KS.int IntKind.i64) IntKind.i64 s2.has s2.val s2.born s2.clock
 none))] .ret [.reg [cnV cs
 none,hdV hs
 none],.reg [.nils,.nils],.int .i64 3,hdV M
 none] [.mk 0 0 0 (fun x=>[]) false false (some (MapD.mk (KS.int IntKind.i64) IntKind.i64 s2.has s2.val s2.born s2.clock
 none))]) then
 some (.tup [.agg [.nils,.nils],.int .i64 3])
 else none else none else none else none else none else none else
 bif decF (x (v8a cs hs l (nat_lit 0)) [] .ret [hdV l
 none,.reg [cnV cs
 none,hdV hs
 none],.reg [.nils,.nils],.int .i64 1] []) then
 some (.tup [.agg [.nils,.nils],.int .i64 1])
 else none else
 none):=by kernel_rfl
def lOk (l:List Hld):Bool:=allB (fun i=>hvB (l.getD i hd0)) l.length
def bigOk (l:List Hld):Bool:=allB (fun i=>!decide (1000000000<(l.getD i hd0).l)) l.length
theorem scan8a (cs:List Cne) (hs l:List Hld) (hn:l.length<=1000000):(lOk l = true->LoopOk P42 G42 (A42 8) 8 5 (litS (v8a cs hs l 0) [] (.exit 0) [hdV l none,.reg [cnV cs none,hdV hs none],.reg [.nils,.nils],.undef] []))/\(lOk l = false->LoopOk P42 G42 (A42 8) 8 5 (litS (v8a cs hs l 0) [] .ret [hdV l none,.reg [cnV cs none,hdV hs none],.reg [.nils,.nils],.int .i64 1] [])):=by
 obtain ⟨p,hp⟩:=is_val P42 G42 21
 refine loop_scan hm42 (by kernel_rfl) (fun i=>v8a cs hs l i) (fun _=>[]) (fun i=>hvB (l.getD i hd0)) (n:=l.length) (fun i hi _ hg=>?_) (fun i hi _ hg=>?_) (fun _=>?_)
 ·have t:=hvT (l.getD i hd0)
  rw [hg] at t
  refine Step.mk0 (A:=A42) (m:=0) (K:=K8a p true) (told_add none_ok (callF_told hp)) rfl rfl loops0 (h1:=[]) ?_ .nil
  rw [i8a,up1 (by omega)]
  exact BT (BT (bift (callF_yes hp t) rfl))
 ·have t:=hvT (l.getD i hd0)
  rw [hg] at t
  refine Last.mk0 (A:=A42) (m:=0) (K:=K8a p false) (told_add none_ok (callF_told hp)) rfl rfl loops0 (h1:=[]) (by simp) ?_ .nil
  rw [i8a]
  exact BT (BT (bift (callF_yes hp t) rfl))
 ·refine Last.mk0 (A:=A42) (m:=0) (K:=K8a p true) (told_add none_ok (callF_told hp)) rfl rfl loops0 (h1:=[]) (by simp) ?_ .nil
  rw [i8a]
  exact BF rfl
theorem scan8b (cs:List Cne) (hs l:List Hld) (s:Sm) (hn:l.length<=1000000):(bigOk l = true->LoopOk P42 G42 (A42 8) 8 16 (litS (v8b cs hs l 0) [mapBlk 0 s.m] (.exit 2) [.reg [cnV cs none,hdV hs none],.reg [.nils,.nils],.undef,hdV l none] [mapBlk 0 s.m]))/\(bigOk l = false->LoopOk P42 G42 (A42 8) 8 16 (litS (v8b cs hs l 0) [mapBlk 0 s.m] .ret [.reg [cnV cs none,hdV hs none],.reg [.nils,.nils],.int .i64 3,hdV l none] [mapBlk 0 s.m])):=by
 refine loop_scan hm42 (by kernel_rfl) (fun i=>v8b cs hs l i) (fun _=>[mapBlk 0 s.m]) (fun i=>!decide (1000000000<(l.getD i hd0).l)) (n:=l.length) (fun i hi _ hg=>?_) (fun i hi _ hg=>?_) (fun _=>?_)
 ·refine Step.mk0 (A:=A42) (m:=0) none_ok rfl rfl loops0 (h1:=[mapBlk 0 s.m]) ?_ (.refl _)
  rw [i8b,up1 (by omega)]
  exact BT (BT (biff (by simpa [hd0] using hg) rfl))
 ·refine Last.mk0 (A:=A42) (m:=0) none_ok rfl rfl loops0 (h1:=[mapBlk 0 s.m]) (by simp) ?_ (.refl _)
  rw [i8b]
  exact BT (BT (bift (by simpa [hd0] using hg) rfl))
 ·refine Last.mk0 (A:=A42) (m:=0) none_ok rfl rfl loops0 (h1:=[mapBlk 0 s.m]) (by simp) ?_ (.refl _)
  rw [i8b]
  exact BF rfl
theorem tupAgg {f:FuncId} {args l m r:List T} (t:ToldOk P42 G42 f args (.tup (.agg l :: r))) (h:ResToL l m):ToldOk P42 G42 f args (.tup (.agg m :: r)) :=
 ⟨t.enters,fun w U cargs hU hgl ha=>(t.calls w U cargs hU hgl ha).mono fun e w' ⟨v,q1,q2⟩=>⟨v,q1,by
  obtain ⟨h0,U',X,h1,h2,h3,h4,cs,rfl,h5⟩:=q2
  refine ⟨h0,U',X,h1,h2,h3,h4,cs,rfl,?_⟩
  generalize cs.toList = vs at h5 ⊢
  cases h5 with
  | cons _ _ _ _ _ _ g0 g1 =>
   obtain ⟨ds,rfl,g2,g3⟩:=g0
   exact .cons _ _ _ _ _ _ ⟨ds,rfl,g2,h.rtl0 g3⟩ g1⟩⟩
theorem noneTo {f:FuncId} {args:List T} {E:Int} (t:ToldOk P42 G42 f args (.tup [.agg [.nils,.nils],.int .i64 E])):ToldOk P42 G42 f args (.tup [stV [] [],.int .i64 E]) :=
 tupAgg t (.cons (.nilv _ _ _ (.inr rfl)) (.cons (.nilv _ _ _ (.inr rfl)) .nil))
theorem noneN {f:FuncId} {args:List T} {E:Int} (t:ToldOk P42 G42 f args (.tup [.agg [.nils,.nils],.int .i64 E])):ToldOk P42 G42 f args (.tup [stN [] [],.int .i64 E]) :=
 tupAgg t (.cons (.niln _ _ _ (.inr rfl)) (.cons (.niln _ _ _ (.inr rfl)) .nil))
theorem mrgT (a b:List Hld) (c d:Option Nat) (hn:a.length<=400000) (hm:b.length<=400000):ToldOk P42 G42 25 [hdV a c,hdV b d] (hdV (mgL a b) none):=by
 rcases Nat.eq_zero_or_pos (a.length+b.length) with q | q
 ·have ha:a = []:=List.length_eq_zero_iff.1 (by omega)
  have hb:b = []:=List.length_eq_zero_iff.1 (by omega)
  subst ha hb
  exact (mergeZ (lstF []) (lstF []) c d).resTo (.nilv _ _ _ (.inl rfl))
 ·exact (mergeP a.length b.length (lstF a) (lstF b) c d hn hm q).frz.resTo (.newv _)
theorem madeT (cs:List Cne) (hs:List Hld) (hn:cs.length<=1000000) (hm:hs.length<=1000000):ToldOk P42 G42 26 [cnV cs none,hdV hs none] (stV cs hs) :=
 (madeF cs.length hs.length (fun j=>cs.getD j cn0) (lstF hs) hn hm).frz.aggTo (.cons (.newv _) (.cons (.newv _) .nil))
noncomputable def rsv (cs:List Cne) (hs l:List Hld):List Cne × List Hld × Int :=
 if ckE cs hs ≠ 0 then ([],[],ckE cs hs) else if lOk l = false then ([],[],1) else if shortM (takeS (freeS cs hs) l l.length).m = true then ([],[],18) else
 if bigOk (mgL hs l) = false then ([],[],3) else if 512<(mgL hs l).length then ([],[],9) else (cs,mgL hs l,0)
theorem hOk_of {hs:List Hld} (h:lOk hs = true):∀ c,c ∈ hs->hvB c = true:=fun c hc=>by
 obtain ⟨i,hi,rfl⟩:=List.getElem_of_mem hc
 have:=(allB_iff _ _).1 h i hi
 rwa [List.getD_eq_getElem?_getD,List.getElem?_eq_getElem hi] at this
theorem ckE_0 {cs:List Cne} {hs:List Hld} (h:ckE cs hs = 0):cs.length<=512/\hs.length<=512/\cOk cs = true/\hOk hs = true/\shortM (freeS cs hs).m = false:=by
 unfold ckE at h
 split at h
 ·cases h
 ·split at h
  ·cases h
  ·split at h
   ·cases h
   ·rename_i h1 h2 h3
    simp only [not_or,Bool.not_eq_false,Bool.not_eq_true] at h1 h2 h3
    exact ⟨by omega,by omega,h2.1,h2.2,h3⟩
theorem take_good (cs:List Cne) (hs l:List Hld) (h1:∀ c,c ∈ cs->cvB c = true) (h2:∀ c,c ∈ hs->hvB c = true) (h3:∀ c,c ∈ l->hvB c = true) (n1:cs.length<=100000) (n2:hs.length<=100000) (n3:l.length<=100000) :
 Rep (takeS (freeS cs hs) l l.length) (fun x=>frF cs hs x - hdN l x) (cs.length+hs.length+l.length)/\MGood (takeS (freeS cs hs) l l.length).m:=by
 have c1:∀ c,c ∈ cs->0<=c.l/\c.l<=1000000000:=fun c hc=>by have:=cvB_iff.1 (h1 c hc); omega
 have c2:∀ c,c ∈ hs->0<=c.l/\c.l<=1000000000:=fun c hc=>by have:=hvB_iff.1 (h2 c hc); omega
 have c3:∀ c,c ∈ l->0<=c.l/\c.l<=1000000000:=fun c hc=>by have:=hvB_iff.1 (h3 c hc); omega
 have r:=takeS_rep l (fr_good cs hs h1 h2 (by omega) (by omega)).1 (fun x=>by
  have:=cnN_bd cs c1 x
  have:=hdN_bd hs c2 x
  unfold frF; omega) c3 (by omega) l.length (Nat.le_refl _)
 rw [List.take_length] at r
 refine ⟨r,r.good (by omega) (fun x=>?_) fun x hx=>?_⟩
 ·have:=cnN_bd cs c1 x
  have:=hdN_bd hs c2 x
  have:=hdN_bd l c3 x
  unfold frF; omega
 ·refine Classical.byContradiction fun hq=>hx ?_
  unfold frF
  rw [cn_out (fun c hc e=>hq (by have:=cvB_iff.1 (h1 c hc); omega)),hd_out (fun c hc e=>hq (by have:=hvB_iff.1 (h2 c hc); omega)),hd_out (cs:=l) (fun c hc e=>hq (by have:=hvB_iff.1 (h3 c hc); omega))]
  rfl
theorem mgL_len (a b:List Hld):(mgL a b).length<=a.length+b.length:=(mgTo_len _ _).1
theorem reserveT (cs:List Cne) (hs l:List Hld) (n1:cs.length<=100000) (n2:hs.length<=100000) (n3:l.length<=100000):ToldOk P42 G42 8 [.agg [cnV cs none,hdV hs none],hdV l none] (.tup [stN (rsv cs hs l).1 (rsv cs hs l).2.1,.int .i64 (rsv cs hs l).2.2]):=by
 obtain ⟨p10,h10⟩:=is_val P42 G42 10
 obtain ⟨p22,h22⟩:=is_val P42 G42 22
 obtain ⟨p25,h25⟩:=is_val P42 G42 25
 obtain ⟨p26,h26⟩:=is_val P42 G42 26
 obtain ⟨q23,h23⟩:=is_ref P42 G42 23
 obtain ⟨q24,h24⟩:=is_ref P42 G42 24
 obtain ⟨x,hx⟩:=is_loop P42 G42 (A42 8) 8 5
 obtain ⟨y,hy⟩:=is_loop P42 G42 (A42 8) 8 16
 have t10:=checkT cs hs (by omega) (by omega)
 have run:∀ r,stepL P42 G42 A42 (K8 p10 p22 p25 p26 q23 q24 (ckE cs hs) (freeS cs hs) (takeS (freeS cs hs) l l.length) (shortM (takeS (freeS cs hs) l l.length).m) (mgL hs l) cs) 0 8 (l8 x y cs hs l (mgL hs l) (lOk l) (bigOk (mgL hs l)) [mapBlk 0 (takeS (freeS cs hs) l l.length).m]) [.agg [cnV cs none,hdV hs none],hdV l none] = some r->ToldOk P42 G42 8 [.agg [cnV cs none,hdV hs none],hdV l none] r:=fun r hr =>
  stepL_told hm42 hn42 (told_addRef (told_addRef (told_add (told_add (told_add (told_add none_ok (callF_told h10)) (callF_told h22)) (callF_told h25)) (callF_told h26)) (refF_told h23)) (refF_told h24)) (A:=A42) (m:=0) (by kernel_rfl) (loopsC (loopF_ok hx _) (loops1 (loopF_ok hy _))) hr
 have s1:=scan8a cs hs l (by omega)
 unfold rsv
 by_cases e0:ckE cs hs ≠ 0
 ·rw [if_pos e0]
  refine noneN (run _ ?_)
  rw [k8]
  exact bift (callF_yes h10 t10) (bift (by simpa using e0) rfl)
 rw [if_neg e0]
 have e0:ckE cs hs = 0:=by simpa using e0
 obtain ⟨m1,m2,m3,m4,m5⟩:=ckE_0 e0
 rw [e0] at t10 run
 cases b1:lOk l
 ·rw [if_pos rfl]
  rw [b1] at run
  refine noneN (run _ ?_)
  rw [k8]
  exact bift (callF_yes h10 t10) (biff (by simp) (biff (by simp) (bift (decF_iff.2 (loopF_y hx (s1.2 b1))) rfl)))
 rw [if_neg (by simp)]
 rw [b1] at run
 have g:=take_good cs hs l (cOk_iff.1 m3) (hOk_val m4) (hOk_of b1) n1 n2 n3
 have t22:=freeT cs hs (by omega) (by omega)
 have t23:=takeR (freeS cs hs) 0 l none (by omega)
 have t24:ToldRef P42 G42 24 [.mp 0 0] [mapBlk 0 (takeS (freeS cs hs) l l.length).m] (.bool (shortM (takeS (freeS cs hs) l l.length).m)) [mapBlk 0 (takeS (freeS cs hs) l l.length).m]:=shortR (b:=mapBlk 0 (takeS (freeS cs hs) l l.length).m) rfl rfl g.2
 have pre:∀ {R:Type} {X Y r:R},X = r->(bif decF (x (v8a cs hs l 0) [] (Ex.exit 0) [hdV l none,.reg [cnV cs none,hdV hs none],.reg [.nils,.nils],.undef] []) then X else Y) = r:=fun h=>bift (decF_iff.2 (loopF_y hx (s1.1 b1))) h
 have s2:=scan8b cs hs (mgL hs l) (takeS (freeS cs hs) l l.length) (by have:=mgL_len hs l; omega)
 generalize takeS (freeS cs hs) l l.length = st at *
 cases b2:shortM st.m
 ·rw [if_neg (by simp)]
  rw [b2] at run t24
  have t25:=mrgT hs l none none (by omega) (by omega)
  have hml:=mgL_len hs l
  have t26:ToldOk P42 G42 26 [cnV cs none,hdV (mgL hs l) none] (stF cs (mgL hs l)):=madeF cs.length (mgL hs l).length (fun j=>cs.getD j cn0) (lstF (mgL hs l)) (by omega) (by omega)
  generalize mgL hs l = M at *
  cases b3:bigOk M
  ·rw [if_pos rfl]
   rw [b3] at run
   refine noneN (run _ ?_)
   rw [k8]
   exact bift (callF_yes h10 t10) (biff (by simp) (bift rfl (pre (bift (callF_yes h22 t22) (bift (refF_yes h23 t23) (bift (refF_yes h24 t24) (biff (by simp) (bift (callF_yes h25 t25) (biff (by simp) (bift (decF_iff.2 (loopF_y hy (s2.2 b3))) rfl))))))))))
  rw [if_neg (by simp)]
  rw [b3] at run
  by_cases b4:512<M.length
  ·rw [if_pos b4]
   refine noneN (run _ ?_)
   rw [k8]
   exact bift (callF_yes h10 t10) (biff (by simp) (bift rfl (pre (bift (callF_yes h22 t22) (bift (refF_yes h23 t23) (bift (refF_yes h24 t24) (biff (by simp) (bift (callF_yes h25 t25) (bift rfl (bift (decF_iff.2 (loopF_y hy (s2.1 b3))) (BT rfl)))))))))))
  rw [if_neg b4]
  suffices t:ToldOk P42 G42 8 [.agg [cnV cs none,hdV hs none],hdV l none] (.tup [stF cs M,.int .i64 0]) from t.frz
  refine run _ ?_
  rw [k8]
  refine bift (callF_yes h10 t10) (biff (by simp) (bift rfl (pre (bift (callF_yes h22 t22) (bift (refF_yes h23 t23) (bift (refF_yes h24 t24) (biff (by simp) (bift (callF_yes h25 t25) (bift rfl (bift (decF_iff.2 (loopF_y hy (s2.1 b3))) (BF (bift (callF_yes h26 t26) ?_))))))))))))
  rw [Nat.zero_add,Nat.zero_add,bleT (Nat.le_refl _),bleT (Nat.le_refl _)]
  simp only [Nat.zero_add]
  rfl
 ·rw [if_pos rfl]
  rw [b2] at run t24
  refine noneN (run _ ?_)
  rw [k8]
  exact bift (callF_yes h10 t10) (biff (by simp) (bift rfl (pre (bift (callF_yes h22 t22) (bift (refF_yes h23 t23) (bift (refF_yes h24 t24) (bift rfl rfl)))))))
open Go.Proofs
noncomputable def K13 (p10 p28 p26 p34:List T->T->Prop) (E:Int) (b:Bool) (cs cs2:List Cne) (hs:List Hld):Orc :=
 (((noneO.add 10 (callF p10 fun _=>some (.int .i64 E))).add 28 (callF p28 fun _=>some (.bool b))).add 26 (callF p26 fun _=>some (stN cs2 hs))).add 34 (callF p34 fun _=>some (cnV cs (some cs.length)))
noncomputable def K12 (p10 p22:List T->T->Prop) (E:Int) (s:Sm):Orc:=(noneO.add 10 (callF p10 fun _=>some (.int .i64 E))).add 22 (callF p22 fun _=>some (.freshm s.m))
theorem k34 (n:Nat) (f:Nat->Cne):stepV P42 G42 A42 noneO 0 34 [.view 2 n (fun j=>(f j).c) none] =
(
 bif decide (0<=Int.ofNat n)&&decide (Int.ofNat n<=Int.ofNat n)&&decide (Int.ofNat n<=Int.ofNat n) then
 bif n.ble n then
 some (.view 2 n (fun j=>(f ((0:Nat)+j)).c) (some n))
 else none else
 none):=by kernel_rfl
theorem k13 (cs cs2:List Cne) (hs:List Hld) (x:Cne) (E:Int) (b:Bool) (p10 p28 p26 p34:List T->T->Prop):stepV P42 G42 A42 (K13 p10 p28 p26 p34 E b cs cs2 hs) 0 13 [.agg [cnV cs none,hdV hs none],.agg x.c] =
(
 bif decF (p10 [.agg [cnV cs
 none,hdV hs
 none]] (.int .i64 E)) then
 bif !decide (E = 0) then
 some (.tup [.agg [.nils,.nils],.int .i64 E])
 else
 bif decF (p28 [.agg x.c] (.bool b)) then
 bif b then
 bif decide (Int.ofNat cs.length = 512) then
 some (.tup [.agg [.nils,.nils],.int .i64 9])
 else
 bif decF (p34 [cnV cs
 none] (cnV cs (some cs.length))) then
 bif cs.length.blt (cs.length+1)&&((cs.length+(1:Nat)) * (17:Nat)).ble 70368744177664 then
 bif decF (p26 [bif ((0:Nat)+(cs.length+(1:Nat))).ble (cs.length+1) then .view 2 (cs.length+1) (fun j =>
 bif ((0:Nat)+j).blt cs.length then (cs.getD ((0:Nat)+j) (Cne.mk (0:Int) (0:Int))).c
 else List.map plainOr ([x.c].getD (0+j - cs.length) [])) none else .undef,hdV hs
 none] (stN cs2 hs)) then
 some (.tup [stV cs2 hs,.int .i64 0])
 else none else none else none else
 some (.tup [.agg [.nils,.nils],.int .i64 1])
 else none else
 none):=by kernel_rfl
theorem k12 (cs:List Cne) (hs:List Hld) (a:Int) (E:Int) (s:Sm) (p10 p22:List T->T->Prop):stepV P42 G42 A42 (K12 p10 p22 E s) 0 12 [.agg [cnV cs none,hdV hs none],.int .i64 a] =
(
 bif decF (p10 [.agg [cnV cs
 none,hdV hs
 none]] (.int .i64 E)) then
 bif !decide (E = 0) then
 some (.int .i64 0)
 else
 bif decF (p22 [.agg [cnV cs
 none,hdV hs
 none]] (T.freshm (MapD.mk (KS.int IntKind.i64) IntKind.i64 s.has s.val s.born s.clock
 none))) then
 some (.int .i64 (s.val [a]))
 else none else
 none):=by kernel_rfl
theorem clipC (cs:List Cne):ToldOk P42 G42 34 [cnV cs none] (cnV cs (some cs.length)):=by
 refine stepV_told hm42 hn42 none_ok (A:=A42) (m:=0) ((k34 cs.length (fun j=>cs.getD j cn0)).trans ?_)
 refine BT (BT ?_)
 simp only [Nat.sub_zero,Nat.zero_add]
 rfl
theorem madeN (cs:List Cne) (hs:List Hld) (hn:cs.length<=1000000) (hm:hs.length<=1000000):ToldOk P42 G42 26 [cnV cs none,hdV hs none] (stN cs hs) :=
 (madeF cs.length hs.length (fun j=>cs.getD j cn0) (lstF hs) hn hm).frz
noncomputable def addO (cs:List Cne) (hs:List Hld) (x:Cne):List Cne × List Hld × Int :=
 if ckE cs hs ≠ 0 then ([],[],ckE cs hs) else if cvB x = false then ([],[],1) else if cs.length = 512 then ([],[],9) else (cs ++ [x],hs,0)
theorem addT (cs:List Cne) (hs:List Hld) (x:Cne) (n1:cs.length<=100000) (n2:hs.length<=100000):ToldOk P42 G42 13 [.agg [cnV cs none,hdV hs none],.agg x.c] (.tup [stV (addO cs hs x).1 (addO cs hs x).2.1,.int .i64 (addO cs hs x).2.2]):=by
 obtain ⟨p10,h10⟩:=is_val P42 G42 10
 obtain ⟨p28,h28⟩:=is_val P42 G42 28
 obtain ⟨p26,h26⟩:=is_val P42 G42 26
 obtain ⟨p34,h34⟩:=is_val P42 G42 34
 have t10:=checkT cs hs (by omega) (by omega)
 have t28:=cvT x
 have t26:=madeN (cs ++ [x]) hs (by simp; omega) (by omega)
 have t34:=clipC cs
 have run:∀ r,stepV P42 G42 A42 (K13 p10 p28 p26 p34 (ckE cs hs) (cvB x) cs (cs ++ [x]) hs) 0 13 [.agg [cnV cs none,hdV hs none],.agg x.c] = some r->ToldOk P42 G42 13 [.agg [cnV cs none,hdV hs none],.agg x.c] r:=fun r hr =>
  stepV_told hm42 hn42 (told_add (told_add (told_add (told_add none_ok (callF_told h10)) (callF_told h28)) (callF_told h26)) (callF_told h34)) (A:=A42) (m:=0) hr
 unfold addO
 by_cases e0:ckE cs hs ≠ 0
 ·rw [if_pos e0]
  refine noneTo (run _ ?_)
  rw [k13]
  exact bift (callF_yes h10 t10) (bift (by simpa using e0) rfl)
 rw [if_neg e0]
 have e0:ckE cs hs = 0:=by simpa using e0
 rw [e0] at t10 run
 cases b1:cvB x
 ·rw [if_pos rfl]
  rw [b1] at run t28
  refine noneTo (run _ ?_)
  rw [k13]
  exact bift (callF_yes h10 t10) (biff (by simp) (bift (callF_yes h28 t28) (biff (by simp) rfl)))
 rw [if_neg (by simp)]
 rw [b1] at run t28
 by_cases e1:cs.length = 512
 ·rw [if_pos e1]
  refine noneTo (run _ ?_)
  rw [k13]
  exact bift (callF_yes h10 t10) (biff (by simp) (bift (callF_yes h28 t28) (bift rfl (bift (by rw [e1]; rfl) rfl))))
 rw [if_neg e1]
 refine run _ ?_
 rw [k13]
 refine bift (callF_yes h10 t10) (biff (by simp) (bift (callF_yes h28 t28) (bift rfl (biff (by simp; omega) (bift (callF_yes h34 t34) (BT (bift (callF_yes h26 ?_) rfl)))))))
 have e:(cs ++ [x]).length = cs.length+1:=by simp
 refine t26.sim (.cons ?_ (.cons (.refl _) .nil))
 rw [bleT (by omega)]
 show Sim (.view 2 (cs.length+1) _ none) (.view 2 (cs ++ [x]).length (fun j=>((cs ++ [x]).getD j cn0).c) none)
 rw [e]
 refine Sim.view (.inl rfl) fun j hj=>?_
 simp only [Nat.zero_add]
 by_cases q:j<cs.length
 ·rw [show Nat.blt j cs.length = true from Nat.ble_eq_true_of_le q,cond_true,List.getD_eq_getElem?_getD,List.getD_eq_getElem?_getD,List.getElem?_append_left q]
  exact .refl _
 ·obtain rfl:j = cs.length:=by omega
  rw [show Nat.blt cs.length cs.length = false by rw [← Bool.not_eq_true,Nat.blt_eq]; omega,cond_false,Nat.sub_self]
  rw [List.getD_eq_getElem?_getD (l:=cs ++ [x]),List.getElem?_append_right (Nat.le_refl _),Nat.sub_self]
  exact .refl _
noncomputable def freeO (cs:List Cne) (hs:List Hld) (a:Int):Int:=if ckE cs hs ≠ 0 then 0 else frF cs hs a
theorem freeOT (cs:List Cne) (hs:List Hld) (a:Int) (n1:cs.length<=100000) (n2:hs.length<=100000):ToldOk P42 G42 12 [.agg [cnV cs none,hdV hs none],.int .i64 a] (.int .i64 (freeO cs hs a)):=by
 obtain ⟨p10,h10⟩:=is_val P42 G42 10
 obtain ⟨p22,h22⟩:=is_val P42 G42 22
 have t10:=checkT cs hs (by omega) (by omega)
 have t22:=freeT cs hs (by omega) (by omega)
 refine stepV_told hm42 hn42 (told_add (told_add none_ok (callF_told h10)) (callF_told h22)) (K:=K12 p10 p22 (ckE cs hs) (freeS cs hs)) (A:=A42) (m:=0) ?_
 rw [k12]
 refine bift (callF_yes h10 t10) ?_
 unfold freeO
 by_cases e0:ckE cs hs ≠ 0
 ·rw [if_pos e0]
  exact bift (by simpa using e0) rfl
 rw [if_neg e0]
 have e0:ckE cs hs = 0:=by simpa using e0
 obtain ⟨m1,m2,m3,m4,m5⟩:=ckE_0 e0
 have g:=fr_good cs hs (cOk_iff.1 m3) (hOk_val m4) (by omega) (by omega)
 refine biff (by rw [e0]; simp) (bift (callF_yes h22 t22) ?_)
 rw [g.1.val]
open Go.Proofs
def v0H:T:=.view 3 0 (fun j=>([].getD j hd0:Hld).c) (some 0)
def v17 (o:Int) (cs:List Cne) (hs:List Hld) (r:T) (i:Nat):List T:=[.int .i64 o,.reg [cnV cs none,hdV hs none],.reg [.nils,.nils],.reg [cnV cs (some cs.length),r],hdV hs none,.int .i64 hs.length,.int .i64 i]
noncomputable def K17 (p10 p26:List T->T->Prop) (E:Int) (cs:List Cne):Orc :=
 ((noneO.add 10 (callF p10 fun _=>some (.int .i64 E))).add 26 (callF p26 fun _=>some (stV cs []))).inl P42 G42 A42 noneO 0 31
def fltTo (o:Int) (hs:List Hld):Nat->List Hld
 | 0=>[]
 | i+1=>if (hs.getD i hd0).o = o then fltTo o hs i else fltTo o hs i ++ [hs.getD i hd0]
theorem fltTo_len (o:Int) (hs:List Hld):∀ i,(fltTo o hs i).length<=i
 | 0=>Nat.le_refl _
 | i+1=>by
  have:=fltTo_len o hs i
  unfold fltTo
  split
  ·omega
  ·simp; omega
def rT:List Hld->T
 | []=>v0H
 | _ :: L=>.own 0 L.length 0 (L.length+1) none
def rH:List Hld->Heap
 | []=>[]
 | x :: L=>[rowB L.length (L.length+1) (lstF (x :: L))]
theorem i17a (o:Int) (cs:List Cne) (hs:List Hld) (i:Nat):iterR P42 G42 A42 noneO 0 17 [] 6 (v17 o cs hs v0H i) [] =
(
 bif decide (Int.ofNat i<Int.ofNat hs.length) then
 bif decide (0<=Int.ofNat i)&&decide (Int.ofNat i<Int.ofNat hs.length) then
 bif !decide ((hs.getD i (Hld.mk (0:Int) (0:Int) (0:Int))).o = o) then
 some ((.normal,[.int .i64 o,.reg [cnV cs
 none,hdV hs
 none],.reg [.nils,.nils],.reg [cnV cs (some cs.length),.own 1 0 0 1
 none],hdV hs
 none,.int .i64 (.ofNat hs.length),.int .i64 (IntKind.i64.wrap (Int.ofNat i+1))],[.mk 0 3 1 (fun j=>[(hs.getD i (Hld.mk (0:Int) (0:Int) (0:Int))).c].getD j []) true true
 none,.mk 0 3 1 (fun j =>
 bif j.blt 0 then [.int .i64 0,.int .i64 0,.int .i64 0]
 else [(hs.getD i (Hld.mk (0:Int) (0:Int) (0:Int))).c].getD (0+j) []) true false
 none]))
 else
 some ((.normal,[.int .i64 o,.reg [cnV cs
 none,hdV hs
 none],.reg [.nils,.nils],.reg [cnV cs (some cs.length),.view 3 0 (fun j=>[.int .i64 0,.int .i64 0,.int .i64 0]) (some 0)],hdV hs
 none,.int .i64 (.ofNat hs.length),.int .i64 (IntKind.i64.wrap (Int.ofNat i+1))],[]))
 else none else
 some ((.exit 0,[.reg [cnV cs
 none,hdV hs
 none],.reg [.nils,.nils],.reg [cnV cs (some cs.length),.view 3 0 (fun j=>[.int .i64 0,.int .i64 0,.int .i64 0]) (some 0)]],[]))):=by kernel_rfl
theorem i17b (o:Int) (cs:List Cne) (hs:List Hld) (i k:Nat) (L:Nat->Hld):iterR P42 G42 A42 noneO 0 17 [] 6 (v17 o cs hs (.own 0 k 0 (k+1) none) i) [rowB k (k+1) L] =
(
 bif decide (Int.ofNat i<Int.ofNat hs.length) then
 bif decide (0<=Int.ofNat i)&&decide (Int.ofNat i<Int.ofNat hs.length) then
 bif !decide ((hs.getD i (Hld.mk (0:Int) (0:Int) (0:Int))).o = o) then
 bif k==k&&true then
 bif ((0:Nat)+(k+(1:Nat))).ble (k+1) then
 bif ((k+(1:Nat)+(1:Nat)) * (25:Nat)).ble 70368744177664 then
 bif ((0:Nat)+(k+(1:Nat))+(1:Nat)).ble (k+1) then
 some ((.normal,[.int .i64 o,.reg [cnV cs
 none,hdV hs
 none],.reg [.nils,.nils],.reg [cnV cs (some cs.length),.own 0 k 0 (k+1+(1:Nat))
 none],hdV hs
 none,.int .i64 (.ofNat hs.length),.int .i64 (IntKind.i64.wrap (Int.ofNat i+1))],[.mk k 3 (k+1) (fun j =>
 bif ((0:Nat)+(k+(1:Nat))).ble j&&j.blt ((0:Nat)+(k+1)+(1:Nat)) then [(hs.getD i (Hld.mk (0:Int) (0:Int) (0:Int))).c].getD ((0:Nat)+(j - ((0:Nat)+(k+1)))) []
 else (L j).c) true false
 none,.mk 0 3 1 (fun j=>[(hs.getD i (Hld.mk (0:Int) (0:Int) (0:Int))).c].getD j []) true true
 none]))
 else
 some ((.normal,[.int .i64 o,.reg [cnV cs
 none,hdV hs
 none],.reg [.nils,.nils],.reg [cnV cs (some cs.length),.own 0 (k+1) (0:Nat) (k+1+(1:Nat))
 none],hdV hs
 none,.int .i64 (.ofNat hs.length),.int .i64 (IntKind.i64.wrap (Int.ofNat i+1))],[.mk (k+1) (3:Nat) (k+1+(1:Nat)) (fun j =>
 bif j.blt (k+1) then (L ((0:Nat)+j)).c
 else [(hs.getD i (Hld.mk (0:Int) (0:Int) (0:Int))).c].getD ((0:Nat)+(j - (k+1))) []) true false
 none,.mk 0 3 1 (fun j=>[(hs.getD i (Hld.mk (0:Int) (0:Int) (0:Int))).c].getD j []) true true
 none]))
 else none else none else none else
 some ((.normal,[.int .i64 o,.reg [cnV cs
 none,hdV hs
 none],.reg [.nils,.nils],.reg [cnV cs (some cs.length),.own 0 k 0 (k+1)
 none],hdV hs
 none,.int .i64 (.ofNat hs.length),.int .i64 (IntKind.i64.wrap (Int.ofNat i+1))],[rowB k (k+1) L]))
 else none else
 some ((.exit 0,[.reg [cnV cs
 none,hdV hs
 none],.reg [.nils,.nils],.reg [cnV cs (some cs.length),.own 0 k 0 (k+1)
 none]],[rowB k (k+1) L]))):=by kernel_rfl
theorem k17a (o:Int) (cs:List Cne) (hs:List Hld) (E:Int) (p10 p26:List T->T->Prop):stepL P42 G42 A42 (K17 p10 p26 E cs) 0 17 [(6,litS (v17 o cs hs v0H 0) [] (.exit 0) [.reg [cnV cs none,hdV hs none],.reg [.nils,.nils],.reg [cnV cs (some cs.length),v0H]] [])] [.agg [cnV cs none,hdV hs none],.int .i64 o] =
(
 bif decF (p10 [.agg [cnV cs
 none,hdV hs
 none]] (.int .i64 E)) then
 bif !decide (E = 0) then
 some (.tup [.agg [.nils,.nils],.int .i64 E])
 else
 bif decF (p26 [cnV cs
 none,.nils] (.agg [cnV cs (some cs.length),.view 3 0 (fun j=>[.int .i64 0,.int .i64 0,.int .i64 0]) (some 0)])) then
 bif weakF (v17 o cs hs (.view 3 0 (fun j=>[.int .i64 0,.int .i64 0,.int .i64 0]) (some 0)) (nat_lit 0)) [] (v17 o cs hs (.view 3 0 (fun j=>[.int .i64 0,.int .i64 0,.int .i64 0]) (some 0)) (nat_lit 0)) [] then
 bif decide (0 = Int.ofNat hs.length) then
 some (.tup [.agg [.nils,.nils],.int .i64 7])
 else
 some (.tup [.agg [cnV cs (some cs.length),.view 3 0 (fun j=>[.int .i64 0,.int .i64 0,.int .i64 0]) (some 0)],.int .i64 0])
 else none else none else
 none):=by kernel_rfl
theorem k17b (o:Int) (cs:List Cne) (hs:List Hld) (E:Int) (k:Nat) (L:Nat->Hld) (p10 p26:List T->T->Prop):stepL P42 G42 A42 (K17 p10 p26 E cs) 0 17 [(6,litS (v17 o cs hs v0H 0) [] (.exit 0) [.reg [cnV cs none,hdV hs none],.reg [.nils,.nils],.reg [cnV cs (some cs.length),.own 0 k 0 (k+1) none]] [rowB k (k+1) L])] [.agg [cnV cs none,hdV hs none],.int .i64 o] =
(
 bif decF (p10 [.agg [cnV cs
 none,hdV hs
 none]] (.int .i64 E)) then
 bif !decide (E = 0) then
 some (.tup [.agg [.nils,.nils],.int .i64 E])
 else
 bif decF (p26 [cnV cs
 none,.nils] (.agg [cnV cs (some cs.length),.view 3 0 (fun j=>[.int .i64 0,.int .i64 0,.int .i64 0]) (some 0)])) then
 bif weakF (v17 o cs hs (.view 3 0 (fun j=>[.int .i64 0,.int .i64 0,.int .i64 0]) (some 0)) (nat_lit 0)) [] (v17 o cs hs (.view 3 0 (fun j=>[.int .i64 0,.int .i64 0,.int .i64 0]) (some 0)) (nat_lit 0)) [] then
 bif k==k&&true then
 bif decide (Int.ofNat (k+1) = Int.ofNat hs.length) then
 some (.tup [.agg [.nils,.nils],.int .i64 7])
 else
 bif k==k&&true then
 bif k==k&&true then
 bif k==k&&true then
 bif decide (0<=Int.ofNat (k+1))&&decide (Int.ofNat (k+1)<=Int.ofNat (k+1))&&decide (Int.ofNat (k+1)<=Int.ofNat (k+1)) then
 some (.tup [.agg [cnV cs (some cs.length),
 bif k==k&&((0:Nat)+(k+(1:Nat))).ble (k+1) then .fresh true (3:Nat) (k+1) (fun j=>(L ((0:Nat)+j)).c) (k+1) (some (k+1))
 else .undef],.int .i64 0])
 else none else none else none else none else none else none else none else
 none):=by kernel_rfl
theorem loop17 (o:Int) (cs:List Cne) (hs:List Hld) (hn:hs.length<=900000):LoopOk P42 G42 (A42 17) 17 6 (litS (v17 o cs hs v0H 0) [] (.exit 0) [.reg [cnV cs none,hdV hs none],.reg [.nils,.nils],.reg [cnV cs (some cs.length),rT (fltTo o hs hs.length)]] (rH (fltTo o hs hs.length))):=by
 refine loop_steps hm42 (by kernel_rfl) (fun i=>v17 o cs hs (rT (fltTo o hs i)) i) (fun i=>rH (fltTo o hs i)) (n:=hs.length) (fun i hi=>?_) ?_
 ·have hl:=fltTo_len o hs i
  have hd:hs.getD i ⟨0,0,0⟩ = hs.getD i hd0:=rfl
  show Step P42 G42 (A42 17) 17 6 0 _ _ _ _
  simp only [fltTo]
  by_cases q:(hs.getD i hd0).o = o
  ·rw [if_pos q]
   generalize fltTo o hs i = L at *
   cases L with
   | nil =>
    refine Step.mk0 (A:=A42) (m:=0) none_ok rfl rfl loops0 (h1:=[]) ?_ .nil
    show iterR P42 G42 A42 noneO 0 17 [] 6 (v17 o cs hs v0H i) [] = _
    rw [i17a,up1 (by omega),hd]
    exact BT (BT (biff (by simpa using q) rfl))
   | cons x L =>
    refine Step.mk0 (A:=A42) (m:=0) none_ok rfl rfl loops0 (h1:=rH (x :: L)) ?_ (.refl _)
    show iterR P42 G42 A42 noneO 0 17 [] 6 (v17 o cs hs (.own 0 L.length 0 (L.length+1) none) i) [rowB L.length (L.length+1) (lstF (x :: L))] = _
    rw [i17b,up1 (by omega),hd]
    exact BT (BT (biff (by simpa using q) rfl))
  ·rw [if_neg q]
   generalize fltTo o hs i = L at *
   generalize hs.getD i hd0 = y at *
   cases L with
   | nil =>
    refine Step.mkC (A:=A42) (m:=0) none_ok rfl rfl loops0 [1] (v1:=v17 o cs hs (.own 1 0 0 1 none) (i+1)) (h1:=[⟨0,3,1,fun j=>[y.c].getD j [],true,true,none⟩,⟨0,3,1,fun j=>bif Nat.blt j 0 then [.int .i64 0,.int .i64 0,.int .i64 0] else [y.c].getD (0+j) [],true,false,none⟩]) ?_ (by kernel_rfl) (v2:=v17 o cs hs (rT [y]) (i+1)) (by rfl) rfl fun nt=>.same (.cons ⟨rfl,rfl,rfl,id,fun j hj=>?_⟩ .nil)
    ·show iterR P42 G42 A42 noneO 0 17 [] 6 (v17 o cs hs v0H i) [] = _
     rw [i17a,up1 (by omega),hd]
     exact BT (BT (bift (by simpa using q) rfl))
    ·obtain rfl:j = 0:=by have:j<1:=hj; omega
     rfl
   | cons x L =>
    have hll:(x :: L).length = L.length+1:=rfl
    refine Step.mk (A:=A42) (m:=0) none_ok rfl rfl loops0 1 (Nat.zero_le _) (h1:=[⟨L.length+1,3,L.length+1+1,fun j=>bif Nat.blt j (L.length+1) then (lstF (x :: L) (0+j)).c else [y.c].getD (0+(j - (L.length+1))) [],true,false,none⟩,⟨0,3,1,fun j=>[y.c].getD j [],true,true,none⟩]) (vs':=v17 o cs hs (rT (x :: (L ++ [y]))) (i+1)) ?_ (by simp only [rT,List.length_append,List.length_singleton]; rfl) ?_
    ·show iterR P42 G42 A42 noneO 0 17 [] 6 (v17 o cs hs (.own 0 L.length 0 (L.length+1) none) i) [rowB L.length (L.length+1) (lstF (x :: L))] = _
     rw [i17b,up1 (by omega),hd]
     simp only [rT,List.length_append,List.length_singleton]
     exact BT (BT (bift (by simpa using q) (BT (BT (BT (BF rfl))))))
    ·show SameBlks [_] (rH (x :: (L ++ [y])))
     simp only [rH,List.length_append,List.length_singleton]
     refine .cons ⟨rfl,rfl,rfl,id,fun j hj=>?_⟩ .nil
     have hj:j<L.length+1+1:=hj
     show (lstF ((x :: L) ++ [y]) j).c = _
     by_cases q2:j<L.length+1
     ·have e:lstF ((x :: L) ++ [y]) j = lstF (x :: L) j:=by
       simp only [lstF,List.getD_eq_getElem?_getD]
       rw [List.getElem?_append_left (by rw [hll]; exact q2)]
      rw [e]
      simp only [show Nat.blt j (L.length+1) = true from Nat.ble_eq_true_of_le q2,cond_true,Nat.zero_add]
     ·obtain rfl:j = L.length+1:=by omega
      have e:lstF ((x :: L) ++ [y]) (L.length+1) = y:=by
       simp only [lstF,List.getD_eq_getElem?_getD]
       rw [List.getElem?_append_right (by rw [hll]; exact Nat.le_refl _),hll,Nat.sub_self]
       rfl
      have hf:Nat.blt (L.length+1) (L.length+1) = false:=by rw [← Bool.not_eq_true,Nat.blt_eq]; omega
      rw [e]
      simp only [hf,cond_false,Nat.sub_self,Nat.zero_add]
      rfl
 ·generalize fltTo o hs hs.length = L
  cases L with
  | nil =>
   refine Last.mk0 (A:=A42) (m:=0) none_ok rfl rfl loops0 (h1:=[]) (by simp) ?_ .nil
   show iterR P42 G42 A42 noneO 0 17 [] 6 (v17 o cs hs v0H hs.length) [] = _
   rw [i17a]
   exact BF rfl
  | cons x L =>
   refine Last.mk0 (A:=A42) (m:=0) none_ok rfl rfl loops0 (h1:=rH (x :: L)) (by simp) ?_ (.refl _)
   show iterR P42 G42 A42 noneO 0 17 [] 6 (v17 o cs hs (.own 0 L.length 0 (L.length+1) none) hs.length) [rowB L.length (L.length+1) (lstF (x :: L))] = _
   rw [i17b]
   exact BF rfl
noncomputable def relO (cs:List Cne) (hs:List Hld) (o:Int):List Cne × List Hld × Int :=
 if ckE cs hs ≠ 0 then ([],[],ckE cs hs) else if (fltTo o hs hs.length).length = hs.length then ([],[],7) else (cs,fltTo o hs hs.length,0)
theorem nilsV {c:Option Nat} (hc:c = none ∨ c = some 0):Sim .nils (hdV [] c):=by
 intro w U v h
 cases h
 exact .vnil _ _ _ hc
theorem releaseT (cs:List Cne) (hs:List Hld) (o:Int) (n1:cs.length<=100000) (n2:hs.length<=100000):ToldOk P42 G42 17 [.agg [cnV cs none,hdV hs none],.int .i64 o] (.tup [stV (relO cs hs o).1 (relO cs hs o).2.1,.int .i64 (relO cs hs o).2.2]):=by
 obtain ⟨p10,h10⟩:=is_val P42 G42 10
 obtain ⟨p26,h26⟩:=is_val P42 G42 26
 have t10:=checkT cs hs (by omega) (by omega)
 have t26:ToldOk P42 G42 26 [cnV cs none,.nils] (stV cs []):=(madeT cs [] (by omega) (by simp)).sim (.cons (.refl _) (.cons (nilsV (.inl rfl)) .nil))
 have l1:=loop17 o cs hs (by omega)
 have ok:OrcOk P42 G42 (K17 p10 p26 (ckE cs hs) cs):=told_inl hm42 hn42 (told_add (told_add none_ok (callF_told h10)) (callF_told h26)) none_ok
 unfold relO
 by_cases e0:ckE cs hs ≠ 0
 ·rw [if_pos e0]
  refine noneTo ?_
  cases hL:fltTo o hs hs.length with
  | nil =>
   rw [hL] at l1
   refine stepL_told hm42 hn42 ok (A:=A42) (m:=0) (by kernel_rfl) (loops1 l1) ?_
   refine (k17a o cs hs (ckE cs hs) p10 p26).trans ?_
   exact bift (callF_yes h10 t10) (bift (by simpa using e0) rfl)
  | cons x L =>
   rw [hL] at l1
   refine stepL_told hm42 hn42 ok (A:=A42) (m:=0) (by kernel_rfl) (loops1 l1) ?_
   refine (k17b o cs hs (ckE cs hs) L.length (lstF (x :: L)) p10 p26).trans ?_
   exact bift (callF_yes h10 t10) (bift (by simpa using e0) rfl)
 rw [if_neg e0]
 have e0:ckE cs hs = 0:=by simpa using e0
 rw [e0] at t10 ok
 cases hL:fltTo o hs hs.length with
 | nil =>
  rw [hL] at l1
  by_cases e1:([]:List Hld).length = hs.length
  ·rw [if_pos e1]
   refine noneTo (stepL_told hm42 hn42 ok (A:=A42) (m:=0) (by kernel_rfl) (loops1 l1) ?_)
   refine (k17a o cs hs 0 p10 p26).trans ?_
   exact bift (callF_yes h10 t10) (biff (by simp) (bift (callF_yes h26 t26) (bift (weakF_of ⟨rfl,.refl _⟩) (bift (by rw [← e1]; rfl) rfl))))
  ·rw [if_neg e1]
   refine stepL_told hm42 hn42 ok (A:=A42) (m:=0) (by kernel_rfl) (loops1 l1) ?_
   refine (k17a o cs hs 0 p10 p26).trans ?_
   exact bift (callF_yes h10 t10) (biff (by simp) (bift (callF_yes h26 t26) (bift (weakF_of ⟨rfl,.refl _⟩) (biff (by simp only [List.length_nil] at e1; simp; omega) rfl))))
 | cons x L =>
  rw [hL] at l1
  by_cases e1:(x :: L).length = hs.length
  ·rw [if_pos e1]
   refine noneTo (stepL_told hm42 hn42 ok (A:=A42) (m:=0) (by kernel_rfl) (loops1 l1) ?_)
   refine (k17b o cs hs 0 L.length (lstF (x :: L)) p10 p26).trans ?_
   exact bift (callF_yes h10 t10) (biff (by simp) (bift (callF_yes h26 t26) (bift (weakF_of ⟨rfl,.refl _⟩) (BT (bift (by rw [← e1]; simp) rfl)))))
  ·rw [if_neg e1]
   have t:ToldOk P42 G42 17 [.agg [cnV cs none,hdV hs none],.int .i64 o] (.tup [.agg [cnV cs (some cs.length),.fresh true 3 (L.length+1) (fun j=>(lstF (x :: L) j).c) (L.length+1) (some (L.length+1))],.int .i64 0]):=by
    refine stepL_told hm42 hn42 ok (A:=A42) (m:=0) (by kernel_rfl) (loops1 l1) ?_
    refine (k17b o cs hs 0 L.length (lstF (x :: L)) p10 p26).trans ?_
    refine bift (callF_yes h10 t10) (biff (by simp) (bift (callF_yes h26 t26) (bift (weakF_of ⟨rfl,.refl _⟩) (BT (biff (by simp only [List.length_cons] at e1; simp; omega) ?_)))))
    refine BT (BT (BT (BT ?_)))
    rw [Nat.zero_add,bleT (Nat.le_refl _),beq_self_eq_true]
    simp only [Nat.zero_add]
    rfl
   exact tupAgg t.frz (.cons (.refl _) (.cons (.newv _) .nil))
open Go.Proofs Go.RowKit Go.Maps Go.Sort Go.Shelf
set_option maxRecDepth 100000 in
set_option maxHeartbeats 1000000 in
theorem keys_at {P:Program} {ρ:Ren} (L:SlLaysZI.n10 P ρ) {H:Type} (F:Fence) (n:Nat) (h10:F.fn (ρ.f 10)) (hro:F.round = none) (hn:1<=n) (l:Nat) (p:Addr) (b nn:Nat) (D0:DataW H) {R:Value->Option (DataW H × List MemPlace)} (J:List Int->World->Prop)
 (hY:∀ pre x W,J pre W->pre.length<Maps.size D0->YieldAt F (n - 1) P l #[encZ x] W fun e W'=>e = .returned (.bool true)/\J (pre ++ [x]) W'/\KeepsWalks W W')
 (W:World) (hJ:AbidesFrom W.heap.size J) (hm:W.cell? p = some (.map (some b))) (hown:W.ownsMap P (ρ.t 26) R b nn D0) (h0:J [] W) :
 CallsIn F n P (ρ.f 10) #[.func (.yield l) #[] #[],.pointer (some p)] W fun e W'=>(∃ v,e = .returned v)/\∃ ss:List Int,ss.Perm (intKeys D0)/\J ss W':=by
 have mixed:=L.mixed; have t0:=L.t0; have a0:=L.a0; have z0:=L.z0; have v0:=L.v0; have t4:=L.t4; have a4:=L.a4; have z4:=L.z4; have v4:=L.v4; have t23:=L.t23; have a23:=L.a23; have z23:=L.z23; have v23:=L.v23; have t26:=L.t26; have a26:=L.a26; have z26:=L.z26; have v26:=L.v26; have t33:=L.t33; have a33:=L.a33; have z33:=L.z33; have v33:=L.v33
 have u0:=run_underlying L.t0; have u4:=run_underlying L.t4; have u23:=run_underlying L.t23; have u26:=run_underlying L.t26; have u33:=run_underlying L.t33
 obtain ⟨_,_,FG⟩:=L.f10
 refine callsIn_of_wp FG rfl h10 ?_ hro
 simp only [SlBodyZ.n10_ntmps ρ,List.size_toArray,List.length_cons,List.length_nil,Nat.reduceAdd,Nat.reduceSub,Array.replicate_succ,Array.replicate_zero,List.push_toArray,List.append_toArray,List.nil_append,List.cons_append]
 gi_wp2_with (first
  | (gi_at_range; refine wpListIn_range_own _ rfl _ (ρ.t 23) rfl (ρ.t 26) (ρ.t 3) (int_keyed L.t26) L.t23 _ b nn _ rfl hown ?_; intro w0 hrg0 hg0 hs0)
  | gi_in)
 go_frame
 gi_loopw [3] (fun _ wr=>∃ (left:Lit->Bool) (cnt:Nat) (ss:List Int),wr.ranges P (ρ.t 26) R b W.heap.size nn D0 left cnt/\ss.length+cnt<=Maps.size D0/\CollectedI D0 left ss/\J ss wr)
  (fun _ wr=>wr.rangeLeft b W.heap.size)
 case atStart =>
  exact ⟨_,_,[],hrg0,by simp,CollectedI.start D0,hJ [] W w0 none h0 hg0 (fun r e=>by cases e)⟩
 case round =>
  obtain ⟨left,cnt,ss,hrg,hcs,hC,hJs⟩:=hrel
  gi_wp2_with (first
   | (gi_at_next; refine wpListIn_next_ranges _ rfl _ rfl (ρ.t 26) (int_keyed L.t26) R encZ id (fun key kl hk=>by obtain ⟨x,hx,_⟩:=Maps.keyOf_i64 L.t26 hk; exact ⟨x,hx⟩) (fun v _ _=>⟨v,rfl⟩) b W.heap.size nn _ _ _ rfl hrg ?_ ?_)
   | gi_in)
  ·intro hc0 hl0
   gi_wp2
   go_end0
   exact ⟨⟨_,rfl⟩,ss,hC.perm hown (int_keyed L.t26) L.t26 hl0,hJs⟩
  ·intro x c kl yd yp w2 cnt2 hkey hlk hv hat hrg2 hlt hg2 hs2 hen
   obtain ⟨x',ex,rfl,_⟩:=Maps.keyOf_i64 L.t26 hkey
   obtain rfl:x = x':=encZ_inj ex
   have hJ2:J ss w2:=hJ ss wr w2 (some W.heap.size) hJs hg2 (fun r e=>by cases e; exact ⟨Nat.le_refl _,hrg.iter_walk⟩)
   obtain ⟨fn,tmps,assign,body,hy,hR⟩:=hY ss x w2 hJ2 (by omega)
   clear hs2
   gi_wp2
   refine hR.mono ?_
   rintro e W3 ⟨rfl,hJ3,hk3⟩
   gi_wp2
   have hrg3:=hrg2.of_walks hk3
   go_roundw
   case rel=>exact ⟨_,cnt2,ss ++ [x],hrg3,by simp; omega,hC.step hlk hat,hJ3⟩
   case measure=>rw [hrg3.left_eq,hrg.left_eq]; exact hlt
theorem keys_gives_at {P:Program} {ρ:Ren} (L:SlLaysZI.n10 P ρ) {H:Type} (F:Fence) (n:Nat) (h10:F.fn (ρ.f 10)) (hro:F.round = none) (hn:1<=n) (p:Addr) (b nn:Nat) (D0:DataW H) {R:Value->Option (DataW H × List MemPlace)} (w:World) (hBm:p.block<w.heap.size)
 (hm:w.cell? p = some (.map (some b))) (hown:w.ownsMap P (ρ.t 26) R b nn D0) :
 SeqGives F n P (ρ.f 10) #[.pointer (some p)] encZ (fun ss=>ss.Perm (intKeys D0)) (Maps.size D0) w:=fun l J W hW hJ hY h0=>by
 have hown':W.ownsMap P (ρ.t 26) R b nn D0:=by
  have hbl:=hown.lt
  obtain ⟨es,clock,hb,Ft,hs,hD⟩:=hown
  exact ⟨es,clock,(hW.block b hbl).trans hb,Ft,hs,hD⟩
 exact keys_at { L with } F n h10 hro hn l p b nn D0 J hY W hJ ((hW.cell (p:=p) hBm).trans hm) hown' h0
theorem sorts42I (m:Nat):AnyZI.SortsIn P42 sorted42_ren Fence.wide m :=
 ⟨fun blk off cap ss W hH hblk hsz=>callsIn_wide.2 (AnyM.slices_Sort_int sortI42 blk off cap ss W hH hblk hsz),
  fun p cap W=>callsIn_wide.2 (AnyM.slices_Sort_int_none sortI42 p cap W)⟩
theorem sortedKeys {H:Type} (p:Addr) (b nn:Nat) (D0:DataW H) {R:Value->Option (DataW H × List MemPlace)} (w:World) (hp:p.block<w.heap.size) (hm:w.cell? p = some (.map (some b))) (hown:w.ownsMap P42 3 R b nn D0) (hmax:Maps.size D0<=1000000) :
 Calls P42 35 #[.func (.func 47) #[] #[.pointer (some p)]] w fun e w'=>∃ (v:Value) (ss:List Int),e = .returned v/\ss.Perm (intKeys D0) ∧
  w'.ownsRow w.heap.size 3 1 v ss.length ((ss.mergeSort (fun x y=>decide (x<=y))).map encZ)/\(v = .slice none 0 0 ↔ ss = [])/\Below w.heap.size w w':=by
 refine (callsIn_wide (n:=5)).1 ?_
 have hseq:SeqGives Fence.wide 2 P42 47 #[.pointer (some p)] encZ (fun ss=>ss.Perm (intKeys D0)) (Maps.size D0) w :=
  keys_gives_at (ρ:=keysN42_ren) keysN42 Fence.wide _ trivial rfl (by omega) p b nn D0 w hp hm hown
 exact AnyZI.sorted_in sorted42 Fence.wide 5 trivial trivial trivial trivial rfl (by omega) (sorts42I _) (enters_of Try.func46 (by kernel_rfl) rfl) 47 #[.pointer (some p)] trivial (enters_of Try.func47 (by kernel_rfl) rfl) _ _ (by simp only [maxLen]; omega) (by omega) _ hseq
open Go.Proofs Go.RowKit Go.Maps Go.Sort Go.Shelf
def keyBlk (ks:List Int):Blk:=⟨0,1,ks.length,fun x=>[.int .i64 (ks.getD x 0)],true,false,none⟩
def boxM (i v:Nat):Blk:=⟨0,1,1,fun _=>[.mp i v],false,false,none⟩
theorem ks_perm {H:Type} {D0:DataW H} {w:World} {cb n:Nat} {R:Value->Option (DataW H × List MemPlace)} (hown:w.ownsMap P42 3 R cb n D0) {ks:List Int} (hs:ks.Pairwise (·<·)) (hm:∀ x,x ∈ ks ↔ Maps.has D0 (.int .i64 x) = true):ks.Perm (intKeys D0) :=
 CollectedI.perm (left:=fun _=>false) ⟨hs.imp fun h=>by omega,fun x=>by rw [hm]; simp⟩ hown keyed42 Try.underlying3 fun _=>rfl
theorem ks_sorted {ks ss l:List Int} (hs:ks.Pairwise (·<·)) (h1:ks.Perm l) (h2:ss.Perm l):(ss.mergeSort fun x y=>decide (x<=y)) = ks:=by
 have e:ss.mergeSort leI = ks.mergeSort leI:=mergeSort_of_perm_i (h2.trans h1.symm)
 show ss.mergeSort leI = ks
 rw [e]
 exact List.mergeSort_of_pairwise (hs.imp fun h=>by simp only [leI,decide_eq_true_eq]; omega)
theorem sortedR {h:Heap} {i j:Nat} {b:Blk} {m:MapD} (hb:h[i]? = some b) (hbm:b.mp = some m) (gm:MGood m) (hj:h[j]? = some (boxM i b.ver)) {ks:List Int} (hs:ks.Pairwise (·<·)) (hk:∀ x,x ∈ ks ↔ m.has [x] = true) (hc:m.clock<=1000000) :
 ToldRef P42 G42 35 [.fn 47 [.ptr j 0 0 0]] h (if ks = [] then .nils else .own h.length 0 0 ks.length none) (if ks = [] then h else h ++ [keyBlk ks]):=by
 refine ⟨⟨Try.f35,Try.func35,by kernel_rfl,by kernel_rfl⟩,fun g w cargs hr hno hgl ha=>?_⟩
 obtain ⟨v0,a1,a2⟩:=ha.2 0 _ rfl
 obtain rfl:=args1 ha.1.symm a1
 obtain ⟨cs,rfl,hl,hcs⟩:=a2.fn_inv
 obtain ⟨u0,c1,c2⟩:=hcs 0 _ rfl
 obtain rfl:cs = #[u0]:=args1 hl.symm c1
 obtain ⟨cb,sh,arr,e,hok⟩:=hr.blk j _ hj rfl (.inl (by show 0<1; omega))
 obtain ⟨mb,hφ,hmo,hmap⟩:=hr.mp i b m hb hbm
 have hu:u0 = .pointer (some ⟨cb,sh+0 * 1+0,none⟩):=by
  cases c2 with
  | imm _ _ hv=>cases hv
  | ptr _ _ _ _ b' _ hb' hver h1 hok' =>
   rw [hj] at hb'
   obtain rfl:=Option.some.inj hb'
   obtain ⟨cb',sh',q1,q2⟩:=hok' rfl
   rw [hok.φ] at q1
   obtain ⟨rfl,rfl⟩:=Prod.mk.inj (Option.some.inj q1)
   exact q2
 subst hu
 obtain ⟨x0,q1,q2,q3⟩:=hok.cell 0 0 (.mp i b.ver) (by show 0<1; omega) rfl
 have hx0:x0 = .map (some mb):=by
  cases q3 with
  | imm _ _ hv=>cases hv
  | mp _ _ b' _ hb' hver h1 hok' =>
   rw [hb] at hb'
   obtain rfl:=Option.some.inj hb'
   obtain ⟨cb',p1,p2⟩:=hok' rfl
   rw [hφ] at p1
   obtain ⟨rfl,_⟩:=Prod.mk.inj (Option.some.inj p1)
   exact p2
 subst hx0
 obtain ⟨D0,hown,hD⟩:=gm.owns (H:=Unit) (k:=3) (e:=3) Try.underlying3 Try.underlying3 hmap
 have hcell:w.cell? ⟨cb,sh+0 * 1+0,none⟩ = some (.map (some mb)):=by
  simp only [World.cell?,hok.heap]
  rw [if_neg (by simp)]
  exact q1
 have hperm:=ks_perm hown hs fun x=>by rw [hk x,(hD x).1]
 refine (sortedKeys ⟨cb,sh+0 * 1+0,none⟩ mb m.clock D0 w (lt_of_heap hok.heap) hcell hown (Nat.le_trans hown.size_le hc)).mono fun e' w' ⟨v,ss,he,hS,hrow,hnil,hbel⟩=>?_
 rw [ks_sorted hs hperm hS] at hrow
 have hlen:ss.length = ks.length:=hS.length_eq.trans hperm.length_eq.symm
 rw [hlen] at hrow
 refine ⟨v,he,?_⟩
 by_cases q:ks = []
 ·rw [if_pos q,if_pos q]
  have hss:ss = []:=List.length_eq_zero_iff.1 (by rw [hlen,q]; rfl)
  rw [hnil.2 hss]
  exact Res.grown hr ⟨hbel.os,hbel.tape,hbel.output,hbel.size,fun b hb _=>hbel.block b hb⟩ fun U=>.nils
 ·rw [if_neg q,if_neg q]
  obtain ⟨_,⟨_,hz⟩ | ⟨gb,cap,cur,rfl,hbase,hgb,r1,r2,r3,r4⟩⟩:=hrow
  ·exact absurd (List.length_eq_zero_iff.1 hz) q
  have hcur:∀ j,j<ks.length->cur[j]? = some (.int .i64 (ks.getD j 0)):=fun j hj=>by
   have:(cur.toList.take (ks.length * 1))[j]? = (ks.map encZ)[j]?:=by rw [r4]
   rw [List.getElem?_take_of_lt (by omega),List.getElem?_map,List.getElem?_eq_getElem hj] at this
   rw [← Array.getElem?_toList,this,List.getD_eq_getElem?_getD,List.getElem?_eq_getElem hj]
   rfl
  obtain ⟨g',e1,eU,hr',hkeep,hfr⟩:=hr.alloc (w':=w') (cb:=gb) (sh:=0) (arr:=cur) (e:=3) (b':=keyBlk ks) hbel.size (fun k hk=>hbel.block k hk) hgb hbase (by show 0+ks.length * 1<=cur.size; omega) (fun _ _=>rfl)
   (fun j o c hj ho=>by
    cases o with
    | zero =>
     simp only [keyBlk,List.getElem?_cons_zero,Option.some.injEq] at ho
     subst ho
     refine ⟨.int .i64 (ks.getD j 0),?_,rfl,.imm _ _ (.int _ _)⟩
     show cur[0+j * 1+0]? = _
     rw [show 0+j * 1+0 = j by omega]
     exact hcur j hj
    | succ o=>simp [keyBlk] at ho)
   (fun _ j hj c hc=>by simp [keyBlk] at hc; subst hc; rfl) hbel.os hbel.tape ⟨hbel.output,Nat.le_refl _⟩
  exact ⟨g',hr',.own _ _ _ _ _ _ _ (at_end h _) (Nat.le_refl _) rfl fun _=>.inl ⟨_,_,cap,_,e1,rfl,rfl,fun _=>by simp,r1,fun _ hm=>(by cases hm),by simp [keyBlk],⟨_,_,hgb,by simp [keyBlk]; omega⟩,fun _=>by simpa [keyBlk] using r1⟩,hkeep,hfr⟩
open Go.Proofs
def rowC (ver n:Nat) (f:Nat->Cne):Blk:=⟨ver,2,n,fun j=>(f j).c,true,false,none⟩
def v15a (l:List Hld) (i:Nat):List T:=[.mp 0 0,hdV l none,.int .i64 l.length,.int .i64 i]
def v15b (n:Nat) (r:T) (i:Nat):List T:=[.mp 0 0,r,.own 2 0 0 n none,.int .i64 n,.int .i64 i]
noncomputable def K15a (p21:List T->T->Prop) (q23:List T->Heap->T->Heap->Prop) (b:Bool) (s:Sm):Orc:=(noneO.add 21 (callF p21 fun _=>some (.bool b))).addRef 23 (refF q23 fun _ h=>some (.tup [],h.set 0 (mapBlk 0 s.m)))
def tabH (x:Hld):Blk:=⟨0,3,1,fun j=>[x.c].getD j [],true,true,none⟩
noncomputable def K15 (p10 p22:List T->T->Prop) (q35:List T->Heap->T->Heap->Prop) (E:Int) (s:Sm) (r:T) (x:Heap):Orc :=
 ((((noneO.add 10 (callF p10 fun _=>some (.int .i64 E))).add 22 (callF p22 fun _=>some (.freshm s.m))).addRef 35 (refF q35 fun _ h=>some (r,h ++ x))).inl P42 G42 A42 noneO 0 36).inl P42 G42 A42 noneO 0 34
theorem k23t (s:Sm) (x:Hld):stepR P42 G42 A42 (noneO.inl P42 G42 A42 noneO 0 37) 2 23 [] [.mp 0 0,.own 1 0 0 1 (some 1)] [mapBlk 0 s.m,tabH x] =
(
 bif decide ((bif decide (x.a = x.a)&&true then IntKind.i64.wrap (s.val [x.a]+IntKind.i64.wrap (0 - x.l))
 else s.val [x.a]) = (0:Int)) then
 some ((.tup [],[.mk 0 0 0 (fun x=>[]) false false (some (MapD.mk (KS.int IntKind.i64) IntKind.i64 (fun l=>!keq l [x.a]&&(keq l [x.a] || s.has l)) (fun l =>
 bif keq l [x.a] then (0:Int)
 else
 bif keq l [x.a] then IntKind.i64.wrap (s.val [x.a]+IntKind.i64.wrap (0 - x.l))
 else s.val l) (fun l =>
 bif keq l [x.a] then
 bif s.has [x.a] then s.born [x.a]
 else s.clock
 else s.born l) (bif s.has [x.a] then s.clock
 else s.clock+1)
 none)),tabH x]))
 else
 some ((.tup [],[.mk 0 0 0 (fun x=>[]) false false (some (MapD.mk (KS.int IntKind.i64) IntKind.i64 (fun l=>keq l [x.a] || s.has l) (fun l =>
 bif keq l [x.a] then IntKind.i64.wrap (s.val [x.a]+IntKind.i64.wrap (0 - x.l))
 else s.val l) (fun l =>
 bif keq l [x.a] then
 bif s.has [x.a] then s.born [x.a]
 else s.clock
 else s.born l) (bif s.has [x.a] then s.clock
 else s.clock+1)
 none)),tabH x]))):=by kernel_rfl
theorem i15a (l:List Hld) (i:Nat) (b:Bool) (s s2:Sm) (p21:List T->T->Prop) (q23:List T->Heap->T->Heap->Prop):iterR P42 G42 A42 (K15a p21 q23 b s2) 0 15 [] 5 (v15a l i) [mapBlk 0 s.m] =
(
 bif decide (Int.ofNat i<Int.ofNat l.length) then
 bif decide (0<=Int.ofNat i)&&decide (Int.ofNat i<Int.ofNat l.length) then
 bif decF (p21 [.agg (l.getD i (Hld.mk (0:Int) (0:Int) (0:Int))).c] (.bool b)) then
 bif b then
 bif decF (q23 [T.mp (0:Nat) (0:Nat),.own 1 0 0 1 (some 1)] [.mk 0 0 0 (fun x=>[]) false false (some (MapD.mk (KS.int IntKind.i64) IntKind.i64 s.has s.val s.born s.clock
 none)),tabH (l.getD i (Hld.mk (0:Int) (0:Int) (0:Int)))] (.tup []) [.mk 0 0 0 (fun x=>[]) false false (some (MapD.mk (KS.int IntKind.i64) IntKind.i64 s2.has s2.val s2.born s2.clock
 none)),tabH (l.getD i (Hld.mk (0:Int) (0:Int) (0:Int)))]) then
 some ((.normal,[T.mp (0:Nat) (0:Nat),hdV l
 none,.int .i64 (.ofNat l.length),.int .i64 (IntKind.i64.wrap (Int.ofNat i+1))],[.mk 0 0 0 (fun x=>[]) false false (some (MapD.mk (KS.int IntKind.i64) IntKind.i64 s2.has s2.val s2.born s2.clock
 none)),tabH (l.getD i (Hld.mk (0:Int) (0:Int) (0:Int)))]))
 else none else
 some ((.normal,[T.mp (0:Nat) (0:Nat),hdV l
 none,.int .i64 (.ofNat l.length),.int .i64 (IntKind.i64.wrap (Int.ofNat i+1))],[.mk 0 0 0 (fun x=>[]) false false (some (MapD.mk (KS.int IntKind.i64) IntKind.i64 s.has s.val s.born s.clock
 none))]))
 else none else none else
 some ((.exit 0,[T.mp (0:Nat) (0:Nat)],[.mk 0 0 0 (fun x=>[]) false false (some (MapD.mk (KS.int IntKind.i64) IntKind.i64 s.has s.val s.born s.clock
 none))]))):=by kernel_rfl
theorem i15b (ks:List Int) (i:Nat) (s:Sm):iterR P42 G42 A42 noneO 0 15 [] 12 (v15b ks.length .nils i) [mapBlk 0 s.m,boxM 0 0,keyBlk ks] =
(
 bif decide (Int.ofNat i<Int.ofNat ks.length) then
 bif decide (0<=Int.ofNat i)&&decide (Int.ofNat i<Int.ofNat ks.length) then
 bif ((0:Nat)+i).blt ks.length then
 bif decide (s.val [ks.getD (0+i) (0:Int)]<(0:Int)) then
 some ((.normal,[T.mp (0:Nat) (0:Nat),.own 4 0 0 1
 none,.own 2 0 0 ks.length
 none,.int .i64 (.ofNat ks.length),.int .i64 (IntKind.i64.wrap (Int.ofNat i+1))],[.mk 0 0 0 (fun x=>[]) false false (some (MapD.mk (KS.int IntKind.i64) IntKind.i64 s.has s.val s.born s.clock
 none)),boxM (0:Nat) (0:Nat),keyBlk ks,.mk 0 2 1 (fun j=>[[T.int .i64 (ks.getD ((0:Nat)+i) (0:Int)),T.int .i64 (IntKind.i64.wrap ((0:Int) - s.val [ks.getD ((0:Nat)+i) (0:Int)]))]].getD j []) true true
 none,.mk 0 2 1 (fun j=>[[T.int .i64 (ks.getD ((0:Nat)+i) (0:Int)),T.int .i64 (IntKind.i64.wrap ((0:Int) - s.val [ks.getD ((0:Nat)+i) (0:Int)]))]].getD (0+j) []) true false
 none]))
 else
 some ((.normal,[T.mp (0:Nat) (0:Nat),.nils,.own 2 0 0 ks.length
 none,.int .i64 (.ofNat ks.length),.int .i64 (IntKind.i64.wrap (Int.ofNat i+1))],[.mk 0 0 0 (fun x=>[]) false false (some (MapD.mk (KS.int IntKind.i64) IntKind.i64 s.has s.val s.born s.clock
 none)),boxM (0:Nat) (0:Nat),keyBlk ks]))
 else none else none else
 some ((.exit 2,[.nils],[.mk 0 0 0 (fun x=>[]) false false (some (MapD.mk (KS.int IntKind.i64) IntKind.i64 s.has s.val s.born s.clock
 none)),boxM (0:Nat) (0:Nat),keyBlk ks]))):=by kernel_rfl
theorem i15c (ks:List Int) (i k:Nat) (s:Sm) (L:Nat->Cne):iterR P42 G42 A42 noneO 0 15 [] 12 (v15b ks.length (.own 3 k 0 (k+1) none) i) [mapBlk 0 s.m,boxM 0 0,keyBlk ks,rowC k (k+1) L] =
(
 bif decide (Int.ofNat i<Int.ofNat ks.length) then
 bif decide (0<=Int.ofNat i)&&decide (Int.ofNat i<Int.ofNat ks.length) then
 bif ((0:Nat)+i).blt ks.length then
 bif decide (s.val [ks.getD (0+i) (0:Int)]<(0:Int)) then
 bif k==k&&true then
 bif ((0:Nat)+(k+(1:Nat))).ble (k+1) then
 bif ((k+(1:Nat)+(1:Nat)) * (17:Nat)).ble 70368744177664 then
 bif ((0:Nat)+(k+(1:Nat))+(1:Nat)).ble (k+1) then
 some ((.normal,[T.mp (0:Nat) (0:Nat),.own 3 k 0 (k+1+(1:Nat))
 none,.own 2 0 0 ks.length
 none,.int .i64 (.ofNat ks.length),.int .i64 (IntKind.i64.wrap (Int.ofNat i+1))],[.mk 0 0 0 (fun x=>[]) false false (some (MapD.mk (KS.int IntKind.i64) IntKind.i64 s.has s.val s.born s.clock
 none)),boxM (0:Nat) (0:Nat),keyBlk ks,.mk k 2 (k+1) (fun j =>
 bif ((0:Nat)+(k+(1:Nat))).ble j&&j.blt ((0:Nat)+(k+1)+(1:Nat)) then [[T.int .i64 (ks.getD ((0:Nat)+i) (0:Int)),T.int .i64 (IntKind.i64.wrap ((0:Int) - s.val [ks.getD ((0:Nat)+i) (0:Int)]))]].getD ((0:Nat)+(j - ((0:Nat)+(k+1)))) []
 else (L j).c) true false
 none,.mk 0 2 1 (fun j=>[[T.int .i64 (ks.getD ((0:Nat)+i) (0:Int)),T.int .i64 (IntKind.i64.wrap ((0:Int) - s.val [ks.getD ((0:Nat)+i) (0:Int)]))]].getD j []) true true
 none]))
 else
 some ((.normal,[T.mp (0:Nat) (0:Nat),.own 3 (k+1) (0:Nat) (k+1+(1:Nat))
 none,.own 2 0 0 ks.length
 none,.int .i64 (.ofNat ks.length),.int .i64 (IntKind.i64.wrap (Int.ofNat i+1))],[.mk 0 0 0 (fun x=>[]) false false (some (MapD.mk (KS.int IntKind.i64) IntKind.i64 s.has s.val s.born s.clock
 none)),boxM (0:Nat) (0:Nat),keyBlk ks,.mk (k+1) (2:Nat) (k+1+(1:Nat)) (fun j =>
 bif j.blt (k+1) then (L ((0:Nat)+j)).c
 else [[T.int .i64 (ks.getD ((0:Nat)+i) (0:Int)),T.int .i64 (IntKind.i64.wrap ((0:Int) - s.val [ks.getD ((0:Nat)+i) (0:Int)]))]].getD ((0:Nat)+(j - (k+1))) []) true false
 none,.mk 0 2 1 (fun j=>[[T.int .i64 (ks.getD ((0:Nat)+i) (0:Int)),T.int .i64 (IntKind.i64.wrap ((0:Int) - s.val [ks.getD ((0:Nat)+i) (0:Int)]))]].getD j []) true true
 none]))
 else none else none else none else
 some ((.normal,[T.mp (0:Nat) (0:Nat),.own 3 k 0 (k+1)
 none,.own 2 0 0 ks.length
 none,.int .i64 (.ofNat ks.length),.int .i64 (IntKind.i64.wrap (Int.ofNat i+1))],[.mk 0 0 0 (fun x=>[]) false false (some (MapD.mk (KS.int IntKind.i64) IntKind.i64 s.has s.val s.born s.clock
 none)),boxM (0:Nat) (0:Nat),keyBlk ks,rowC k (k+1) L]))
 else none else none else
 some ((.exit 2,[.own 3 k 0 (k+1)
 none],[.mk 0 0 0 (fun x=>[]) false false (some (MapD.mk (KS.int IntKind.i64) IntKind.i64 s.has s.val s.born s.clock
 none)),boxM (0:Nat) (0:Nat),keyBlk ks,rowC k (k+1) L]))):=by kernel_rfl
theorem k15z (cs:List Cne) (hs l:List Hld) (E:Int) (s s2:Sm) (p10 p22:List T->T->Prop) (q35:List T->Heap->T->Heap->Prop):stepL P42 G42 A42 (K15 p10 p22 q35 E s .nils []) 1 15 [(5,litS (v15a l 0) [mapBlk 0 s.m] (.exit 0) [.mp 0 0] [mapBlk 0 s2.m])] [.agg [cnV cs none,hdV hs none],hdV l none] =
(
 bif decF (p10 [.agg [cnV cs
 none,hdV hs
 none]] (.int .i64 E)) then
 bif !decide (E = 0) then
 some (.nils)
 else
 bif decF (p22 [.agg [cnV cs
 none,hdV hs
 none]] (T.freshm (MapD.mk (KS.int IntKind.i64) IntKind.i64 s.has s.val s.born s.clock
 none))) then
 bif weakF (v15a l (nat_lit 0)) [.mk 0 0 0 (fun x=>[]) false false (some (MapD.mk (KS.int IntKind.i64) IntKind.i64 s.has s.val s.born s.clock
 none))] (v15a l (nat_lit 0)) [.mk 0 0 0 (fun x=>[]) false false (some (MapD.mk (KS.int IntKind.i64) IntKind.i64 s.has s.val s.born s.clock
 none))] then
 bif decF (q35 [.fn (47:Nat) [.ptr 1 0 0 0]] [.mk 0 0 0 (fun x=>[]) false false (some (MapD.mk (KS.int IntKind.i64) IntKind.i64 s2.has s2.val s2.born s2.clock
 none)),boxM (0:Nat) (0:Nat)] .nils [.mk 0 0 0 (fun x=>[]) false false (some (MapD.mk (KS.int IntKind.i64) IntKind.i64 s2.has s2.val s2.born s2.clock
 none)),boxM (0:Nat) (0:Nat)]) then
 some (.nils)
 else none else none else none else
 none):=by kernel_rfl
theorem k15a (cs:List Cne) (hs l:List Hld) (E:Int) (ks:List Int) (s s2:Sm) (p10 p22:List T->T->Prop) (q35:List T->Heap->T->Heap->Prop):stepL P42 G42 A42 (K15 p10 p22 q35 E s (.own 2 0 0 ks.length none) [keyBlk ks]) 0 15 [(5,litS (v15a l 0) [mapBlk 0 s.m] (.exit 0) [.mp 0 0] [mapBlk 0 s2.m]),(12,litS (v15b ks.length .nils 0) [mapBlk 0 s2.m,boxM 0 0,keyBlk ks] (.exit 2) [.nils] [mapBlk 0 s2.m,boxM 0 0,keyBlk ks])] [.agg [cnV cs none,hdV hs none],hdV l none] =
(
 bif decF (p10 [.agg [cnV cs
 none,hdV hs
 none]] (.int .i64 E)) then
 bif !decide (E = 0) then
 some (.nils)
 else
 bif decF (p22 [.agg [cnV cs
 none,hdV hs
 none]] (T.freshm (MapD.mk (KS.int IntKind.i64) IntKind.i64 s.has s.val s.born s.clock
 none))) then
 bif weakF (v15a l (nat_lit 0)) [.mk 0 0 0 (fun x=>[]) false false (some (MapD.mk (KS.int IntKind.i64) IntKind.i64 s.has s.val s.born s.clock
 none))] (v15a l (nat_lit 0)) [.mk 0 0 0 (fun x=>[]) false false (some (MapD.mk (KS.int IntKind.i64) IntKind.i64 s.has s.val s.born s.clock
 none))] then
 bif decF (q35 [.fn (47:Nat) [.ptr 1 0 0 0]] [.mk 0 0 0 (fun x=>[]) false false (some (MapD.mk (KS.int IntKind.i64) IntKind.i64 s2.has s2.val s2.born s2.clock
 none)),boxM (0:Nat) (0:Nat)] (.own 2 0 0 ks.length
 none) [.mk 0 0 0 (fun x=>[]) false false (some (MapD.mk (KS.int IntKind.i64) IntKind.i64 s2.has s2.val s2.born s2.clock
 none)),boxM (0:Nat) (0:Nat),keyBlk ks]) then
 bif weakF (v15b ks.length .nils (nat_lit 0)) [.mk 0 0 0 (fun x=>[]) false false (some (MapD.mk (KS.int IntKind.i64) IntKind.i64 s2.has s2.val s2.born s2.clock
 none)),boxM (0:Nat) (0:Nat),keyBlk ks] (v15b ks.length .nils (nat_lit 0)) [.mk 0 0 0 (fun x=>[]) false false (some (MapD.mk (KS.int IntKind.i64) IntKind.i64 s2.has s2.val s2.born s2.clock
 none)),boxM (0:Nat) (0:Nat),keyBlk ks] then
 some (.nils)
 else none else none else none else none else
 none):=by kernel_rfl
theorem k15b (cs:List Cne) (hs l:List Hld) (E:Int) (ks:List Int) (k:Nat) (L:Nat->Cne) (s s2:Sm) (p10 p22:List T->T->Prop) (q35:List T->Heap->T->Heap->Prop):stepL P42 G42 A42 (K15 p10 p22 q35 E s (.own 2 0 0 ks.length none) [keyBlk ks]) 0 15 [(5,litS (v15a l 0) [mapBlk 0 s.m] (.exit 0) [.mp 0 0] [mapBlk 0 s2.m]),(12,litS (v15b ks.length .nils 0) [mapBlk 0 s2.m,boxM 0 0,keyBlk ks] (.exit 2) [.own 3 k 0 (k+1) none] [mapBlk 0 s2.m,boxM 0 0,keyBlk ks,rowC k (k+1) L])] [.agg [cnV cs none,hdV hs none],hdV l none] =
(
 bif decF (p10 [.agg [cnV cs
 none,hdV hs
 none]] (.int .i64 E)) then
 bif !decide (E = 0) then
 some (.nils)
 else
 bif decF (p22 [.agg [cnV cs
 none,hdV hs
 none]] (T.freshm (MapD.mk (KS.int IntKind.i64) IntKind.i64 s.has s.val s.born s.clock
 none))) then
 bif weakF (v15a l (nat_lit 0)) [.mk 0 0 0 (fun x=>[]) false false (some (MapD.mk (KS.int IntKind.i64) IntKind.i64 s.has s.val s.born s.clock
 none))] (v15a l (nat_lit 0)) [.mk 0 0 0 (fun x=>[]) false false (some (MapD.mk (KS.int IntKind.i64) IntKind.i64 s.has s.val s.born s.clock
 none))] then
 bif decF (q35 [.fn (47:Nat) [.ptr 1 0 0 0]] [.mk 0 0 0 (fun x=>[]) false false (some (MapD.mk (KS.int IntKind.i64) IntKind.i64 s2.has s2.val s2.born s2.clock
 none)),boxM (0:Nat) (0:Nat)] (.own 2 0 0 ks.length
 none) [.mk 0 0 0 (fun x=>[]) false false (some (MapD.mk (KS.int IntKind.i64) IntKind.i64 s2.has s2.val s2.born s2.clock
 none)),boxM (0:Nat) (0:Nat),keyBlk ks]) then
 bif weakF (v15b ks.length .nils (nat_lit 0)) [.mk 0 0 0 (fun x=>[]) false false (some (MapD.mk (KS.int IntKind.i64) IntKind.i64 s2.has s2.val s2.born s2.clock
 none)),boxM (0:Nat) (0:Nat),keyBlk ks] (v15b ks.length .nils (nat_lit 0)) [.mk 0 0 0 (fun x=>[]) false false (some (MapD.mk (KS.int IntKind.i64) IntKind.i64 s2.has s2.val s2.born s2.clock
 none)),boxM (0:Nat) (0:Nat),keyBlk ks] then
 bif k==k&&true then
 bif k==k&&true then
 bif k==k&&true then
 bif decide (0<=Int.ofNat (k+1))&&decide (Int.ofNat (k+1)<=Int.ofNat (k+1))&&decide (Int.ofNat (k+1)<=Int.ofNat (k+1)) then
 some (bif k==k&&((0:Nat)+(k+(1:Nat))).ble (k+1) then .fresh true (2:Nat) (k+1) (fun j=>(L ((0:Nat)+j)).c) (k+1) (some (k+1))
 else .undef)
 else none else none else none else none else none else none else none else none else
 none):=by kernel_rfl
theorem take1R (s:Sm) (x:Hld):ToldRef P42 G42 23 [.mp 0 0,.own 1 0 0 1 (some 1)] [mapBlk 0 s.m,tabH x] (.tup []) [mapBlk 0 (addS s x.a (IntKind.i64.wrap (0 - x.l))).m,tabH x]:=by
 refine stepR_told hm42 hn42 (told_inl hm42 hn42 none_ok none_ok) (K:=noneO.inl P42 G42 A42 noneO 0 37) (A:=A42) (m:=2) (l:=[]) (by kernel_rfl) loops0 ?_
 rw [k23t]
 unfold addS
 have e:(bif decide (x.a = x.a)&&true then IntKind.i64.wrap (s.val [x.a]+IntKind.i64.wrap (0 - x.l)) else s.val [x.a]) = IntKind.i64.wrap (s.val [x.a]+IntKind.i64.wrap (0 - x.l)):=by simp
 rw [e]
 by_cases q:IntKind.i64.wrap (s.val [x.a]+IntKind.i64.wrap (0 - x.l)) = 0
 ·rw [if_pos q,dT q]
  rfl
 ·rw [if_neg q,dF q]
  rfl
theorem loop15a (s:Sm) (l:List Hld) (hn:l.length<=900000) (hv:lOk l = true):LoopOk P42 G42 (A42 15) 15 5 (litS (v15a l 0) [mapBlk 0 s.m] (.exit 0) [.mp 0 0] [mapBlk 0 (takeS s l l.length).m]):=by
 obtain ⟨p21,h21⟩:=is_val P42 G42 21
 obtain ⟨q23,h23⟩:=is_ref P42 G42 23
 have ok:∀ b s,OrcOk P42 G42 (K15a p21 q23 b s):=fun b s=>told_addRef (told_add none_ok (callF_told h21)) (refF_told h23)
 refine loop_steps hm42 (by kernel_rfl) (fun i=>v15a l i) (fun i=>[mapBlk 0 (takeS s l i).m]) (n:=l.length) (fun i hi=>?_) ?_
 ·have t21:=hvT (l.getD i hd0)
  rw [(allB_iff _ _).1 hv i hi] at t21
  have t23:=take1R (takeS s l i) (l.getD i hd0)
  refine Step.mk (A:=A42) (m:=0) (ok true (takeS s l (i+1))) rfl rfl loops0 1 (Nat.le_refl _) (h1:=[mapBlk 0 (takeS s l (i+1)).m,tabH (l.getD i hd0)]) (vs':=v15a l (i+1)) ?_ (by rfl) (.refl _)
  rw [i15a,up1 (by omega)]
  exact BT (BT (bift (callF_yes h21 t21) (bift rfl (bift (refF_yes h23 t23) rfl))))
 ·refine Last.mk0 (A:=A42) (m:=0) (ok true s) rfl rfl loops0 (h1:=[mapBlk 0 (takeS s l l.length).m]) (by simp) ?_ (.refl _)
  rw [i15a]
  exact BF rfl
def ndC (s:Sm) (a:Int):Cne:=⟨a,IntKind.i64.wrap (0 - s.val [a])⟩
def ndTo (s:Sm) (ks:List Int):Nat->List Cne
 | 0=>[]
 | i+1=>if s.val [ks.getD i 0]<0 then ndTo s ks i ++ [ndC s (ks.getD i 0)] else ndTo s ks i
theorem ndTo_len (s:Sm) (ks:List Int):∀ i,(ndTo s ks i).length<=i
 | 0=>Nat.le_refl _
 | i+1=>by
  have:=ndTo_len s ks i
  unfold ndTo
  split
  ·simp; omega
  ·omega
def lstC (L:List Cne):Nat->Cne:=fun j=>L.getD j cn0
def rT3:List Cne->T
 | []=>.nils
 | _ :: L=>.own 3 L.length 0 (L.length+1) none
def rH3 (s:Sm) (ks:List Int):List Cne->Heap
 | []=>[mapBlk 0 s.m,boxM 0 0,keyBlk ks]
 | x :: L=>[mapBlk 0 s.m,boxM 0 0,keyBlk ks,rowC L.length (L.length+1) (lstC (x :: L))]
theorem same_one {b:Blk} {h h2:Heap} (hs:SameBlks h h2):SameBlks (b :: h) (b :: h2):=.cons ⟨rfl,rfl,rfl,id,fun _ _=>rfl⟩ hs
theorem loop15b (s:Sm) (ks:List Int) (hn:ks.length<=900000):LoopOk P42 G42 (A42 15) 15 12 (litS (v15b ks.length .nils 0) [mapBlk 0 s.m,boxM 0 0,keyBlk ks] (.exit 2) [rT3 (ndTo s ks ks.length)] (rH3 s ks (ndTo s ks ks.length))):=by
 refine loop_steps hm42 (by kernel_rfl) (fun i=>v15b ks.length (rT3 (ndTo s ks i)) i) (fun i=>rH3 s ks (ndTo s ks i)) (n:=ks.length) (fun i hi=>?_) ?_
 ·have hl:=ndTo_len s ks i
  show Step P42 G42 (A42 15) 15 12 3 _ _ _ _
  simp only [ndTo]
  by_cases q:s.val [ks.getD i 0]<0
  ·rw [if_pos q]
   generalize ndTo s ks i = L at *
   cases L with
   | nil =>
    refine Step.mkC (A:=A42) (m:=0) none_ok rfl rfl loops0 [0,1,2,4] (v1:=v15b ks.length (.own 4 0 0 1 none) (i+1)) (h1:=[mapBlk 0 s.m,boxM 0 0,keyBlk ks,⟨0,2,1,fun j=>[(ndC s (ks.getD i 0)).c].getD j [],true,true,none⟩,⟨0,2,1,fun j=>[(ndC s (ks.getD i 0)).c].getD (0+j) [],true,false,none⟩]) ?_ (by kernel_rfl) (v2:=v15b ks.length (rT3 [ndC s (ks.getD i 0)]) (i+1)) (by rfl) rfl fun nt=>.same (.cons ⟨rfl,rfl,rfl,id,fun _ _=>rfl⟩ (.cons ⟨rfl,rfl,rfl,id,fun _ _=>rfl⟩ (.cons ⟨rfl,rfl,rfl,id,fun _ _=>rfl⟩ (.cons ⟨rfl,rfl,rfl,id,fun j hj=>?_⟩ .nil))))
    ·show iterR P42 G42 A42 noneO 0 15 [] 12 (v15b ks.length .nils i) [mapBlk 0 s.m,boxM 0 0,keyBlk ks] = _
     rw [i15b,up1 (by omega)]
     simp only [Nat.zero_add]
     exact BT (BT (BT (BT rfl)))
    ·obtain rfl:j = 0:=by have:j<1:=hj; omega
     rfl
   | cons x L =>
    have hll:(x :: L).length = L.length+1:=rfl
    generalize hy:ndC s (ks.getD i 0) = y
    refine Step.mk (A:=A42) (m:=0) none_ok rfl rfl loops0 4 (by show 3<=4; decide) (h1:=[mapBlk 0 s.m,boxM 0 0,keyBlk ks,⟨L.length+1,2,L.length+1+1,fun j=>bif Nat.blt j (L.length+1) then (lstC (x :: L) j).c else [y.c].getD (0+(j - (L.length+1))) [],true,false,none⟩,⟨0,2,1,fun j=>[y.c].getD j [],true,true,none⟩]) (vs':=v15b ks.length (rT3 (x :: (L ++ [y]))) (i+1)) ?_ (by simp only [rT3,List.length_append,List.length_singleton]; rfl) ?_
    ·show iterR P42 G42 A42 noneO 0 15 [] 12 (v15b ks.length (.own 3 L.length 0 (L.length+1) none) i) [mapBlk 0 s.m,boxM 0 0,keyBlk ks,rowC L.length (L.length+1) (lstC (x :: L))] = _
     rw [i15c,up1 (by omega)]
     simp only [Nat.zero_add]
     simp only [rT3,List.length_append,List.length_singleton]
     subst hy
     exact BT (BT (BT (BT (BT (BT (BT (BF rfl)))))))
    ·show SameBlks [_,_,_,_] (rH3 s ks (x :: (L ++ [y])))
     simp only [rH3,List.length_append,List.length_singleton]
     refine same_one (same_one (same_one (.cons ⟨rfl,rfl,rfl,id,fun j hj=>?_⟩ .nil)))
     have hj:j<L.length+1+1:=hj
     show (lstC ((x :: L) ++ [y]) j).c = _
     by_cases q2:j<L.length+1
     ·have e:lstC ((x :: L) ++ [y]) j = lstC (x :: L) j:=by
       simp only [lstC,List.getD_eq_getElem?_getD]
       rw [List.getElem?_append_left (by rw [hll]; exact q2)]
      rw [e]
      simp only [show Nat.blt j (L.length+1) = true from Nat.ble_eq_true_of_le q2,cond_true]
     ·obtain rfl:j = L.length+1:=by omega
      have e:lstC ((x :: L) ++ [y]) (L.length+1) = y:=by
       simp only [lstC,List.getD_eq_getElem?_getD]
       rw [List.getElem?_append_right (by rw [hll]; exact Nat.le_refl _),hll,Nat.sub_self]
       rfl
      have hf:Nat.blt (L.length+1) (L.length+1) = false:=by rw [← Bool.not_eq_true,Nat.blt_eq]; omega
      rw [e]
      simp only [hf,cond_false,Nat.sub_self,Nat.zero_add]
      rfl
  ·rw [if_neg q]
   generalize ndTo s ks i = L at *
   cases L with
   | nil =>
    refine Step.mk0 (A:=A42) (m:=0) none_ok rfl rfl loops0 (h1:=rH3 s ks []) ?_ (.refl _)
    show iterR P42 G42 A42 noneO 0 15 [] 12 (v15b ks.length .nils i) [mapBlk 0 s.m,boxM 0 0,keyBlk ks] = _
    rw [i15b,up1 (by omega)]
    simp only [Nat.zero_add]
    exact BT (BT (BT (BF rfl)))
   | cons x L =>
    refine Step.mk0 (A:=A42) (m:=0) none_ok rfl rfl loops0 (h1:=rH3 s ks (x :: L)) ?_ (.refl _)
    show iterR P42 G42 A42 noneO 0 15 [] 12 (v15b ks.length (.own 3 L.length 0 (L.length+1) none) i) [mapBlk 0 s.m,boxM 0 0,keyBlk ks,rowC L.length (L.length+1) (lstC (x :: L))] = _
    rw [i15c,up1 (by omega)]
    simp only [Nat.zero_add]
    exact BT (BT (BT (BF rfl)))
 ·generalize ndTo s ks ks.length = L
  cases L with
  | nil =>
   refine Last.mk0 (A:=A42) (m:=0) none_ok rfl rfl loops0 (h1:=rH3 s ks []) (by simp) ?_ (.refl _)
   show iterR P42 G42 A42 noneO 0 15 [] 12 (v15b ks.length .nils ks.length) [mapBlk 0 s.m,boxM 0 0,keyBlk ks] = _
   rw [i15b]
   exact BF rfl
  | cons x L =>
   refine Last.mk0 (A:=A42) (m:=0) none_ok rfl rfl loops0 (h1:=rH3 s ks (x :: L)) (by simp) ?_ (.refl _)
   show iterR P42 G42 A42 noneO 0 15 [] 12 (v15b ks.length (.own 3 L.length 0 (L.length+1) none) ks.length) [mapBlk 0 s.m,boxM 0 0,keyBlk ks,rowC L.length (L.length+1) (lstC (x :: L))] = _
   rw [i15c]
   exact BF rfl
open Go.Proofs
def ksF (s:Sm):List Int:=((List.range 1001).map Int.ofNat).filter fun x=>s.has [x]
theorem ksF_sorted (s:Sm):(ksF s).Pairwise (·<·):=by
 refine List.Pairwise.filter _ ?_
 rw [List.pairwise_map]
 exact List.pairwise_lt_range.imp fun h=>Int.ofNat_lt.2 h
theorem ksF_mem {s:Sm} (h:∀ x,s.has [x] = true->1<=x/\x<=1000) (x:Int):x ∈ ksF s ↔ s.has [x] = true:=by
 unfold ksF
 rw [List.mem_filter]
 constructor
 ·exact fun q=>q.2
 ·intro q
  have:=h x q
  refine ⟨List.mem_map.2 ⟨x.toNat,List.mem_range.2 (by omega),?_⟩,q⟩
  show ((x.toNat:Nat):Int) = x
  omega
theorem ksF_len (s:Sm):(ksF s).length<=1001:=by
 refine Nat.le_trans (List.length_filter_le _ _) ?_
 simp
theorem take_has (cs:List Cne) (hs l:List Hld) (h1:∀ c,c ∈ cs->cvB c = true) (h2:∀ c,c ∈ hs->hvB c = true) (h3:∀ c,c ∈ l->hvB c = true) (n1:cs.length<=100000) (n2:hs.length<=100000) (n3:l.length<=100000) (x:Int) (hx:(takeS (freeS cs hs) l l.length).has [x] = true):1<=x/\x<=1000:=by
 have r:=(take_good cs hs l h1 h2 h3 n1 n2 n3).1
 rw [r.has] at hx
 have hx:¬ frF cs hs x - hdN l x = 0:=by simpa using hx
 refine Classical.byContradiction fun hq=>hx ?_
 unfold frF
 rw [cn_out (fun c hc e=>hq (by have:=cvB_iff.1 (h1 c hc); omega)),hd_out (fun c hc e=>hq (by have:=hvB_iff.1 (h2 c hc); omega)),hd_out (cs:=l) (fun c hc e=>hq (by have:=hvB_iff.1 (h3 c hc); omega))]
 rfl
noncomputable def needO (cs:List Cne) (hs l:List Hld):List Cne:=if ckE cs hs ≠ 0 then [] else ndTo (takeS (freeS cs hs) l l.length) (ksF (takeS (freeS cs hs) l l.length)) (ksF (takeS (freeS cs hs) l l.length)).length
theorem nilC {f:FuncId} {args:List T} (t:ToldOk P42 G42 f args .nils):ToldOk P42 G42 f args (.new (cnV [] (some ([]:List Cne).length))):=t.resTo (.niln _ _ _ (.inr rfl))
theorem needT (cs:List Cne) (hs l:List Hld) (n1:cs.length<=100000) (n2:hs.length<=100000) (n3:l.length<=100000) (hl:lOk l = true):ToldOk P42 G42 15 [.agg [cnV cs none,hdV hs none],hdV l none] (.new (cnV (needO cs hs l) (some (needO cs hs l).length))):=by
 obtain ⟨p10,h10⟩:=is_val P42 G42 10
 obtain ⟨p22,h22⟩:=is_val P42 G42 22
 obtain ⟨q35,h35⟩:=is_ref P42 G42 35
 have t10:=checkT cs hs (by omega) (by omega)
 have t22:=freeT cs hs (by omega) (by omega)
 have l1:=loop15a (freeS cs hs) l (by omega) hl
 have ok:∀ E s r x,OrcOk P42 G42 (K15 p10 p22 q35 E s r x):=fun E s r x=>told_inl hm42 hn42 (told_inl hm42 hn42 (told_addRef (told_add (told_add none_ok (callF_told h10)) (callF_told h22)) (refF_told h35)) none_ok) none_ok
 unfold needO
 by_cases e0:ckE cs hs ≠ 0
 ·rw [if_pos e0]
  refine nilC (stepL_told hm42 hn42 (ok (ckE cs hs) (freeS cs hs) .nils []) (A:=A42) (m:=1) (by kernel_rfl) (loops1 l1) ?_)
  refine (k15z cs hs l (ckE cs hs) (freeS cs hs) (takeS (freeS cs hs) l l.length) p10 p22 q35).trans ?_
  exact bift (callF_yes h10 t10) (bift (by simpa using e0) rfl)
 rw [if_neg e0]
 have e0:ckE cs hs = 0:=by simpa using e0
 rw [e0] at t10
 obtain ⟨m1,m2,m3,m4,m5⟩:=ckE_0 e0
 have g:=take_good cs hs l (cOk_iff.1 m3) (hOk_val m4) (hOk_of hl) n1 n2 n3
 have hh:=take_has cs hs l (cOk_iff.1 m3) (hOk_val m4) (hOk_of hl) n1 n2 n3
 generalize takeS (freeS cs hs) l l.length = st at *
 have t35:=sortedR (h:=[mapBlk 0 st.m,boxM 0 0]) (i:=0) (j:=1) (b:=mapBlk 0 st.m) rfl rfl g.2 rfl (ksF_sorted st) (ksF_mem hh) (Nat.le_trans g.1.clock (by omega))
 have hlen:=ksF_len st
 generalize ksF st = ks at *
 by_cases q:ks = []
 ·subst q
  rw [if_pos rfl,if_pos rfl] at t35
  refine nilC (stepL_told hm42 hn42 (ok 0 (freeS cs hs) .nils []) (A:=A42) (m:=1) (by kernel_rfl) (loops1 l1) ?_)
  refine (k15z cs hs l 0 (freeS cs hs) st p10 p22 q35).trans ?_
  exact bift (callF_yes h10 t10) (biff (by simp) (bift (callF_yes h22 t22) (bift (weakF_of ⟨rfl,.refl _⟩) (bift (refF_yes h35 t35) rfl))))
 ·rw [if_neg q,if_neg q] at t35
  have l2:=loop15b st ks (by omega)
  have t35:ToldRef P42 G42 35 [.fn 47 [.ptr 1 0 0 0]] [mapBlk 0 st.m,boxM 0 0] (.own 2 0 0 ks.length none) [mapBlk 0 st.m,boxM 0 0,keyBlk ks]:=t35
  cases hL:ndTo st ks ks.length with
  | nil =>
   rw [hL] at l2
   refine nilC (stepL_told hm42 hn42 (ok 0 (freeS cs hs) (.own 2 0 0 ks.length none) [keyBlk ks]) (A:=A42) (m:=0) (by kernel_rfl) (loopsC l1 (loops1 l2)) ?_)
   refine (k15a cs hs l 0 ks (freeS cs hs) st p10 p22 q35).trans ?_
   exact bift (callF_yes h10 t10) (biff (by simp) (bift (callF_yes h22 t22) (bift (weakF_of ⟨rfl,.refl _⟩) (bift (refF_yes h35 t35) (bift (weakF_of ⟨rfl,.refl _⟩) rfl)))))
  | cons x L =>
   rw [hL] at l2
   have t:ToldOk P42 G42 15 [.agg [cnV cs none,hdV hs none],hdV l none] (.fresh true 2 (L.length+1) (fun j=>(lstC (x :: L) j).c) (L.length+1) (some (L.length+1))):=by
    refine stepL_told hm42 hn42 (ok 0 (freeS cs hs) (.own 2 0 0 ks.length none) [keyBlk ks]) (A:=A42) (m:=0) (by kernel_rfl) (loopsC l1 (loops1 l2)) ?_
    refine (k15b cs hs l 0 ks L.length (lstC (x :: L)) (freeS cs hs) st p10 p22 q35).trans ?_
    refine bift (callF_yes h10 t10) (biff (by simp) (bift (callF_yes h22 t22) (bift (weakF_of ⟨rfl,.refl _⟩) (bift (refF_yes h35 t35) (bift (weakF_of ⟨rfl,.refl _⟩) ?_)))))
    refine BT (BT (BT (BT ?_)))
    rw [Nat.zero_add,bleT (Nat.le_refl _),beq_self_eq_true]
    simp only [Nat.zero_add]
    rfl
   exact t.frz
open Go.Proofs
def v30 (hs:List Hld) (x:Hld) (i j:Nat):List T:=[hdV hs none,.fn 29 [],.reg x.c,.int .i64 hs.length,.int .i64 i,.int .i64 j]
def w30 (hs:List Hld) (x:Hld) (i:Nat):List T:=[hdV hs none,.fn 29 [],.reg x.c,.int .i64 hs.length,.int .i64 i]
noncomputable def K30 (p:List T->T->Prop) (z:Int):Orc:=noneO.add 29 (callF p fun _=>some (.int .i64 z))
theorem i30 (hs:List Hld) (x:Hld) (i j:Nat) (p:List T->T->Prop) (z:Int):iterR P42 G42 A42 (K30 p z) 0 30 [] 3 (v30 hs x i j) [] =
(
 bif decide (Int.ofNat i<Int.ofNat j) then
 bif decide (0<=IntKind.i64.wrap ((IntKind.u64.wrap (IntKind.i64.wrap (Int.ofNat i+Int.ofNat j))).fdiv (2:Int)))&&decide (IntKind.i64.wrap ((IntKind.u64.wrap (IntKind.i64.wrap (Int.ofNat i+Int.ofNat j))).fdiv (2:Int))<Int.ofNat hs.length) then
 bif decF (p [.agg (hs.getD (IntKind.i64.wrap ((IntKind.u64.wrap (IntKind.i64.wrap (Int.ofNat i+Int.ofNat j))).fdiv (2:Int))).toNat (Hld.mk (0:Int) (0:Int) (0:Int))).c,.agg x.c] (.int .i64 z)) then
 bif decide (z<0) then
 some ((.normal,[hdV hs
 none,.fn (29:Nat) [],.reg x.c,.int .i64 (.ofNat hs.length),.int .i64 (IntKind.i64.wrap (IntKind.i64.wrap ((IntKind.u64.wrap (IntKind.i64.wrap (Int.ofNat i+Int.ofNat j))).fdiv (2:Int))+(1:Int))),.int .i64 (.ofNat j)],[]))
 else
 some ((.normal,[hdV hs
 none,.fn (29:Nat) [],.reg x.c,.int .i64 (.ofNat hs.length),.int .i64 (.ofNat i),.int .i64 (IntKind.i64.wrap ((IntKind.u64.wrap (IntKind.i64.wrap (Int.ofNat i+Int.ofNat j))).fdiv (2:Int)))],[]))
 else none else none else
 some ((.exit 0,w30 hs x i,[]))):=by kernel_rfl
theorem k30 (hs:List Hld) (x:Hld) (i:Nat) (p:List T->T->Prop) (z:Int):stepL P42 G42 A42 (K30 p z) 0 30 [(3,litS (v30 hs x 0 hs.length) [] (.exit 0) (w30 hs x i) [])] [hdV hs none,.agg x.c,.fn 29 []] =
(
 bif weakF (v30 hs x (nat_lit 0) hs.length) [] (v30 hs x (nat_lit 0) hs.length) [] then
 bif decide (Int.ofNat i<Int.ofNat hs.length) then
 bif decide (0<=Int.ofNat i)&&decide (Int.ofNat i<Int.ofNat hs.length) then
 bif decF (p [.agg (hs.getD i (Hld.mk (0:Int) (0:Int) (0:Int))).c,.agg x.c] (.int .i64 z)) then
 bif decide (z = 0) then
 some (.tup [.int .i64 (.ofNat i),.bool true])
 else
 some (.tup [.int .i64 (.ofNat i),.bool false])
 else none else none else
 some (.tup [.int .i64 (.ofNat i),.bool false])
 else
 none):=by kernel_rfl
theorem mid30 (i j:Nat) (h:i+j<=2000000):IntKind.i64.wrap ((IntKind.u64.wrap (IntKind.i64.wrap (Int.ofNat i+Int.ofNat j))).fdiv (2:Int)) = Int.ofNat ((i+j) / 2):=by
 have e1:IntKind.i64.wrap (Int.ofNat i+Int.ofNat j) = ((i+j:Nat):Int):=by
  rw [wr64 (by show (_:Int)<=(i:Int)+(j:Int); omega) (by show (i:Int)+(j:Int)<=_; omega)]
  show (i:Int)+(j:Int) = _; omega
 have e2:IntKind.u64.wrap ((i+j:Nat):Int) = ((i+j:Nat):Int):=by simp [IntKind.wrap,IntKind.bits,IntKind.signed]; omega
 have e3:(((i+j:Nat):Int)).fdiv 2 = (((i+j) / 2:Nat):Int):=by
  rw [Int.fdiv_eq_ediv_of_nonneg _ (by omega)]
  omega
 rw [e1,e2,e3,wr64 (by omega) (by omega)]
 rfl
def Asc (hs:List Hld):Prop:=∀ a b,a<b->b<hs.length->cmpH (hs.getD a hd0) (hs.getD b hd0)<0
theorem cmpH_trans {x y z:Hld} (h1:cmpH x y<0) (h2:cmpH y z<0):cmpH x z<0:=by
 rw [cmpH_lt] at *
 omega
theorem hOk_asc {hs:List Hld} (h:hOk hs = true):Asc hs:=by
 have step:∀ i,i+1<hs.length->cmpH (hs.getD i hd0) (hs.getD (i+1) hd0)<0:=fun i hi=>by
  have:=(allB_iff _ _).1 h (i+1) hi
  unfold hkB at this
  simp at this
  simpa using this.2
 intro a b hab hb
 induction b with
 | zero=>omega
 | succ b ih =>
  rcases Nat.lt_or_ge a b with q | q
  ·exact cmpH_trans (ih q (by omega)) (step b hb)
  ·obtain rfl:a = b:=by omega
   exact step a hb
structure At (hs:List Hld) (x:Hld) (i:Nat):Prop where
 le:i<=hs.length
 lo:∀ k,k<i->cmpH (hs.getD k hd0) x<0
 hi:∀ k,i<=k->k<hs.length->¬ cmpH (hs.getD k hd0) x<0
theorem searchT (hs:List Hld) (x:Hld) (hn:hs.length<=900000) (ha:Asc hs):∃ i,At hs x i/\ToldOk P42 G42 30 [hdV hs none,.agg x.c,.fn 29 []] (.tup [.int .i64 i,.bool (decide (i<hs.length)&&decide (cmpH (hs.getD i hd0) x = 0))]):=by
 obtain ⟨p,hp⟩:=is_val P42 G42 29
 have ok:∀ z,OrcOk P42 G42 (K30 p z):=fun z=>told_add none_ok (callF_told hp)
 obtain ⟨e,vs1,h1,⟨i,hA,rfl,rfl,rfl⟩,hL⟩:=loop_exists hm42 (f:=30) (r:=3) (by kernel_rfl) (an:=A42 30) (k:=0)
  (fun n vs h=>∃ i j,vs = v30 hs x i j/\h = []/\n = j - i/\i<=j/\j<=hs.length/\(∀ k,k<i->cmpH (hs.getD k hd0) x<0)/\∀ k,j<=k->k<hs.length->¬ cmpH (hs.getD k hd0) x<0)
  (fun e vs h=>∃ i,At hs x i/\e = .exit 0/\vs = w30 hs x i/\h = [])
  (fun n vs h hI=>by
   obtain ⟨i,j,rfl,rfl,rfl,hij,hj,hlo,hhi⟩:=hI
   rcases Nat.lt_or_ge i j with q | q
   ·have hm:=mid30 i j (by omega)
    have m1:i<=(i+j) / 2:=by omega
    have m2:(i+j) / 2<j:=by omega
    generalize (i+j) / 2 = m at hm m1 m2
    have t:=cmpHT (hs.getD m hd0) x
    by_cases c:cmpH (hs.getD m hd0) x<0
    ·refine .inl ⟨j - (m+1),v30 hs x (m+1) j,[],by omega,Step.mk0 (A:=A42) (m:=0) (ok (cmpH (hs.getD m hd0) x)) rfl rfl loops0 (h1:=[]) ?_ .nil,m+1,j,rfl,rfl,rfl,by omega,hj,fun k hk=>?_,hhi⟩
     ·rw [i30,hm,up1 (by omega)]
      have em:(Int.ofNat m).toNat = m:=rfl
      rw [em]
      exact BT (bift (by simp; omega) (bift (callF_yes hp t) (bift (by simpa using c) rfl)))
     ·rcases Nat.lt_or_ge k m with r | r
      ·exact cmpH_trans (ha k m r (by omega)) c
      ·obtain rfl:k = m:=by omega
       exact c
    ·refine .inl ⟨m - i,v30 hs x i m,[],by omega,Step.mk0 (A:=A42) (m:=0) (ok (cmpH (hs.getD m hd0) x)) rfl rfl loops0 (h1:=[]) ?_ .nil,i,m,rfl,rfl,rfl,by omega,by omega,hlo,fun k hk hk2=>?_⟩
     ·rw [i30,hm]
      have em:(Int.ofNat m).toNat = m:=rfl
      rw [em]
      exact BT (bift (by simp; omega) (bift (callF_yes hp t) (biff (by simpa using c) rfl)))
     ·rcases Nat.lt_or_ge m k with r | r
      ·exact fun h=>c (cmpH_trans (ha m k r hk2) h)
      ·obtain rfl:k = m:=by omega
       exact c
   ·obtain rfl:j = i:=by omega
    refine .inr ⟨.exit 0,w30 hs x j,[],Last.mk0 (A:=A42) (m:=0) (ok 0) rfl rfl loops0 (h1:=[]) (by simp) ?_ .nil,j,⟨hj,hlo,hhi⟩,rfl,rfl,rfl⟩
    rw [i30]
    exact biff (by simp) rfl)
  (n:=hs.length) rfl ⟨0,hs.length,rfl,rfl,rfl,Nat.zero_le _,Nat.le_refl _,fun k hk=>by omega,fun k hk hk2=>by omega⟩
 refine ⟨i,hA,?_⟩
 have t:=cmpHT (hs.getD i hd0) x
 refine stepL_told hm42 hn42 (ok (cmpH (hs.getD i hd0) x)) (A:=A42) (m:=0) (by kernel_rfl) (loops1 hL) ?_
 rw [k30]
 refine bift (weakF_of ⟨rfl,.refl _⟩) ?_
 by_cases c:i<hs.length
 ·have c1:decide (i<hs.length) = true:=decide_eq_true c
  refine BT (bift (by simp; omega) (bift (callF_yes hp t) ?_))
  rw [c1,Bool.true_and]
  cases decide (cmpH (hs.getD i hd0) x = 0) <;> rfl
 ·have c1:decide (i<hs.length) = false:=decide_eq_false c
  rw [c1,Bool.false_and]
  exact biff (by simp; omega) rfl
end Go.Ab

