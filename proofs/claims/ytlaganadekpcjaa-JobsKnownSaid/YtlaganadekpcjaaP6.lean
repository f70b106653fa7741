/- A part of the proof: nothing is assumed. -/
import Derived.Shelf.SlSortCmp.NoneTotal
import Derived.Ground.SlsfProg
import Derived.Shelf.SortM.Plain
import Derived.Shelf.SortM.SortNone
import Derived.Ground.SlgmProg
import Derived.Test.YtlaganadekpcjaaP4
import Derived.Test.YtlaganadekpcjaaP5
set_option linter.all false
namespace Go.Proofs
open Go.Shelf
def sort41_ren:Go.Shelf.Ren:=⟨fun | 6=>28 | 15=>33 | 14=>35 | 28=>46 | 29=>47 | 20=>49 | 21=>50 | 22=>51 | 23=>52 | 24=>53 | 25=>54 | 26=>55 | 27=>56 | 46=>62 | 47=>58 | 48=>59 | 49=>63 | 50=>64 | 57=>66 | n=>n,fun | 22=>26 | 24=>3 | 25=>69 | 3=>3 | 39=>72 | 0=>0 | 53=>31 | 55=>89 | 4=>4 | 46=>80 | 45=>79 | 50=>85 | 5=>5 | 9=>9 | 66=>95 | 70=>99 | 76=>103 | 77=>104 | n=>n,fun | n=>n⟩
theorem sort41:Go.Proofs.SlLaysF.n6 Try.prog sort41_ren:={
 mixed:=by kernel_rfl
 f6:=⟨Try.f28.name,by decide,Try.func28.trans (congrArg some (by kernel_rfl))⟩
 f14:=⟨Try.f35.name,by decide,Try.func35.trans (congrArg some (by kernel_rfl))⟩
 f15:=Try.func33.trans (congrArg some (by kernel_rfl))
 f20:=⟨Try.f49.name,by decide,Try.func49.trans (congrArg some (by kernel_rfl))⟩
 f21:=⟨Try.f50.name,by decide,Try.func50.trans (congrArg some (by kernel_rfl))⟩
 f22:=⟨Try.f51.name,by decide,Try.func51.trans (congrArg some (by kernel_rfl))⟩
 f23:=⟨Try.f52.name,by decide,Try.func52.trans (congrArg some (by kernel_rfl))⟩
 f24:=⟨Try.f53.name,by decide,Try.func53.trans (congrArg some (by kernel_rfl))⟩
 f25:=⟨Try.f54.name,by decide,Try.func54.trans (congrArg some (by kernel_rfl))⟩
 f26:=⟨Try.f55.name,by decide,Try.func55.trans (congrArg some (by kernel_rfl))⟩
 f27:=⟨Try.f56.name,by decide,Try.func56.trans (congrArg some (by kernel_rfl))⟩
 f28:=Try.func46.trans (congrArg some (by kernel_rfl))
 f29:=Try.func47.trans (congrArg some (by kernel_rfl))
 f46:=⟨Try.f62.name,by decide,Try.func62.trans (congrArg some (by kernel_rfl))⟩
 f47:=Try.func58.trans (congrArg some (by kernel_rfl))
 f48:=Try.func59.trans (congrArg some (by kernel_rfl))
 f49:=⟨Try.f63.name,by decide,Try.func63.trans (congrArg some (by kernel_rfl))⟩
 f50:=⟨Try.f64.name,by decide,Try.func64.trans (congrArg some (by kernel_rfl))⟩
 f57:=⟨Try.f66.name,by decide,Try.func66.trans (congrArg some (by kernel_rfl))⟩
 t0:=Try.underlying0
 a0:=Try.isAgg0
 z0:=Try.sizeOf0
 v0:=Try.zeroValue0
 t3:=Try.underlying3
 a3:=Try.isAgg3
 z3:=Try.sizeOf3
 v3:=Try.zeroValue3
 t4:=Try.underlying4
 a4:=Try.isAgg4
 z4:=Try.sizeOf4
 v4:=Try.zeroValue4
 t5:=Try.underlying5
 a5:=Try.isAgg5
 z5:=Try.sizeOf5
 v5:=Try.zeroValue5
 t9:=Try.underlying9
 a9:=Try.isAgg9
 z9:=Try.sizeOf9
 v9:=Try.zeroValue9
 t22:=Try.underlying26
 a22:=Try.isAgg26
 z22:=Try.sizeOf26
 v22:=Try.zeroValue26
 a24:=Try.isAgg3
 z24:=Try.sizeOf3
 t25:=Try.underlying69
 a25:=Try.isAgg69
 z25:=Try.sizeOf69
 v25:=Try.zeroValue69
 t39:=Try.underlying72
 a39:=Try.isAgg72
 z39:=Try.sizeOf72
 v39:=Try.zeroValue72
 t45:=Try.underlying79
 a45:=Try.isAgg79
 z45:=Try.sizeOf79
 v45:=Try.zeroValue79
 t46:=Try.underlying80
 a46:=Try.isAgg80
 z46:=Try.sizeOf80
 v46:=Try.zeroValue80
 t50:=Try.underlying85
 a50:=Try.isAgg85
 z50:=Try.sizeOf85
 v50:=Try.zeroValue85
 t53:=Try.underlying31
 a53:=Try.isAgg31
 z53:=Try.sizeOf31
 v53:=Try.zeroValue31
 t55:=Try.underlying89
 a55:=Try.isAgg89
 z55:=Try.sizeOf89
 v55:=Try.zeroValue89
 t66:=Try.underlying95
 a66:=Try.isAgg95
 z66:=Try.sizeOf95
 v66:=Try.zeroValue95
 t70:=Try.underlying99
 a70:=Try.isAgg99
 z70:=Try.sizeOf99
 v70:=Try.zeroValue99
 t76:=Try.underlying103
 a76:=Try.isAgg103
 z76:=Try.sizeOf103
 v76:=Try.zeroValue103
 t77:=Try.underlying104
 a77:=Try.isAgg104
 z77:=Try.sizeOf104
 v77:=Try.zeroValue104 }
end Go.Proofs
namespace Go.Proofs
open Go.Shelf
def sortI41_ren:Go.Shelf.Ren:=⟨fun | 5=>23 | 8=>33 | 7=>32 | 19=>46 | 20=>47 | 10=>37 | 11=>38 | 12=>39 | 13=>40 | 14=>41 | 15=>42 | 16=>43 | 17=>44 | 18=>45 | 30=>57 | 31=>58 | 32=>59 | 33=>60 | 34=>61 | 35=>36 | 40=>65 | n=>n,fun | 23=>26 | 25=>3 | 3=>3 | 32=>72 | 22=>26 | 0=>0 | 44=>31 | 46=>89 | 4=>4 | 36=>80 | 35=>79 | 41=>85 | 5=>5 | 9=>9 | 53=>95 | 57=>99 | 63=>103 | 64=>104 | n=>n,fun | n=>n⟩
theorem sortI41:Go.Proofs.SlLaysM.n5 Try.prog sortI41_ren:={
 mixed:=by kernel_rfl
 f5:=⟨Try.f23.name,by decide,Try.func23.trans (congrArg some (by kernel_rfl))⟩
 f7:=⟨Try.f32.name,by decide,Try.func32.trans (congrArg some (by kernel_rfl))⟩
 f8:=Try.func33.trans (congrArg some (by kernel_rfl))
 f10:=⟨Try.f37.name,by decide,Try.func37.trans (congrArg some (by kernel_rfl))⟩
 f11:=⟨Try.f38.name,by decide,Try.func38.trans (congrArg some (by kernel_rfl))⟩
 f12:=⟨Try.f39.name,by decide,Try.func39.trans (congrArg some (by kernel_rfl))⟩
 f13:=⟨Try.f40.name,by decide,Try.func40.trans (congrArg some (by kernel_rfl))⟩
 f14:=⟨Try.f41.name,by decide,Try.func41.trans (congrArg some (by kernel_rfl))⟩
 f15:=⟨Try.f42.name,by decide,Try.func42.trans (congrArg some (by kernel_rfl))⟩
 f16:=⟨Try.f43.name,by decide,Try.func43.trans (congrArg some (by kernel_rfl))⟩
 f17:=⟨Try.f44.name,by decide,Try.func44.trans (congrArg some (by kernel_rfl))⟩
 f18:=⟨Try.f45.name,by decide,Try.func45.trans (congrArg some (by kernel_rfl))⟩
 f19:=Try.func46.trans (congrArg some (by kernel_rfl))
 f20:=Try.func47.trans (congrArg some (by kernel_rfl))
 f30:=⟨Try.f57.name,by decide,Try.func57.trans (congrArg some (by kernel_rfl))⟩
 f31:=Try.func58.trans (congrArg some (by kernel_rfl))
 f32:=Try.func59.trans (congrArg some (by kernel_rfl))
 f33:=⟨Try.f60.name,by decide,Try.func60.trans (congrArg some (by kernel_rfl))⟩
 f34:=⟨Try.f61.name,by decide,Try.func61.trans (congrArg some (by kernel_rfl))⟩
 f35:=⟨Try.f36.name,by decide,Try.func36.trans (congrArg some (by kernel_rfl))⟩
 f40:=⟨Try.f65.name,by decide,Try.func65.trans (congrArg some (by kernel_rfl))⟩
 t0:=Try.underlying0
 a0:=Try.isAgg0
 z0:=Try.sizeOf0
 v0:=Try.zeroValue0
 t3:=Try.underlying3
 a3:=Try.isAgg3
 z3:=Try.sizeOf3
 v3:=Try.zeroValue3
 t4:=Try.underlying4
 a4:=Try.isAgg4
 z4:=Try.sizeOf4
 v4:=Try.zeroValue4
 t5:=Try.underlying5
 a5:=Try.isAgg5
 z5:=Try.sizeOf5
 v5:=Try.zeroValue5
 t9:=Try.underlying9
 a9:=Try.isAgg9
 z9:=Try.sizeOf9
 v9:=Try.zeroValue9
 t22:=Try.underlying26
 a22:=Try.isAgg26
 z22:=Try.sizeOf26
 v22:=Try.zeroValue26
 t23:=Try.underlying26
 a23:=Try.isAgg26
 z23:=Try.sizeOf26
 v23:=Try.zeroValue26
 t25:=Try.underlying3
 a25:=Try.isAgg3
 z25:=Try.sizeOf3
 v25:=Try.zeroValue3
 t32:=Try.underlying72
 a32:=Try.isAgg72
 z32:=Try.sizeOf72
 v32:=Try.zeroValue72
 t35:=Try.underlying79
 a35:=Try.isAgg79
 z35:=Try.sizeOf79
 v35:=Try.zeroValue79
 t36:=Try.underlying80
 a36:=Try.isAgg80
 z36:=Try.sizeOf80
 v36:=Try.zeroValue80
 t41:=Try.underlying85
 a41:=Try.isAgg85
 z41:=Try.sizeOf85
 v41:=Try.zeroValue85
 t44:=Try.underlying31
 a44:=Try.isAgg31
 z44:=Try.sizeOf31
 v44:=Try.zeroValue31
 t46:=Try.underlying89
 a46:=Try.isAgg89
 z46:=Try.sizeOf89
 v46:=Try.zeroValue89
 t53:=Try.underlying95
 a53:=Try.isAgg95
 z53:=Try.sizeOf95
 v53:=Try.zeroValue95
 t57:=Try.underlying99
 a57:=Try.isAgg99
 z57:=Try.sizeOf99
 v57:=Try.zeroValue99
 t63:=Try.underlying103
 a63:=Try.isAgg103
 z63:=Try.sizeOf103
 v63:=Try.zeroValue103
 t64:=Try.underlying104
 a64:=Try.isAgg104
 z64:=Try.sizeOf104
 v64:=Try.zeroValue104 }
end Go.Proofs
namespace Go.Ab
open Go.Proofs Go.Shelf Go.RowKit Go.Sort
def dueI (du:Nat->Int) (x y:Nat):Int:=orF (cmpF (du x) (du y)) (cmpF x y)
def dueLt (du:Nat->Int) (x y:Nat):Prop:=du x<du y ∨ (du x = du y/\x<y)
instance (du:Nat->Int) (x y:Nat):Decidable (dueLt du x y):=by unfold dueLt; infer_instance
theorem dueI_lt (du:Nat->Int) (x y:Nat):dueI du x y<0 ↔ dueLt du x y:=by
 unfold dueI orF cmpF dueLt
 by_cases h1:du x<du y
 ·simp [h1]
 ·by_cases h2:du y<du x
  ·simp [h1,h2]; omega
  ·have e:du x = du y:=by omega
   by_cases h3:x<y
   ·simp [e,h3]
   ·by_cases h4:y<x
    ·simp [e,h3,h4]
    ·simp [e,h3,h4]
def dueC {n:Nat} (du:Nat->Int) (x y:Fin n):Int:=dueI du x.val y.val
theorem dueC_lt {n:Nat} (du:Nat->Int) (x y:Fin n):ltOf (dueC du) x y = decide (dueLt du x.val y.val):=by
 unfold ltOf dueC
 rw [Bool.eq_iff_iff]
 simp only [decide_eq_true_eq]
 exact dueI_lt du x.val y.val
theorem dueSWO {n:Nat} (du:Nat->Int):SWO (ltOf (dueC (n:=n) du)) where
 irrefl x:=by rw [dueC_lt,decide_eq_false_iff_not]; unfold dueLt; omega
 trans x y z h1 h2:=by simp only [dueC_lt,decide_eq_true_eq] at *; unfold dueLt at *; omega
 ntrans x y z h1 h2:=by simp only [dueC_lt,decide_eq_false_iff_not] at *; unfold dueLt at *; omega
theorem dueTot {n:Nat} (du:Nat->Int) (x y:Fin n) (h1:ltOf (dueC du) x y = false) (h2:ltOf (dueC du) y x = false):x = y:=by
 simp only [dueC_lt,decide_eq_false_iff_not] at *
 unfold dueLt at *
 exact Fin.ext (by omega)
theorem sortsAt41 {n:Nat} [Inhabited (Fin n)] (du:Nat->Int):SortsAt P41 28 (encF (n:=n)) (dueC du):=by
 intro g cb blk off cap d w eg hcmp hH hblk hsz
 exact Any.slices_SortFunc_total sort41 (encF (n:=n)) (fun _=>rfl) (dueC du) (dueSWO du) g cb blk off cap d w eg hcmp hH hblk hsz (dueTot du)
theorem sortsI41:SortsI P41 23:=⟨fun blk off cap zs w hH hb hs=>AnyM.slices_Sort_int sortI41 blk off cap zs w hH hb hs,fun p cap w=>AnyM.slices_Sort_int_none sortI41 p cap w⟩
end Go.Ab

